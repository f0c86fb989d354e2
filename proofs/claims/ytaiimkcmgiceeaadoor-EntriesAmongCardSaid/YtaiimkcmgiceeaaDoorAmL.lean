/- Chapter 18, EntriesAmong: the library's stable sort: what its functions do, as functions of an array. -/
import Derived.Test.YtaiimkcmgiceeaaDoorAmO
import Derived.Shelf.SlSortCmp.KitK
import Derived.Deep.LoopGhost
namespace Go.Proofs.YtaiimkcmgiceeaaDoor
set_option linter.unusedVariables false
set_option linter.unusedSimpArgs false
open Go.RowKit Go.Lib Go.Sort Go.Shelf

def ins_ren : Go.Shelf.Ren := ⟨fun | 20 => 55 | n => n, fun | 0 => 0 | 3 => 3 | 4 => 4 | 22 => 22 | 24 => 32 | 25 => 63 | n => n, fun | n => n⟩
/-- The types that the sort names, the number of an element's cells a letter. -/
structure SrtL (P : Program) (k : Nat) : Prop where
  mixed : P.follows .mixedOrders = true
  fsw : P.funcs[71]? = some Tryd.f71
  fro : P.funcs[64]? = some Tryd.f64
  fsy : P.funcs[56]? = some Tryd.f56
  fst : P.funcs[44]? = some Tryd.f44
  fss : P.funcs[23]? = some Tryd.f23
  fin : Bears P 55 (SlBodyF.n20 ins_ren)
  t0 : P.underlying 0 = some (TypeDesc.tuple #[])
  a0 : ∀ w, (isAgg 0).run P w = .ok false w
  z0 : ∀ w, (Go.sizeOf 0).run P w = .ok 1 w
  v0 : ∀ w, (zeroValue 0).run P w = .ok (Value.tuple #[]) w
  t3 : P.underlying 3 = some (TypeDesc.int IntKind.i64)
  a3 : ∀ w, (isAgg 3).run P w = .ok false w
  z3 : ∀ w, (Go.sizeOf 3).run P w = .ok 1 w
  v3 : ∀ w, (zeroValue 3).run P w = .ok (Value.int IntKind.i64 0) w
  t4 : P.underlying 4 = some (TypeDesc.bool)
  a4 : ∀ w, (isAgg 4).run P w = .ok false w
  z4 : ∀ w, (Go.sizeOf 4).run P w = .ok 1 w
  v4 : ∀ w, (zeroValue 4).run P w = .ok (Value.bool false) w
  t5 : P.underlying 108 = some (TypeDesc.int IntKind.u64)
  a5 : ∀ w, (isAgg 108).run P w = .ok false w
  z5 : ∀ w, (Go.sizeOf 108).run P w = .ok 1 w
  t22 : P.underlying 22 = some (TypeDesc.slice 32)
  a22 : ∀ w, (isAgg 22).run P w = .ok false w
  z22 : ∀ w, (Go.sizeOf 22).run P w = .ok 1 w
  v22 : ∀ w, (zeroValue 22).run P w = .ok (Value.slice none 0 0) w
  t25 : P.underlying 63 = some (TypeDesc.func #[32, 32] #[3] false)
  a25 : ∀ w, (isAgg 63).run P w = .ok false w
  z25 : ∀ w, (Go.sizeOf 63).run P w = .ok 1 w
  v25 : ∀ w, (zeroValue 63).run P w = .ok (Value.nilFunc) w
  aE : ∀ w, (isAgg 32).run P w = .ok true w
  zE : ∀ w, (Go.sizeOf 32).run P w = .ok k w
theorem srtL : SrtL Tryd.prog 13 where
  mixed := by kernel_rfl
  fsw := Tryd.func71
  fro := Tryd.func64
  fsy := Tryd.func56
  fst := Tryd.func44
  fss := Tryd.func23
  fin := ⟨"slices.insertionSortCmpFunc[porter/entries.Entry]", by decide, Tryd.func55.trans (congrArg some (by kernel_rfl))⟩
  t0 := Tryd.underlying0
  a0 := Tryd.isAgg0
  z0 := Tryd.sizeOf0
  v0 := Tryd.zeroValue0
  t3 := Tryd.underlying3
  a3 := Tryd.isAgg3
  z3 := Tryd.sizeOf3
  v3 := Tryd.zeroValue3
  t4 := Tryd.underlying4
  a4 := Tryd.isAgg4
  z4 := Tryd.sizeOf4
  v4 := Tryd.zeroValue4
  t5 := Tryd.underlying108
  a5 := Tryd.isAgg108
  z5 := Tryd.sizeOf108
  t22 := Tryd.underlying22
  a22 := Tryd.isAgg22
  z22 := Tryd.sizeOf22
  v22 := Tryd.zeroValue22
  t25 := Tryd.underlying63
  a25 := Tryd.isAgg63
  z25 := Tryd.sizeOf63
  v25 := Tryd.zeroValue63
  aE := Tryd.isAgg32
  zE := Tryd.sizeOf32
theorem SrtL.n20 {P : Program} {k : Nat} (L : SrtL P k) : SlLaysF0.n20 P ins_ren := { mixed := L.mixed, f20 := L.fin, t0 := L.t0, a0 := L.a0, z0 := L.z0, v0 := L.v0, t3 := L.t3, a3 := L.a3, z3 := L.z3, v3 := L.v3, t4 := L.t4, a4 := L.a4, z4 := L.z4, v4 := L.v4, t22 := L.t22, a22 := L.a22, z22 := L.z22, v22 := L.v22, t25 := L.t25, a25 := L.a25, z25 := L.z25, v25 := L.v25 }

variable {α : Type} [Inhabited α]
/-- Two rows of n change places. -/
def swr (a b : Nat) : Nat → Array α → Array α
  | 0, d => d
  | n + 1, d => swp (swr a b n d) (a + n) (b + n)
theorem size_swr (a b n : Nat) (d : Array α) : (swr a b n d).size = d.size := by
  induction n with
  | zero => rfl
  | succ n ih => rw [swr, size_swp, ih]
set_option maxHeartbeats 64000000 in
set_option maxRecDepth 1000000 in
theorem swr_ok {P : Program} {k : Nat} (L : SrtL P k) (enc : α → List Value) (fv : Value) (blk off cap a b n : Nat) (d0 d : Array α) (w0 w : World) (R : RowK enc k w0 blk off d0) (hs : d0.size = d.size) (S : SWK enc k w0 blk off d w)
    (ha : a + n ≤ d.size) (hb : b + n ≤ d.size) (hsz : d.size < 4611686018427387904) :
    Calls P 71 #[.slice (some ⟨blk, off, none⟩) d.size cap, .int .i64 a, .int .i64 b, .int .i64 n, fv] w fun e w' => e = .returned (.tuple #[]) ∧ SWK enc k w0 blk off (swr a b n d) w' := by
  have mixed := L.mixed; have t0 := L.t0; have a0 := L.a0; have z0 := L.z0; have v0 := L.v0; have t3 := L.t3; have a3 := L.a3; have z3 := L.z3; have v3 := L.v3; have t4 := L.t4; have a4 := L.a4; have z4 := L.z4; have v4 := L.v4; have t22 := L.t22; have a22 := L.a22; have z22 := L.z22; have v22 := L.v22; have t25 := L.t25; have a25 := L.a25; have z25 := L.z25; have v25 := L.v25; have aE := L.aE; have zE := L.zE
  have u22 := run_underlying L.t22
  have FG := L.fsw
  have S0 : Aside _ := S
  clear S
  go_enter FG, Tryd.ntmps71
  go_wp2
  go_loopg [10] n (fun g1 vi wr => ∃ (i : Nat), vi = .int .i64 i ∧ i ≤ n ∧ n - i ≤ g1 ∧ Aside (SWK enc k w0 blk off (swr a b i d) wr))
  case atStart => exact ⟨0, by first | rfl | go_num, by omega, by omega, S0⟩
  case round =>
    clear S0
    obtain ⟨i, rfl, hin, hg1, S1⟩ := hrel
    by_cases hlt : i < n
    · have hltz : (i : Int) < (n : Int) := by omega
      obtain ⟨dk, hdk⟩ : ∃ dk, dk = swr a b i d := ⟨_, rfl⟩
      have hsk : dk.size = d.size := by rw [hdk, size_swr]
      have HDK : Hid (dk = swr a b i d) := hdk
      rw [← hdk] at S1
      clear hdk
      have ea : ((a : Int) + (i : Int)).toNat = a + i := by omega
      have pa : (0 : Int) ≤ (a : Int) + (i : Int) := by omega
      have ba : (a : Int) + (i : Int) < (d.size : Int) := by omega
      have ra : IntKind.i64.wrap ((a : Int) + (i : Int)) = (a : Int) + (i : Int) := by rw [IntKind.wrap_i64]; omega
      have eb : ((b : Int) + (i : Int)).toNat = b + i := by omega
      have pb : (0 : Int) ≤ (b : Int) + (i : Int) := by omega
      have bb : (b : Int) + (i : Int) < (d.size : Int) := by omega
      have rb : IntKind.i64.wrap ((b : Int) + (i : Int)) = (b : Int) + (i : Int) := by rw [IntKind.wrap_i64]; omega
      have ri : IntKind.i64.wrap ((i : Int) + 1) = (i : Int) + 1 := by rw [IntKind.wrap_i64]; omega
      have S3 : Aside (SWK enc k w0 blk off (swp dk (a + i) (b + i)) ((wr.drew.setCells blk (off + (a + i) * k) (enc dk[b + i]!)).setCells blk (off + (b + i) * k) (enc dk[a + i]!))) := S1.out.swapped R (a + i) (b + i) (by omega) (by omega)
      have la := S1.out.ld1 R (by omega) P (a + i) (by omega)
      have lb := S1.out.ld1 R (by omega) P (b + i) (by omega)
      have sa := S1.out.st1 R (by omega) P (a + i) (by omega) dk[b + i]!
      have sb := S1.out.st2 R (by omega) P (a + i) (b + i) (by omega) (by omega) dk[b + i]! dk[a + i]!
      have na : (enc dk[a + i]!).length = k := R.hk _
      have nb : (enc dk[b + i]!).length = k := R.hk _
      generalize enc dk[a + i]! = cI at S3 la sb na
      generalize enc dk[b + i]! = cJ at S3 lb sa sb nb
      clear S1
      go_wp2_with fail
      go_big_region_o
      clear la lb sa sb
      generalize (wr.drew.setCells blk (off + (a + i) * k) cJ).setCells blk (off + (b + i) * k) cI = w3 at S3 ⊢
      go_wp2
      go_roundg (n - (i + 1))
      case measure => omega
      case rel => exact ⟨i + 1, by first | go_num | (congr 1; omega), by omega, by omega, by have h := S3; rw [HDK.out] at h; exact h⟩
    · have hltz : ¬ (i : Int) < (n : Int) := by omega
      go_wp2
      go_end0
      obtain rfl : i = n := by omega
      exact ⟨rfl, S1.out⟩
end Go.Proofs.YtaiimkcmgiceeaaDoor
