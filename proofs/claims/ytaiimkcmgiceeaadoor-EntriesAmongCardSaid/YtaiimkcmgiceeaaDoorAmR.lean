/- Chapter 18, EntriesAmong: the library's rotate. -/
import Derived.Test.YtaiimkcmgiceeaaDoorAmL
namespace Go.Proofs.YtaiimkcmgiceeaaDoor
set_option linter.unusedVariables false
set_option linter.unusedSimpArgs false
open Go.RowKit Go.Lib Go.Sort Go.Shelf
variable {α : Type} [Inhabited α]
/-- rotate's loop: i rows ahead of m, j from m on are still to change. -/
def rotL (m : Nat) : Nat → Nat → Nat → Array α → Array α
  | 0, _, _, d => d
  | f + 1, i, j, d => if i = j then swr (m - i) m i d else if j < i then rotL m f (i - j) j (swr (m - i) m j d) else rotL m f i (j - i) (swr (m - i) (m + j - i) i d)
theorem size_rotL (m : Nat) : ∀ (f i j : Nat) (d : Array α), (rotL m f i j d).size = d.size
  | 0, _, _, _ => rfl
  | f + 1, i, j, d => by
    rw [rotL]
    split
    · exact size_swr _ _ _ _
    · split
      · rw [size_rotL m f, size_swr]
      · rw [size_rotL m f, size_swr]
set_option maxHeartbeats 64000000 in
set_option maxRecDepth 1000000 in
theorem rot_ok {P : Program} {k : Nat} (L : SrtL P k) (enc : α → List Value) (fv : Value) (blk off cap a m b : Nat) (d0 d : Array α) (w0 w : World) (R : RowK enc k w0 blk off d0) (hs : d0.size = d.size) (S : SWK enc k w0 blk off d w)
    (ham : a < m) (hmb : m < b) (hb : b ≤ d.size) (hsz : d.size < 4611686018427387904) :
    Calls P 64 #[.slice (some ⟨blk, off, none⟩) d.size cap, .int .i64 a, .int .i64 m, .int .i64 b, fv] w fun e w' => e = .returned (.tuple #[]) ∧ SWK enc k w0 blk off (rotL m (b - a) (m - a) (b - m) d) w' := by
  have mixed := L.mixed; have t0 := L.t0; have a0 := L.a0; have z0 := L.z0; have v0 := L.v0; have t3 := L.t3; have a3 := L.a3; have z3 := L.z3; have v3 := L.v3; have t4 := L.t4; have a4 := L.a4; have z4 := L.z4; have v4 := L.v4; have t22 := L.t22; have a22 := L.a22; have z22 := L.z22; have v22 := L.v22; have t25 := L.t25; have a25 := L.a25; have z25 := L.z25; have v25 := L.v25; have aE := L.aE; have zE := L.zE
  have u22 := run_underlying L.t22
  have es : ∀ args w, (callFunc 71 args).run P w = .ok (.enter 71 args) w := enters_of L.fsw (by kernel_rfl) rfl
  have KS := Lib.hid (fun (a b n : Nat) (dk : Array α) (W : World) (h : dk.size = d.size) (S : SWK enc k w0 blk off dk W) (ha : a + n ≤ dk.size) (hb : b + n ≤ dk.size) => h ▸ swr_ok L enc fv blk off cap a b n d0 dk w0 W R (by omega) S ha hb (by omega))
  have FG := L.fro
  have S0 : Aside _ := S
  clear S
  have rma : IntKind.i64.wrap ((m : Int) - (a : Int)) = ((m - a : Nat) : Int) := by rw [IntKind.wrap_i64]; omega
  have rbm : IntKind.i64.wrap ((b : Int) - (m : Int)) = ((b - m : Nat) : Int) := by rw [IntKind.wrap_i64]; omega
  go_enter FG, Tryd.ntmps64
  go_wp2
  clear rma rbm
  go_loopg [10, 11] (b - a) (fun g1 vi vj wr => ∃ (i j f : Nat) (dk : Array α), vi = .int .i64 i ∧ vj = .int .i64 j ∧ 1 ≤ i ∧ 1 ≤ j ∧ i ≤ m ∧ m + j ≤ d.size ∧ i + j ≤ f ∧ i + j ≤ g1 ∧ dk.size = d.size ∧ Aside (SWK enc k w0 blk off dk wr) ∧ Hid (rotL m f i j dk = rotL m (b - a) (m - a) (b - m) d))
  case atStart => exact ⟨m - a, b - m, b - a, d, by first | rfl | go_num | (congr 1; omega), by first | rfl | go_num | (congr 1; omega), by omega, by omega, by omega, by omega, by omega, by omega, rfl, S0, rfl⟩
  case round =>
    clear S0
    obtain ⟨i, j, f, dk, rfl, rfl, hi1, hj1, him, hjm, hf, hg1, hsk, S1, HO⟩ := hrel
    obtain ⟨f', rfl⟩ : ∃ f', f = f' + 1 := ⟨f - 1, by omega⟩
    have rmi : IntKind.i64.wrap ((m : Int) - (i : Int)) = ((m - i : Nat) : Int) := by rw [IntKind.wrap_i64]; omega
    by_cases hij : i = j
    · subst hij
      go_wp2_with fail
      go_at_fn 71
      refine (KS.out (m - i) m i dk _ (by omega) S1.out (by omega) (by omega)).mono ?_
      rintro e w' ⟨rfl, S2⟩
      have S2' : Aside _ := S2
      clear S2
      go_wp2_with fail
      go_end0
      exact ⟨rfl, by have h := S2'.out; rw [← HO.out, rotL, if_pos rfl]; exact h⟩
    · have hne : ((i : Int) == (j : Int)) = false := beq_eq_false_iff_ne.2 (by omega)
      have hne' : ((i : Int) != (j : Int)) = true := by simp [bne, hne]
      by_cases hji : j < i
      · have hz : (j : Int) < (i : Int) := by omega
        have rij : IntKind.i64.wrap ((i : Int) - (j : Int)) = ((i - j : Nat) : Int) := by rw [IntKind.wrap_i64]; omega
        go_wp2_with fail
        go_at_fn 71
        refine (KS.out (m - i) m j dk _ (by omega) S1.out (by omega) (by omega)).mono ?_
        rintro e w' ⟨rfl, S2⟩
        have S2' : Aside _ := S2
        clear S2
        go_wp2_with fail
        go_roundg (i - j + j)
        case measure => omega
        case rel => exact ⟨i - j, j, f', _, by first | rfl | go_num | (congr 1; omega), by first | rfl | go_num, by omega, by omega, by omega, by omega, by omega, by omega, by rw [size_swr]; exact hsk, S2', by rw [← HO.out]; show _ = _; rw [rotL, if_neg hij, if_pos hji]⟩
      · have hz : ¬ (j : Int) < (i : Int) := by omega
        have rji : IntKind.i64.wrap ((j : Int) - (i : Int)) = ((j - i : Nat) : Int) := by rw [IntKind.wrap_i64]; omega
        have rmj : IntKind.i64.wrap ((m : Int) + (j : Int)) = (m : Int) + (j : Int) := by rw [IntKind.wrap_i64]; omega
        have rmji : IntKind.i64.wrap ((m : Int) + (j : Int) - (i : Int)) = ((m + j - i : Nat) : Int) := by rw [IntKind.wrap_i64]; omega
        go_wp2_with fail
        go_at_fn 71
        refine (KS.out (m - i) (m + j - i) i dk _ (by omega) S1.out (by omega) (by omega)).mono ?_
        rintro e w' ⟨rfl, S2⟩
        have S2' : Aside _ := S2
        clear S2
        go_wp2_with fail
        go_roundg (i + (j - i))
        case measure => omega
        case rel => exact ⟨i, j - i, f', _, by first | rfl | go_num, by first | rfl | go_num | (congr 1; omega), by omega, by omega, by omega, by omega, by omega, by omega, by rw [size_swr]; exact hsk, S2', by rw [← HO.out]; show _ = _; rw [rotL, if_neg hij, if_neg hji]⟩
end Go.Proofs.YtaiimkcmgiceeaaDoor
