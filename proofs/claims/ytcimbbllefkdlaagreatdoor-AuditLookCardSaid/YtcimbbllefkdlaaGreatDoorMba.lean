/- Texts of this proof, merged: Ava Avi Avj Avk Avh Awk. -/
import Derived.Test.YtcimbbllefkdlaaGreatDoorMaz
import Derived.Laws.BitsAllLaws
import Derived.RangeFuncNested
import Derived.RangeFuncBound
import Derived.RangeFuncCalls
import Derived.RangeFuncLeaves
import Derived.Shelf.RegionOpen
import Derived.OwnWalkIn
import Derived.TacticsInMore
import Derived.LoopNIn
import Derived.LoopIn
import Derived.Test.YtcimbbllefkdlaaGreatDoorMay
import Derived.Test.YtcimbbllefkdlaaGreatDoorMan
import Derived.Test.YtcimbbllefkdlaaGreatDoorMaq
import Derived.Test.YtcimbbllefkdlaaGreatDoorMax
import Derived.Test.YtcimbbllefkdlaaGreatDoorMaa
import Derived.Test.YtcimbbllefkdlaaGreatDoorMab
import Derived.Test.YtcimbbllefkdlaaGreatDoorMac
import Derived.Test.YtcimbbllefkdlaaGreatDoorMad
import Derived.Test.YtcimbbllefkdlaaGreatDoorMae
import Derived.Test.YtcimbbllefkdlaaGreatDoorMaf
import Derived.Test.YtcimbbllefkdlaaGreatDoorMag
import Derived.Test.YtcimbbllefkdlaaGreatDoorMah
import Derived.Test.YtcimbbllefkdlaaGreatDoorMai
import Derived.Test.YtcimbbllefkdlaaGreatDoorMaj
import Derived.Test.YtcimbbllefkdlaaGreatDoorMak
import Derived.Test.YtcimbbllefkdlaaGreatDoorMal
import Derived.Test.YtcimbbllefkdlaaGreatDoorMam
import Derived.Test.YtcimbbllefkdlaaGreatDoorMao
import Derived.Test.YtcimbbllefkdlaaGreatDoorMap
import Derived.Test.YtcimbbllefkdlaaGreatDoorMar
import Derived.Test.YtcimbbllefkdlaaGreatDoorMas
import Derived.Test.YtcimbbllefkdlaaGreatDoorMat
import Derived.Test.YtcimbbllefkdlaaGreatDoorMau
import Derived.Test.YtcimbbllefkdlaaGreatDoorMav
import Derived.Test.YtcimbbllefkdlaaGreatDoorMaw
namespace Go.Proofs.YtcimbbllefkdlaaGreatDoor
set_option linter.unusedVariables false
set_option linter.unusedSimpArgs false
open Go.RowKit Go.Lib Go.Sort
theorem hstep_lt {n c : Nat} : hstep n c < 4294967296 := by
  have h1 : ((n + c) % 4294967296 + (n + c) % 4294967296 * 1024 % 4294967296) % 4294967296 < 2 ^ 32 := Nat.mod_lt _ (by omega)
  exact Nat.xor_lt_two_pow h1 (Nat.lt_of_le_of_lt (Nat.div_le_self _ _) h1)
def hfold (l : List UInt8) : Nat := l.foldl (fun n c => hstep n c.toNat) 0
theorem hfold_snoc (l : List UInt8) (c : UInt8) : hfold (l ++ [c]) = hstep (hfold l) c.toNat := by simp [hfold]
theorem hfold_lt (l : List UInt8) : hfold l < 4294967296 := by
  rcases List.eq_nil_or_concat l with rfl | ⟨m, c, rfl⟩
  · simp [hfold]
  · rw [List.concat_eq_append, hfold_snoc]; exact hstep_lt
theorem hstep_eq (n c : Nat) : hstep n c = (((n + c) % 4294967296 + shl ((n + c) % 4294967296) 10) % 4294967296) ^^^ shr (((n + c) % 4294967296 + shl ((n + c) % 4294967296) 10) % 4294967296) 6 := by
  rw [shr_eq, shl_eq (Nat.mod_lt _ (by omega))]; rfl
theorem hfin_eq {n : Nat} (h : n < 4294967296) : hfin n = (let b := ((n + shl n 3) % 4294967296) ^^^ shr ((n + shl n 3) % 4294967296) 11; (b + shl b 15) % 4294967296) := by
  have h1 : (n + shl n 3) % 4294967296 < 2 ^ 32 := Nat.mod_lt _ (by omega)
  have h2 : ((n + shl n 3) % 4294967296) ^^^ shr ((n + shl n 3) % 4294967296) 11 < 4294967296 := Nat.xor_lt_two_pow h1 (Nat.lt_of_le_of_lt (shr_le _ _) h1)
  simp only
  rw [shl_eq h2, shr_eq, shl_eq h]; rfl
theorem take_snoc' (s : ByteArray) (k : Nat) (h : k < s.size) : s.data.toList.take (k + 1) = s.data.toList.take k ++ [s[k]] := by
  rw [List.take_succ_eq_append_getElem (by simpa using h)]; rfl
theorem ofNat_eq {a b : Nat} (h : a % 256 = b % 256) : UInt8.ofNat a = UInt8.ofNat b := by
  apply UInt8.toNat_inj.1
  rw [UInt8.toNat_ofNat', UInt8.toNat_ofNat']; exact h
theorem tupBy_eq (r a p b q : Nat) : tupBy r a p b q = [UInt8.ofNat r] ++ b32 a ++ b16 p ++ b32 b ++ b16 q := by
  have e16 : ∀ n, be16 n = b16 n := fun n => by unfold be16 b16; rw [ofNat_eq (a := n) (b := n % 256) (by omega)]
  have e32 : ∀ n, be32 n = b32 n := fun n => by
    unfold be32 b32 b16
    rw [ofNat_eq (a := n / 16777216) (b := n / 65536 / 256) (by omega), ofNat_eq (a := n / 65536) (b := n / 65536 % 256) (by omega), ofNat_eq (a := n / 256) (b := n % 65536 / 256) (by omega), ofNat_eq (a := n) (b := n % 65536 % 256) (by omega)]
    rfl
  unfold tupBy
  rw [e32, e32, e16, e16]; simp
set_option maxHeartbeats 8000000 in
set_option maxRecDepth 100000 in
theorem r12_num (r a p b q : Nat) (hr : r < 256) (ha : a < 4294967296) (hp : p < 65536) (hb : b < 4294967296) (hq : q < 65536) (w : World) :
    Calls Tryz.prog 51 #[.agg #[.int .u8 r, .int .u32 a, .int .u16 p, .int .u32 b, .int .u16 q]] w (Ret1 (.int .u64 (hashL (tupBy r a p b q) : Nat)) w) := by
  obtain ⟨s, hs⟩ : ∃ s : ByteArray, s = ⟨(tupBy r a p b q).toArray⟩ := ⟨_, rfl⟩
  have hsz : s.size = 13 := by rw [hs]; rfl
  have hl : s.data.toList = tupBy r a p b q := by rw [hs]
  have KB := Lib.hid (fun W => r12_bytes r a p b q hr ha hp hb hq W)
  rw [← tupBy_eq] at KB
  have HSs := Lib.hid hs
  have HL := Lib.hid hl
  clear hs hl
  obtain ⟨res, hres⟩ : ∃ z, z = hashL (tupBy r a p b q) := ⟨_, rfl⟩
  rw [← hres]
  have HR := Lib.hid hres
  clear hres hr ha hp hb hq
  go_enter Tryz.func51, Tryz.ntmps51
  have HN := Lib.hid (Fp.refl (fun _ => False) w)
  go_upto_region 1 with fail
  refine wp_gen (fun z1 hW => ?_)
  have hp := new_now hW
  have hB := new_blk hW
  clear hW
  have hGe := hid_ge HN
  replace HN := hid_now HN hp
  obtain ⟨t, ht⟩ : ∃ t, t = w.heap.size := ⟨_, rfl⟩
  have G_t := Lib.hid (Nat.le_trans hGe (Nat.le_of_eq ht.symm))
  rw [← ht] at hB ⊢
  have B_t := hB
  clear hB hGe ht
  clear hp
  have ct0 := cell_at B_t 0 rfl
  have ct1 := cell_at B_t 1 rfl
  have ct2 := cell_at B_t 2 rfl
  have ct3 := cell_at B_t 3 rfl
  have ct4 := cell_at B_t 4 rfl
  have zt := froz_at B_t
  have lt := hid_lt B_t
  go_wp2_with fail
  refine (KB.out _).mono ?_
  rintro e zb ⟨rfl, hp⟩
  replace HN := hid_now HN hp
  clear hp ct0 ct1 ct2 ct3 ct4 zt lt
  rw [show str (tupBy r a p b q) = .string s from by rw [HSs.out]]
  go_wp2_with fail
  go_loopg [5, 4] 14 (fun gg iv nv wx => ∃ (i : Nat), i ≤ 13 ∧ gg = 14 - i ∧ iv = .int .i64 (i : Int) ∧ nv = .int .u64 (hfold (s.data.toList.take i) : Nat) ∧ NoW w wx)
  case atStart => exact ⟨0, by omega, by omega, rfl, rfl, HN.out⟩
  case round =>
    clear HN
    obtain ⟨i, hi, hg, rfl, rfl, hN⟩ := hrel
    have Hg := Lib.hid hg
    have HN := Lib.hid hN
    clear hg hN
    have hnl := hfold_lt (s.data.toList.take i)
    by_cases hlt : i < 13
    · have hlt2 : i < s.size := by omega
      have hsn : hfold (s.data.toList.take (i + 1)) = hstep (hfold (s.data.toList.take i)) s[i].toNat := by rw [take_snoc' s i hlt2, hfold_snoc]
      have hcl : s[i].toNat < 256 := UInt8.toNat_lt _
      rw [hstep_eq] at hsn
      have HSn := Lib.hid hsn
      clear hsn
      obtain ⟨n, hn⟩ : ∃ n, n = hfold (s.data.toList.take i) := ⟨_, rfl⟩
      rw [← hn] at hnl HSn ⊢
      clear hn
      have K1 := Lib.hid (fun W => r12_add n s[i].toNat hnl (by omega) W)
      go_wp2_with fail
      refine (K1.out _).mono ?_
      rintro e z1 ⟨rfl, rfl⟩
      obtain ⟨x, hx⟩ : ∃ x, x = (n + s[i].toNat) % 4294967296 := ⟨_, rfl⟩
      have hxl : x < 4294967296 := by rw [hx]; exact Nat.mod_lt _ (by omega)
      rw [← hx] at HSn ⊢
      clear hx
      have hsl := shl_lt hxl 10
      have K2 := Lib.hid (fun W => r12_shl x 10 hxl (by omega) W)
      go_wp2_with fail
      refine (K2.out _).mono ?_
      rintro e z2 ⟨rfl, rfl⟩
      obtain ⟨y, hy⟩ : ∃ y, y = shl x 10 := ⟨_, rfl⟩
      rw [← hy] at HSn hsl ⊢
      clear hy
      have K3 := Lib.hid (fun W => r12_add x y hxl hsl W)
      go_wp2_with fail
      refine (K3.out _).mono ?_
      rintro e z3 ⟨rfl, rfl⟩
      obtain ⟨u, hu⟩ : ∃ u, u = (x + y) % 4294967296 := ⟨_, rfl⟩
      have hul : u < 4294967296 := by rw [hu]; exact Nat.mod_lt _ (by omega)
      rw [← hu] at HSn ⊢
      clear hu
      have K4 := Lib.hid (fun W => r12_shr u 6 hul (by omega) W)
      have hvl := shr_le u 6
      go_wp2_with fail
      refine (K4.out _).mono ?_
      rintro e z4 ⟨rfl, rfl⟩
      obtain ⟨v, hv⟩ : ∃ v, v = shr u 6 := ⟨_, rfl⟩
      rw [← hv] at HSn hvl ⊢
      clear hv
      have hxo := u64_xor_nat u v (by omega) (by omega)
      go_wp2_with fail
      go_roundg (13 - i)
      case measure => have := Hg.out; omega
      case rel => exact ⟨i + 1, by omega, by omega, by go_num, by rw [HSn.out], HN.out⟩
    · obtain rfl : i = 13 := by omega
      have htk : s.data.toList.take 13 = tupBy r a p b q := by rw [← HL.out, List.take_of_length_le (by rw [HL.out]; exact Nat.le_refl 13)]
      rw [htk] at hnl
      have hR : res = hfin (hfold (tupBy r a p b q)) := HR.out
      rw [hfin_eq hnl] at hR
      simp only at hR
      have HRr := Lib.hid hR
      clear hR
      obtain ⟨n, hn⟩ : ∃ n, n = hfold (tupBy r a p b q) := ⟨_, rfl⟩
      obtain ⟨n0, hn0⟩ : ∃ n, n = hfold (s.data.toList.take 13) := ⟨_, rfl⟩
      rw [← hn0]
      rw [htk, ← hn] at hn0
      subst hn0
      rw [← hn] at hnl HRr
      clear hn htk
      have hsl := shl_lt hnl 3
      have K2 := Lib.hid (fun W => r12_shl n0 3 hnl (by omega) W)
      go_wp2_with fail
      refine (K2.out _).mono ?_
      rintro e z2 ⟨rfl, rfl⟩
      obtain ⟨y, hy⟩ : ∃ y, y = shl n0 3 := ⟨_, rfl⟩
      rw [← hy] at HRr hsl ⊢
      clear hy
      have K3 := Lib.hid (fun W => r12_add n0 y hnl hsl W)
      go_wp2_with fail
      refine (K3.out _).mono ?_
      rintro e z3 ⟨rfl, rfl⟩
      obtain ⟨u, hu⟩ : ∃ u, u = (n0 + y) % 4294967296 := ⟨_, rfl⟩
      have hul : u < 4294967296 := by rw [hu]; exact Nat.mod_lt _ (by omega)
      rw [← hu] at HRr ⊢
      clear hu
      have K4 := Lib.hid (fun W => r12_shr u 11 hul (by omega) W)
      have hvl := shr_le u 11
      go_wp2_with fail
      refine (K4.out _).mono ?_
      rintro e z4 ⟨rfl, rfl⟩
      obtain ⟨v, hv⟩ : ∃ v, v = shr u 11 := ⟨_, rfl⟩
      rw [← hv] at HRr hvl ⊢
      clear hv
      have hxo := u64_xor_nat u v (by omega) (by omega)
      have hbl : u ^^^ v < 4294967296 := Nat.xor_lt_two_pow (n := 32) hul (Nat.lt_of_le_of_lt hvl hul)
      obtain ⟨x, hx⟩ : ∃ x, x = u ^^^ v := ⟨_, rfl⟩
      rw [← hx] at HRr hxo hbl
      clear hx
      have hsl2 := shl_lt hbl 15
      have K5 := Lib.hid (fun W => r12_shl x 15 hbl (by omega) W)
      go_wp2_with fail
      refine (K5.out _).mono ?_
      rintro e z5 ⟨rfl, rfl⟩
      obtain ⟨y2, hy2⟩ : ∃ y, y = shl x 15 := ⟨_, rfl⟩
      rw [← hy2] at HRr hsl2 ⊢
      clear hy2
      have K6 := Lib.hid (fun W => r12_add x y2 hbl hsl2 W)
      go_wp2_with fail
      refine (K6.out _).mono ?_
      rintro e z6 ⟨rfl, rfl⟩
      obtain ⟨zf, hzf⟩ : ∃ z, z = (x + y2) % 4294967296 := ⟨_, rfl⟩
      rw [← hzf] at HRr ⊢
      clear hzf
      go_wp2_with fail
      go_ret
      exact ⟨by rw [HRr.out]; rfl, HN.out⟩
end Go.Proofs.YtcimbbllefkdlaaGreatDoor

namespace Go.Proofs.YtcimbbllefkdlaaGreatDoor
set_option linter.unusedVariables false
set_option linter.unusedSimpArgs false
open Go.RowKit Go.Lib Go.Sort Go.Shelf
attribute [local go_sem] Oper.semAt_some
set_option maxHeartbeats 8000000 in
set_option maxRecDepth 100000 in
theorem hb_in (r a p b q : Nat) (hr : r < 256) (ha : a < 4294967296) (hp : p < 65536) (hb : b < 4294967296) (hq : q < 65536) (l t n : Nat) (J Jx : List UInt8 → World → Prop) (hJ : ∀ s W W', J s W → NoW W W' → J s W')
    (hY : ∀ pre x W1, J pre W1 → pre.length < 13 → YieldAt Fence.wide (n - 1) Tryz.prog l #[.int .u8 ((x : UInt8).toNat : Int)] W1 fun e W' => (e = .returned (.bool true) ∧ J (pre ++ [x]) W') ∨ (e = .returned (.bool false) ∧ Jx (pre ++ [x]) W'))
    (w : World) (B_t : Hid (w.heap[t]? = some (.cells #[.int .u8 r, .int .u32 a, .int .u16 p, .int .u32 b, .int .u16 q] 49 (0, 0)))) (h0 : J [] w) :
    CallsIn Fence.wide n Tryz.prog 104 #[.func (.yield l) #[] #[], .pointer (some ⟨t, 0, none⟩)] w fun e W' => (∃ v, e = .returned v) ∧ ((∃ xs, xs = tupBy r a p b q ∧ J xs W') ∨ (∃ pre, True ∧ Jx pre W')) := by
  rw [tupBy_eq]
  have K1 := Lib.hid (fun W => put32_ok a ha W)
  have K2 := Lib.hid (fun W => put16_ok p hp W)
  have K3 := Lib.hid (fun W => put32_ok b hb W)
  have K4 := Lib.hid (fun W => put16_ok q hq W)
  have l1 : (b32 a).length = 4 := rfl
  have l2 : (b16 p).length = 2 := rfl
  have l3 : (b32 b).length = 4 := rfl
  have l4 : (b16 q).length = 2 := rfl
  have hr0 : ((UInt8.ofNat r).toNat : Int) = (r : Int) := by rw [UInt8.toNat_ofNat']; omega
  generalize b32 a = x1 at *
  generalize b16 p = x2 at *
  generalize b32 b = x3 at *
  generalize b16 q = x4 at *
  have s2 := fun W => run_string_add_lists (P := Tryz.prog) W x1 x2 (by omega) (by omega)
  obtain ⟨y2, hy2⟩ : ∃ y, y = x1 ++ x2 := ⟨_, rfl⟩
  have m2 : y2.length = 6 := by rw [hy2, List.length_append]; omega
  rw [← hy2] at s2
  have s3 := fun W => run_string_add_lists (P := Tryz.prog) W y2 x3 (by omega) (by omega)
  obtain ⟨y3, hy3⟩ : ∃ y, y = y2 ++ x3 := ⟨_, rfl⟩
  have m3 : y3.length = 10 := by rw [hy3, List.length_append]; omega
  rw [← hy3] at s3
  have s4 := fun W => run_string_add_lists (P := Tryz.prog) W y3 x4 (by omega) (by omega)
  obtain ⟨y4, hy4⟩ : ∃ y, y = y3 ++ x4 := ⟨_, rfl⟩
  have m4 : y4.length = 12 := by rw [hy4, List.length_append]; omega
  rw [← hy4] at s4
  have hres : x1 ++ x2 ++ x3 ++ x4 = y4 := by rw [hy4, hy3, hy2]
  have hres2 : [UInt8.ofNat r] ++ x1 ++ x2 ++ x3 ++ x4 = [UInt8.ofNat r] ++ y4 := by rw [← hres]; simp
  rw [hres2]
  have HR0 := Lib.hid hr0
  clear hr0 hres hres2 hy2 hy3 hy4 l1 l2 l3 l4 m2 m3 ha hp hb hq hr
  have HJ := Lib.hid hJ
  have HY := Lib.hid hY
  have H0 := Lib.hid h0
  clear hJ hY h0
  obtain ⟨x0, hx0⟩ : ∃ x, x = UInt8.ofNat r := ⟨_, rfl⟩
  rw [← hx0] at HR0 ⊢
  clear hx0
  refine callsIn_of_wp Tryz.func104 rfl trivial ?_ rfl
  simp only [Tryz.ntmps104, List.size_toArray, List.length_cons, List.length_nil, Nat.reduceAdd, Nat.reduceSub, Array.replicate_succ, Array.replicate_zero, List.push_toArray, List.append_toArray, List.nil_append, List.cons_append]
  have HN := Lib.hid (Fp.refl (fun _ => False) w)
  have ct0 := cell_at B_t 0 rfl
  have ct1 := cell_at B_t 1 rfl
  have ct2 := cell_at B_t 2 rfl
  have ct3 := cell_at B_t 3 rfl
  have ct4 := cell_at B_t 4 rfl
  have zt := froz_at B_t
  have lt := hid_lt B_t
  gi_step
  gi_step
  refine wpIn_wide.2 ?_
  refine wp_region_held_drew (S := fun wx => NoW w wx) (by kernel_rfl) (Fp.drew (Fp.refl _ _)) (fun hHeld0 => ?_)
  refine any_eq hHeld0 (fun z1 hW hHeld => ?_)
  clear hHeld0
  replace B_t := hid_blk B_t (noW_drew hW)
  clear hW
  (refine tk 0 (some 5) ?_ ?_ ?_; rotate_left; (focus (intro wS hSw; go_simp; try with_reducible rfl)); (try simp only [Act.put, List.setIfInBounds_toArray, List.set_cons_zero, List.set_cons_succ]))
  (refine tk 1 (some 6) ?_ ?_ ?_; rotate_left; (focus (intro wS hSw; go_simp; try with_reducible rfl)); (try simp only [Act.put, List.setIfInBounds_toArray, List.set_cons_zero, List.set_cons_succ]))
  (refine tk 2 (some 7) ?_ ?_ ?_; rotate_left; (focus (intro wS hSw; (have q1 := (hSw.cell (p := ⟨t, 1, none⟩) lt id).trans ct1); go_simp; try with_reducible rfl)); (try simp only [Act.put, List.setIfInBounds_toArray, List.set_cons_zero, List.set_cons_succ]))
  (refine tk 4 (some 9) ?_ ?_ ?_; rotate_left; (focus (intro wS hSw; go_simp; try with_reducible rfl)); (try simp only [Act.put, List.setIfInBounds_toArray, List.set_cons_zero, List.set_cons_succ]))
  (refine tk 5 (some 10) ?_ ?_ ?_; rotate_left; (focus (intro wS hSw; go_simp; try with_reducible rfl)); (try simp only [Act.put, List.setIfInBounds_toArray, List.set_cons_zero, List.set_cons_succ]))
  (refine tk 6 (some 11) ?_ ?_ ?_; rotate_left; (focus (intro wS hSw; (have q2 := (hSw.cell (p := ⟨t, 2, none⟩) lt id).trans ct2); go_simp; try with_reducible rfl)); (try simp only [Act.put, List.setIfInBounds_toArray, List.set_cons_zero, List.set_cons_succ]))
  (refine tk 9 (some 14) ?_ ?_ ?_; rotate_left; (focus (intro wS hSw; go_simp; try with_reducible rfl)); (try simp only [Act.put, List.setIfInBounds_toArray, List.set_cons_zero, List.set_cons_succ]))
  (refine tk 10 (some 15) ?_ ?_ ?_; rotate_left; (focus (intro wS hSw; go_simp; try with_reducible rfl)); (try simp only [Act.put, List.setIfInBounds_toArray, List.set_cons_zero, List.set_cons_succ]))
  (refine tk 11 (some 16) ?_ ?_ ?_; rotate_left; (focus (intro wS hSw; (have q3 := (hSw.cell (p := ⟨t, 3, none⟩) lt id).trans ct3); go_simp; try with_reducible rfl)); (try simp only [Act.put, List.setIfInBounds_toArray, List.set_cons_zero, List.set_cons_succ]))
  (refine tk 14 (some 19) ?_ ?_ ?_; rotate_left; (focus (intro wS hSw; go_simp; try with_reducible rfl)); (try simp only [Act.put, List.setIfInBounds_toArray, List.set_cons_zero, List.set_cons_succ]))
  (refine tk 15 (some 20) ?_ ?_ ?_; rotate_left; (focus (intro wS hSw; go_simp; try with_reducible rfl)); (try simp only [Act.put, List.setIfInBounds_toArray, List.set_cons_zero, List.set_cons_succ]))
  (refine tk 16 (some 21) ?_ ?_ ?_; rotate_left; (focus (intro wS hSw; (have q4 := (hSw.cell (p := ⟨t, 4, none⟩) lt id).trans ct4); go_simp; try with_reducible rfl)); (try simp only [Act.put, List.setIfInBounds_toArray, List.set_cons_zero, List.set_cons_succ]))
  refine wpAnyH_ready (rs := [3]) (by kernel_rfl) (by simp) ?_
  refine AllReadyH.cons rfl (fun K hK => ?_) AllReadyH.nil
  go_simp
  go_at_call 105
  refine (show Calls _ _ _ _ _ from K1.out _).mono ?_
  rintro e z2 ⟨rfl, hp⟩
  have hn := Fp.trans hHeld hp (fun _ _ h => h.elim)
  replace B_t := hid_blk B_t hp
  refine k_now hK hn ?_
  clear hK K hp hHeld
  have hHeld := hn
  clear hn
  try simp only [Act.put, List.setIfInBounds_toArray, List.set_cons_zero, List.set_cons_succ]
  refine wpAnyH_ready (rs := [7]) (by kernel_rfl) (by simp) ?_
  refine AllReadyH.cons rfl (fun K hK => ?_) AllReadyH.nil
  go_simp
  go_at_call 106
  refine (show Calls _ _ _ _ _ from K2.out _).mono ?_
  rintro e z3 ⟨rfl, hp⟩
  have hn := Fp.trans hHeld hp (fun _ _ h => h.elim)
  replace B_t := hid_blk B_t hp
  refine k_now hK hn ?_
  clear hK K hp hHeld
  have hHeld := hn
  clear hn
  try simp only [Act.put, List.setIfInBounds_toArray, List.set_cons_zero, List.set_cons_succ]
  (refine tk 8 (some 13) ?_ ?_ ?_; rotate_left; (focus (intro wS hSw; go_simp; try with_reducible rfl)); (try simp only [Act.put, List.setIfInBounds_toArray, List.set_cons_zero, List.set_cons_succ]))
  refine wpAnyH_ready (rs := [12]) (by kernel_rfl) (by simp) ?_
  refine AllReadyH.cons rfl (fun K hK => ?_) AllReadyH.nil
  go_simp
  go_at_call 105
  refine (show Calls _ _ _ _ _ from K3.out _).mono ?_
  rintro e z4 ⟨rfl, hp⟩
  have hn := Fp.trans hHeld hp (fun _ _ h => h.elim)
  replace B_t := hid_blk B_t hp
  refine k_now hK hn ?_
  clear hK K hp hHeld
  have hHeld := hn
  clear hn
  try simp only [Act.put, List.setIfInBounds_toArray, List.set_cons_zero, List.set_cons_succ]
  (refine tk 13 (some 18) ?_ ?_ ?_; rotate_left; (focus (intro wS hSw; go_simp; try with_reducible rfl)); (try simp only [Act.put, List.setIfInBounds_toArray, List.set_cons_zero, List.set_cons_succ]))
  refine wpAnyH_ready (rs := [17]) (by kernel_rfl) (by simp) ?_
  refine AllReadyH.cons rfl (fun K hK => ?_) AllReadyH.nil
  go_simp
  go_at_call 106
  refine (show Calls _ _ _ _ _ from K4.out _).mono ?_
  rintro e z5 ⟨rfl, hp⟩
  have hn := Fp.trans hHeld hp (fun _ _ h => h.elim)
  replace B_t := hid_blk B_t hp
  refine k_now hK hn ?_
  clear hK K hp hHeld
  have hHeld := hn
  clear hn
  try simp only [Act.put, List.setIfInBounds_toArray, List.set_cons_zero, List.set_cons_succ]
  (refine tk 18 (some 23) ?_ ?_ ?_; rotate_left; (focus (intro wS hSw; go_simp; try with_reducible rfl)); (try simp only [Act.put, List.setIfInBounds_toArray, List.set_cons_zero, List.set_cons_succ]))
  (refine tk 19 (some 3) ?_ ?_ ?_; rotate_left; (focus (intro wS hSw; go_simp; try with_reducible rfl)); (try simp only [Act.put, List.setIfInBounds_toArray, List.set_cons_zero, List.set_cons_succ]))
  refine wpAnyH_done (by kernel_rfl) ?_ _
  clear ct0 ct1 ct2 ct3 ct4 zt lt
  replace HN := hid_now HN hHeld
  clear hHeld
  have HJ1 := Lib.hid (HJ.out [] _ _ H0.out HN.out)
  clear H0
  obtain ⟨s, hs⟩ : ∃ s : ByteArray, s = ⟨y4.toArray⟩ := ⟨_, rfl⟩
  have hsz : s.size = 12 := by rw [hs]; exact m4
  have hl : y4 = s.data.toList := by rw [hs]
  rw [← hs]
  clear hs m4
  subst hl
  have ct0 := cell_at B_t 0 rfl
  obtain ⟨f1, t1, a1, b1, hy1, hR1⟩ := HY.out [] x0 z5 HJ1.out (by simp)
  rw [HR0.out] at hy1
  gi_wp2
  refine ⟨fun h => by simp [Fence.wide] at h, hR1.mono ?_⟩
  rintro e W1 (⟨rfl, hj⟩ | ⟨rfl, hj⟩)
  · have HJ2 := Lib.hid hj
    clear hj hR1 hy1 HJ1
    gi_wp2
    gi_loopw [4] (fun iv wr => ∃ i : Nat, i ≤ 12 ∧ iv = .int .i64 (i : Int) ∧ J ([x0] ++ s.data.toList.take i) wr) (fun iv _ => 12 - (RowKit.intOf iv).toNat)
    case atStart => exact ⟨0, by omega, rfl, by simpa using HJ2.out⟩
    case round =>
      obtain ⟨i, hi, rfl, hj⟩ := hrel
      have HJ3 := Lib.hid hj
      clear hj HJ2
      by_cases hlt : i < 12
      · have hlt2 : i < s.size := by omega
        have htk := take_snoc' s i hlt2
        obtain ⟨f2, t2, a2, b2, hy2, hR2⟩ := HY.out ([x0] ++ s.data.toList.take i) s[i] wr HJ3.out (by simp; omega)
        rw [List.append_assoc, ← htk] at hR2
        clear htk
        have HR2 := Lib.hid hR2
        clear hR2
        gi_wp2
        refine ⟨fun h => by simp [Fence.wide] at h, HR2.out.mono ?_⟩
        rintro e W2 (⟨rfl, hj⟩ | ⟨rfl, hj⟩)
        · have HJ4 := Lib.hid hj
          clear hj hy2
          gi_wp2
          go_roundw
          case rel => exact ⟨i + 1, by omega, by go_num, HJ4.out⟩
          case measure => simp [RowKit.intOf]; omega
        · gi_wp2
          refine bodyPost_ret (results_none rfl _ _ _) rfl ?_
          exact ⟨⟨_, rfl⟩, .inr ⟨_, trivial, hj⟩⟩
      · obtain rfl : i = 12 := by omega
        have htk : s.data.toList.take 12 = s.data.toList := List.take_of_length_le (by have : s.data.toList.length = s.size := rfl; omega)
        rw [htk] at HJ3
        clear htk
        gi_wp2
        go_end0
        exact ⟨⟨_, rfl⟩, .inl ⟨_, rfl, HJ3.out⟩⟩
  · gi_wp2
    refine bodyPost_ret (results_none rfl _ _ _) rfl ?_
    exact ⟨⟨_, rfl⟩, .inr ⟨_, trivial, hj⟩⟩
end Go.Proofs.YtcimbbllefkdlaaGreatDoor

namespace Go.Proofs.YtcimbbllefkdlaaGreatDoor
set_option linter.unusedVariables false
set_option linter.unusedSimpArgs false
open Go.RowKit Go.Lib Go.Sort Go.Shelf
attribute [local go_sem] Oper.semAt_some
theorem hstep_bits (n c : Nat) : bits .xor .u32 (((n : Int) + (c : Int) + ((n : Int) + (c : Int)) % 4294967296 * 1024) % 4294967296) (((n : Int) + (c : Int) + ((n : Int) + (c : Int)) % 4294967296 * 1024) % 4294967296 / 64) = ((hstep n c : Nat) : Int) := by
  obtain ⟨B, hB⟩ : ∃ B, B = ((n + c) % 4294967296 + (n + c) % 4294967296 * 1024 % 4294967296) % 4294967296 := ⟨_, rfl⟩
  have e : ((n : Int) + (c : Int) + ((n : Int) + (c : Int)) % 4294967296 * 1024) % 4294967296 = (B : Int) := by omega
  have e2 : (B : Int) / 64 = ((B / 64 : Nat) : Int) := by omega
  rw [e, e2, u32_xor_nat B (B / 64) (by omega) (by omega), hB]; rfl
theorem hfin_bits (n : Nat) (hn : n < 4294967296) : (bits .xor .u32 (((n : Int) + (n : Int) * 8) % 4294967296) (((n : Int) + (n : Int) * 8) % 4294967296 / 2048) + bits .xor .u32 (((n : Int) + (n : Int) * 8) % 4294967296) (((n : Int) + (n : Int) * 8) % 4294967296 / 2048) * 32768 % 4294967296) % 4294967296 = ((hfin n : Nat) : Int) := by
  obtain ⟨B, hB⟩ : ∃ B, B = (n + n * 8 % 4294967296) % 4294967296 := ⟨_, rfl⟩
  have e : ((n : Int) + (n : Int) * 8) % 4294967296 = (B : Int) := by omega
  have e2 : (B : Int) / 2048 = ((B / 2048 : Nat) : Int) := by omega
  have e3 : hfin n = ((B ^^^ (B / 2048)) + (B ^^^ (B / 2048)) * 32768 % 4294967296) % 4294967296 := by rw [hB]; rfl
  rw [e, e2, u32_xor_nat B (B / 2048) (by omega) (by omega), e3]
  omega
theorem grown_of_now {W W' : World} (h : NoW W W') : W.grownBy W' none := ⟨h.os, h.tape, h.output, h.size, fun k hk _ => h.block k hk id⟩
theorem hb_seq (r a p b q : Nat) (hr : r < 256) (ha : a < 4294967296) (hp : p < 65536) (hb : b < 4294967296) (hq : q < 65536) (t n : Nat) (w : World) (B_t : Hid (w.heap[t]? = some (.cells #[.int .u8 r, .int .u32 a, .int .u16 p, .int .u32 b, .int .u16 q] 49 (0, 0)))) :
    SeqStopsK Fence.wide n Tryz.prog 104 #[.pointer (some ⟨t, 0, none⟩)] (fun x : UInt8 => #[.int .u8 (x.toNat : Int)]) (fun _ _ => True) (fun xs => xs = tupBy r a p b q) (fun _ => True) 13 w :=
  fun l J Jx W hW hJ hJx hY h0 =>
    hb_in r a p b q hr ha hp hb hq l t n J Jx (fun s A B hs hn => hJ s A B none hs (grown_of_now hn) (fun k e => by cases e))
      (fun pre x W1 h1 h2 => by
        obtain ⟨fn, tm, an, bd, h3, h4⟩ := hY pre x W1 h1 h2
        exact ⟨fn, tm, an, bd, h3, h4.mono (fun e W' h => by rcases h with ⟨e1, h5, _⟩ | h5; exact .inl ⟨e1, h5⟩; exact .inr h5)⟩) W (hid ((hW.block t (hid_lt B_t)).trans B_t.out)) h0
theorem hbytes_ok (r a p b q : Nat) (w : World) :
    Calls Tryz.prog 90 #[.agg #[.int .u8 r, .int .u32 a, .int .u16 p, .int .u32 b, .int .u16 q]] w fun e w' => ∃ t, e = .returned (.func (.func 104) #[] #[.pointer (some ⟨t, 0, none⟩)]) ∧ w'.heap[t]? = some (.cells #[.int .u8 r, .int .u32 a, .int .u16 p, .int .u32 b, .int .u16 q] 49 (0, 0)) ∧ w.heap.size ≤ t ∧ NoW w w' := by
  go_enter Tryz.func90, Tryz.ntmps90
  go_wp2_with fail
  go_ret
  exact ⟨_, rfl, heap_alloc_new _ _, Nat.le_refl _, (Fp.refl _ _).alloc _⟩
set_option maxHeartbeats 8000000 in
set_option maxRecDepth 100000 in
theorem hnum_ok (r a p b q : Nat) (hr : r < 256) (ha : a < 4294967296) (hp : p < 65536) (hb : b < 4294967296) (hq : q < 65536) (w : World) :
    Calls Tryz.prog 69 #[.agg #[.int .u8 r, .int .u32 a, .int .u16 p, .int .u32 b, .int .u16 q]] w (Ret1 (.int .u32 (hashL (tupBy r a p b q) : Nat)) w) := by
  have KS := Lib.hid (fun t W B => hb_seq r a p b q hr ha hp hb hq t 2 W B)
  obtain ⟨res, hres⟩ : ∃ z, z = hashL (tupBy r a p b q) := ⟨_, rfl⟩
  rw [← hres]
  have HR := Lib.hid hres
  clear hres hr ha hp hb hq
  refine (callsIn_wide (n := 3)).1 ?_
  refine callsIn_of_wp_marks Tryz.func69 rfl trivial ?_ rfl
  simp only [Tryz.ntmps69, List.size_toArray, List.length_cons, List.length_nil, Nat.reduceAdd, Nat.reduceSub, Array.replicate_succ, Array.replicate_zero, List.push_toArray, List.append_toArray, List.nil_append, List.cons_append]
  gi_wp2
  have hb1 : NoW w (w.alloc (.cells #[.int .u8 r, .int .u32 a, .int .u16 p, .int .u32 b, .int .u16 q] 49)) := (Fp.refl _ _).alloc _
  have hg0 := heap_alloc_new (w.alloc (.cells #[.int .u8 r, .int .u32 a, .int .u16 p, .int .u32 b, .int .u16 q] 49)) (.cells #[.int .u32 0] 43)
  have hsz : (w.alloc (.cells #[.int .u8 r, .int .u32 a, .int .u16 p, .int .u32 b, .int .u16 q] 49)).heap.size = w.heap.size + 1 := by simp
  rw [hsz] at hg0
  have hb2 : NoW w ((w.alloc (.cells #[.int .u8 r, .int .u32 a, .int .u16 p, .int .u32 b, .int .u16 q] 49)).alloc (.cells #[.int .u32 0] 43)) := hb1.alloc _
  have B_g := Lib.hid hg0
  clear hb1 hg0 hsz
  generalize (w.alloc (.cells #[.int .u8 r, .int .u32 a, .int .u16 p, .int .u32 b, .int .u16 q] 49)).alloc (.cells #[.int .u32 0] 43) = w1 at *
  obtain ⟨g, hg⟩ : ∃ g, g = w.heap.size + 1 := ⟨_, rfl⟩
  have hgl : w.heap.size < g := by omega
  rw [← hg] at B_g ⊢
  clear hg
  refine ⟨trivial, ((callsIn_wide (n := 2)).2 (hbytes_ok r a p b q _)).mono ?_⟩
  rintro e w2 ⟨t, rfl, hBt, hlt, hp⟩
  replace B_g := hid_blk B_g hp
  have HN := Lib.hid (hb2.trans hp (fun _ _ h => h))
  have HB := Lib.hid hBt
  clear hb2 hp hBt
  gi_wp2
  refine wpIn_rangeFunc_ownF rfl (by omega) (gf := 104) (lb := #[.pointer (some ⟨t, 0, none⟩)]) rfl trivial (enters_of Tryz.func104 (by kernel_rfl) rfl)
    (KS.out t w2 HB) (fun _ _ => trivial) (fun _ _ _ _ _ _ _ _ => trivial) (Below.refl _ _) (fun _ => rfl)
    (fun pre W => (W.cell? ⟨g, 0, none⟩ = some (.int .u32 (hfold pre : Nat)) ∧ W.frozen? ⟨g, 0, none⟩ = false) ∧ Below w.heap.size w W)
    (fun _ _ _ => False)
    (OwnFrom.and (Own.from (fun s A B row hs hg hr => ⟨cell_kept hs.1 hg hr, (frozen_kept hs.1 hg hr).trans hs.2⟩) _) (ownFrom_below (Nat.le_refl _) HN.out.size))
    (fun _ _ _ _ _ hs _ _ => hs)
    ⟨⟨cell_at B_g 0 rfl, froz_at B_g 0⟩, HN.out.below (Nat.le_refl _) (fun _ _ h => h)⟩
    (fun x => { tmps := #[.agg #[.int .u8 r, .int .u32 a, .int .u16 p, .int .u32 b, .int .u16 q], .pointer (some ⟨w.heap.size, 0, none⟩), .int .u32 0, .pointer (some ⟨g, 0, none⟩), .int .u8 (x.toNat : Int), .agg #[.int .u8 r, .int .u32 a, .int .u16 p, .int .u32 b, .int .u16 q], .func (.func 104) #[] #[.pointer (some ⟨t, 0, none⟩)], .int .u8 (x.toNat : Int), undef, undef, undef, undef, undef, undef, undef, undef, undef, undef, undef, undef, undef, undef, undef, undef, undef, undef, undef, undef, undef, undef, undef, undef], defers := [] }) ?assign ?body ?done ?stop
  case assign =>
    intro l x W K hK
    gi_wp2
    exact hK
  case body =>
    rintro l pre x W ⟨⟨hc, hf⟩, hbl⟩ _
    have hsn := hfold_snoc pre x
    have hcl : x.toNat < 256 := UInt8.toNat_lt _
    have hnl := hfold_lt pre
    generalize x.toNat = c at *
    gi_wp2
    rw [hstep_bits, ← hsn]
    exact ⟨((KeepsOthers.setCell _ _ _).trans (KeepsOthers.setCell _ _ _)).trans (KeepsOthers.setCell _ _ _), trivial, ⟨World.cell?_setCell_same' _ _ _ (by rw [World.cell?_setCell_same' _ _ _ (by rw [World.cell?_setCell_same' _ _ _ (by rw [hc]; rfl)]; rfl)]; rfl), by rw [World.frozen?_setCell, World.frozen?_setCell, World.frozen?_setCell]; exact hf⟩,
      ((hbl.setCell (p := ⟨g, 0, none⟩) (Nat.le_of_lt hgl) _).setCell (p := ⟨g, 0, none⟩) (Nat.le_of_lt hgl) _).setCell (p := ⟨g, 0, none⟩) (Nat.le_of_lt hgl) _⟩
  case done =>
    rintro D xs W hD rfl ⟨⟨hc, hf⟩, hbl⟩ hK
    have hnl := hfold_lt (tupBy r a p b q)
    gi_wp2
    rw [hfin_bits _ hnl]
    refine ⟨by simp, .inl ⟨_, _, rfl, run_takeDeferred (ds := []) ((KeepsOthers.setCell _ _ _).same D _ ((KeepsOthers.setCell _ _ _).same D _ hK rfl) rfl), ?_⟩⟩
    refine ⟨_, results_tmp rfl _ _ _, ⟨by rw [HR.out]; rfl, Fp.of_below (((hbl.setCell (p := ⟨g, 0, none⟩) (Nat.le_of_lt hgl) _).setCell (p := ⟨g, 0, none⟩) (Nat.le_of_lt hgl) _).trans (belowK_b (w := w2) HN.out.size _ D _ _ hD ((KeepsOthers.setCell _ _ _).same D _ ((KeepsOthers.setCell _ _ _).same D _ hK rfl) rfl) rfl rfl))⟩⟩
  case stop =>
    rintro D c pre W _ _ h _
    exact h.elim
end Go.Proofs.YtcimbbllefkdlaaGreatDoor

namespace Go.Proofs.YtcimbbllefkdlaaGreatDoor
set_option linter.unusedVariables false
set_option linter.unusedSimpArgs false
open Go.RowKit Go.Lib Go.Sort
set_option maxHeartbeats 8000000 in
set_option maxRecDepth 100000 in
theorem hash_ok : HashOk := by
  intro r a p b q n w hr ha hp hb hq hn
  have KN := Lib.hid (fun W => hnum_ok r a p b q hr ha hp hb hq W)
  have hlt : hashL (tupBy r a p b q) < 4294967296 := Nat.mod_lt _ (by omega)
  have hH : hashOf r a p b q n = if (n : Int) < 1 then 0 else ((hashL (tupBy r a p b q) % n : Nat) : Int) := rfl
  obtain ⟨z, hz⟩ : ∃ z, z = hashOf r a p b q n := ⟨_, rfl⟩
  rw [← hz] at hH ⊢
  clear hz hr ha hp hb hq
  obtain ⟨x, hx⟩ : ∃ x, x = hashL (tupBy r a p b q) := ⟨_, rfl⟩
  rw [← hx] at KN hlt hH
  clear hx
  by_cases h1 : n < 1
  · have c1 : (n : Int) < 1 := by omega
    rw [if_pos c1] at hH
    subst hH
    go_enter Tryz.func41, Tryz.ntmps41
    have HN := Lib.hid (Fp.refl (fun _ => False) w)
    go_upto_region 1 with fail
    refine wp_gen (fun z1 hW => ?_)
    have hp := new_now hW
    have hB := new_blk hW
    clear hW
    have hGe := hid_ge HN
    replace HN := hid_now HN hp
    obtain ⟨t, ht⟩ : ∃ t, t = w.heap.size := ⟨_, rfl⟩
    have G_t := Lib.hid (Nat.le_trans hGe (Nat.le_of_eq ht.symm))
    rw [← ht] at hB ⊢
    have B_t := hB
    clear hB hGe ht
    clear hp
    go_wp2_with fail
    go_ret
    exact ⟨rfl, HN.out⟩
  · have c1 : ¬ (n : Int) < 1 := by omega
    rw [if_neg c1] at hH
    have c2 : (1 : Int) ≤ (n : Int) := by omega
    have s1 : IntKind.u64.wrap (n : Int) = (n : Int) := IntWalk.u64_in _ (by omega)
    obtain ⟨y, hy⟩ : ∃ y, y = x % n := ⟨_, rfl⟩
    have hyl : y < 100 := by rw [hy]; exact Nat.lt_of_lt_of_le (Nat.mod_lt _ (by omega)) hn
    have s2 : (x : Int).tmod (n : Int) = (y : Int) := by rw [Int.tmod_eq_emod_of_nonneg (by omega), hy]; rfl
    have s3 : (x : Int) % (n : Int) = (y : Int) := by rw [hy]; rfl
    have s4 : IntKind.i64.wrap (y : Int) = (y : Int) := IntWalk.i64_in _ (by omega)
    have s5 : IntKind.u64.wrap (y : Int) = (y : Int) := IntWalk.u64_in _ (by omega)
    rw [← hy] at hH
    subst hH
    clear hy
    have s6 : IntKind.u64.wrap (x : Int) = (x : Int) := IntWalk.u64_in _ (by omega)
    have c3 : ¬ n = 0 := by omega
    go_enter Tryz.func41, Tryz.ntmps41
    have HN := Lib.hid (Fp.refl (fun _ => False) w)
    go_upto_region 1 with fail
    refine wp_gen (fun z1 hW => ?_)
    have hp := new_now hW
    have hB := new_blk hW
    clear hW
    have hGe := hid_ge HN
    replace HN := hid_now HN hp
    obtain ⟨t, ht⟩ : ∃ t, t = w.heap.size := ⟨_, rfl⟩
    have G_t := Lib.hid (Nat.le_trans hGe (Nat.le_of_eq ht.symm))
    rw [← ht] at hB ⊢
    have B_t := hB
    clear hB hGe ht
    clear hp
    have ct0 := cell_at B_t 0 rfl
    have ct1 := cell_at B_t 1 rfl
    have ct2 := cell_at B_t 2 rfl
    have ct3 := cell_at B_t 3 rfl
    have ct4 := cell_at B_t 4 rfl
    have zt := froz_at B_t
    have lt := hid_lt B_t
    go_wp2_with fail
    refine (KN.out _).mono ?_
    rintro e zb ⟨rfl, hp⟩
    replace HN := hid_now HN hp
    clear hp ct0 ct1 ct2 ct3 ct4 zt lt
    go_wp2_with fail
    go_ret
    exact ⟨rfl, HN.out⟩
end Go.Proofs.YtcimbbllefkdlaaGreatDoor

namespace Go.Proofs.YtcimbbllefkdlaaGreatDoor
set_option linter.unusedVariables false
set_option linter.unusedSimpArgs false
open Go.RowKit Go.Lib Go.Sort
def ent0 : EntD := ⟨0, 0, 0, 0, 0, 0, 0, 0, 0, 0, 0, 0, none, 0, 0⟩
/-- A view of so many slots, chains without links, nothing else. -/
def vdN (ns nc : Nat) (put : Bool) (free : Int) : VD := ⟨0, ns, fun _ => ⟨false, put, false, ent0⟩, fun _ => (id, id, id, id), nc, fun _ => 0, fun _ _ => ⟨0, 0, false⟩, 0, fun _ => ⟨0, 0, 0, 0, 0, 0, 0⟩, 0, fun _ => ⟨0, 0⟩, free, 0, 0⟩
theorem faults_put : (vdN 1 0 true 0).faults = [(1, 0), (2, 0), (6, 0)] := by decide +kernel
theorem faults_none : (vdN 0 0 false 0).faults = [] := by decide +kernel
theorem faults_new : (vdN 4 2 false 4).faults = [] := by decide +kernel
theorem fit_vdN (ns nc : Nat) (put : Bool) (free : Int) (h1 : ns ≤ 100) (h2 : nc ≤ 100) : (vdN ns nc put free).Fit :=
  ⟨h1, h2, fun _ => Nat.zero_le _, Nat.zero_le _, Nat.zero_le _, fun _ => Nat.zero_le _, fun _ _ => by refine ⟨?_, ?_, ?_, ?_, ?_, ?_, ?_, ?_, ?_, ?_, ?_, ?_, ?_⟩ <;> (simp only [vdN, ent0]; first | omega | exact ⟨by omega, by omega⟩ | exact Nat.zero_le _)⟩
end Go.Proofs.YtcimbbllefkdlaaGreatDoor

namespace Go.Proofs.YtcimbbllefkdlaaGreatDoor
set_option linter.unusedVariables false
set_option linter.unusedSimpArgs false
open Go.RowKit Go.Lib Go.Sort
set_option maxHeartbeats 4000000 in
set_option maxRecDepth 100000 in
theorem small_ok (w : World) : Calls Tryz.prog 29 #[.agg #[.int .u8 3, .int .u8 1, .int .u8 2]] w (Ret1 (.agg #[.int .u32 151587081, .int .u32 167772160, .int .i64 8, .int .i64 4, .int .i64 2, .int .i64 3, .int .i64 1]) w) := by
  go_enter Tryz.func29, Tryz.ntmps29
  have HN := Lib.hid (Fp.refl (fun _ => False) w)
  go_upto_region 1 with fail
  refine wp_gen (fun z1 hW => ?_)
  obtain ⟨hB, hB2, hp⟩ := new2_blk hW
  clear hW
  replace HN := hid_now HN hp
  clear hp
  obtain ⟨g2, hg2⟩ : ∃ g2, g2 = w.heap.size + 1 := ⟨_, rfl⟩
  obtain ⟨g1, hg1⟩ : ∃ g1, g1 = w.heap.size := ⟨_, rfl⟩
  have G2 := Lib.hid (show w.heap.size ≤ g2 by omega)
  rw [← hg2] at hB2 ⊢
  rw [← hg1] at hB ⊢
  clear hg1 hg2
  have c0 := cell_at hB 0 rfl
  have c1 := cell_at hB 1 rfl
  have c2 := cell_at hB 2 rfl
  have l1 := hid_lt hB
  have d0 := cell_at hB2 0 rfl
  have d1 := cell_at hB2 1 rfl
  have d2 := cell_at hB2 2 rfl
  have d3 := cell_at hB2 3 rfl
  have d4 := cell_at hB2 4 rfl
  have d5 := cell_at hB2 5 rfl
  have d6 := cell_at hB2 6 rfl
  have z2 := froz_at hB2
  have l2 := hid_lt hB2
  go_wp2_with fail
  refine post_gen (fun W hW => ?_)
  obtain ⟨hB3, hf⟩ := setE7 hW hB2
  clear hW c0 c1 c2 l1 d0 d1 d2 d3 d4 d5 d6 z2 l2
  have d0 := cell_at hB3 0 rfl
  have d1 := cell_at hB3 1 rfl
  have d2 := cell_at hB3 2 rfl
  have d3 := cell_at hB3 3 rfl
  have d4 := cell_at hB3 4 rfl
  have d5 := cell_at hB3 5 rfl
  have d6 := cell_at hB3 6 rfl
  refine bodyPost_ret (v := .agg #[.int .u32 151587081, .int .u32 167772160, .int .i64 8, .int .i64 4, .int .i64 2, .int .i64 3, .int .i64 1]) (by simp only [results, Tryz.results29]; go_simp) rfl ⟨rfl, HN.out.trans hf (fun i hi e => by have h1 : i = g2 := e; have h2 := G2.out; omega)⟩
def BoxOut (w : World) (e : Ending) (w' : World) : Prop := ∃ g tb sl ss bc bf bm ep pt p1 p2 wv, e = .returned (.pointer (some ⟨g, 0, none⟩)) ∧ BoxN w' g tb sl ss bc bf bm ep pt p1 p2 wv 151587081 167772160 8 4 2 ∧ NoW w w'
set_option maxHeartbeats 4000000 in
set_option maxRecDepth 100000 in
theorem box_ok (w : World) : Calls Tryz.prog 11 #[.agg #[.int .u8 3, .int .u8 1, .int .u8 2]] w (BoxOut w) := by
  have KN := Lib.hid (fun W => shared_new 151587081 167772160 8 4 2 3 1 (by omega) (by omega) (by decide +kernel) (by decide +kernel) (by omega) (by omega) (by omega) (by omega) (by omega) (by omega) (by omega) (by omega) W)
  go_enter Tryz.func11, Tryz.ntmps11
  have HN := Lib.hid (Fp.refl (fun _ => False) w)
  go_upto_region 1 with fail
  refine wp_gen (fun z1 hW => ?_)
  have hp := new_now hW
  have hB := new_blk hW
  clear hW
  replace HN := hid_now HN hp
  clear hp
  have c0 := cell_at hB 0 rfl
  have c1 := cell_at hB 1 rfl
  have c2 := cell_at hB 2 rfl
  have l1 := hid_lt hB
  go_wp2_with fail
  refine (small_ok _).mono ?_
  rintro e z2 ⟨rfl, hp⟩
  replace HN := hid_now HN hp
  clear hp c0 c1 c2 l1
  go_wp2_with fail
  refine (show Calls _ _ _ _ _ from KN.out _).mono ?_
  rintro e z3 ⟨g, tb, sl, ss, bc, bf, bm, ep, wv, pt, p1, p2, rfl, h1, h2, h3, h4, h5, h6, h7, hp⟩
  replace HN := hid_now HN hp
  have HX := Lib.hid (show BoxN z3 g tb sl ss bc bf bm ep pt p1 p2 wv 151587081 167772160 8 4 2 from ⟨h1, h2, h3, h4, h5, h6, h7⟩)
  clear hp h1 h2 h3 h4 h5 h6 h7
  go_wp2_with fail
  go_ret
  exact ⟨g, tb, sl, ss, bc, bf, bm, ep, pt, p1, p2, wv, rfl, HX.out, HN.out⟩
/-- Look at a view of so many slots, chains without links, nothing else. -/
theorem look_N (ns nc : Nat) (put : Bool) (free : Int) (sa ca : Option Addr) (sc cc : Nat) (pc qc : Nat) (h1 : ns ≤ 100) (h2 : nc ≤ 100) (w : World) (ht : Tb w) (hS : AtC w sa ns 16 (fun i => ((vdN ns nc put free).S i).cs)) (hC : AtC w ca nc 1 (fun _ => [.slice none 0 0])) :
    Calls Tryz.prog 7 #[.agg #[.int .i64 0, .slice sa ns sc, .slice ca nc cc, .slice none 0 pc, .slice none 0 qc, .int .i64 free, .int .i64 0, .int .i64 0]] w fun e w' => ∃ fv, e = .returned fv ∧ w'.ownsRow w.heap.size 61 2 fv (vdN ns nc put free).faults.length (flatF (vdN ns nc put free).faults) ∧ NoW w w' :=
  look_ok (vdN ns nc put free) sa ca none none sc cc pc qc (fun _ => none) (fun _ => 0) (fit_vdN ns nc put free h1 h2) w ht hash_ok ⟨hS, fun i hi h0 => absurd h0 (Nat.lt_irrefl 0), hC, fun c hc i hi => absurd hi (Nat.not_lt_zero i), fun i hi => absurd hi (Nat.not_lt_zero i), fun i hi => absurd hi (Nat.not_lt_zero i)⟩
set_option maxHeartbeats 8000000 in
set_option maxRecDepth 100000 in
theorem looked_ok (w : World) (ht : Tb w) : Calls Tryz.prog 5 #[] w (Ret1 (.bool true) w) := by
  have HT := Lib.hid ht
  clear ht
  go_enter Tryz.func5, Tryz.ntmps5
  have HN := Lib.hid (Fp.refl (fun _ => False) w)
  go_wp2_with fail
  refine calls_gen (fun x1 hW => ?_)
  have hp := new_now hW
  have hB := new_blk hW
  clear hW
  replace HN := hid_now HN hp
  clear hp
  refine (look_N 1 0 true 0 (some ⟨w.heap.size, 0, none⟩) none 1 0 0 0 (by omega) (by omega) _ (HT.out.low HN.out) (fun i hi => ⟨_, 0, rfl, hid_lt hB, fun j v hj => by obtain rfl : i = 0 := (by omega); have := cell_at hB j hj; simpa using this⟩) (fun i hi => absurd hi (Nat.not_lt_zero i))).mono ?_
  rintro e x2 ⟨fv, rfl, hO, hp⟩
  rw [faults_put] at hO
  replace HN := hid_now HN hp
  clear hp hB
  obtain ⟨gf, hgf⟩ : ∃ gf cf, fv = .slice (some ⟨gf, 0, none⟩) 3 cf := by rcases hO.2 with ⟨_, h⟩ | ⟨g, cap, cur, e, _⟩; (simp at h); exact ⟨g, cap, e⟩
  obtain ⟨cf, rfl⟩ := hgf
  have HC := Lib.hid (fun j v hj => World.ownsRow.cells hO (g := gf) rfl j v hj)
  have HL := Lib.hid (World.ownsRow.lt hO gf rfl).2
  clear hO
  go_wp2_with fail
  refine (box_ok _).mono ?_
  rintro e x3 ⟨g, tb, sl, ss, bc, bf, bm, ep, pt, p1, p2, wv, rfl, hX, hp⟩
  have HX := Lib.hid hX
  replace HN := hid_now HN hp
  have HP := Lib.hid hp
  clear hX hp
  go_wp2_with fail
  refine (look_N 0 0 false 0 none none 0 0 0 0 (by omega) (by omega) _ (HT.out.low HN.out) (fun i hi => absurd hi (Nat.not_lt_zero i)) (fun i hi => absurd hi (Nat.not_lt_zero i))).mono ?_
  rintro e x4 ⟨fv, rfl, hO, hp⟩
  rw [faults_none] at hO
  obtain ⟨fa, fc, rfl, _⟩ := own_new hO
  replace HN := hid_now HN hp
  replace HP := hid_now HP hp
  replace HX := Lib.hid (HX.out.low hp)
  clear hp hO
  simp only [List.length_nil]
  go_wp2_with fail
  refine (take_new (by omega) (by omega) (by omega) HX.out).mono ?_
  rintro e x5 ⟨sa, ca, sc, cc, rfl, hS, hC, hp⟩
  replace HN := hid_now HN hp
  replace HP := hid_now HP hp
  clear hp
  have HS := Lib.hid hS
  have HCh := Lib.hid hC
  clear hS hC
  go_wp2_with fail
  refine (look_N 4 2 false 4 sa ca sc cc 0 0 (by omega) (by omega) _ (HT.out.low HN.out) HS.out HCh.out).mono ?_
  rintro e x6 ⟨fv, rfl, hO, hp⟩
  rw [faults_new] at hO
  obtain ⟨fa2, fc2, rfl, _⟩ := own_new hO
  replace HN := hid_now HN hp
  replace HP := hid_now HP hp
  clear hp hO
  simp only [List.length_nil]
  have k : ∀ j v, (flatF [(1, 0), (2, 0), (6, 0)])[j]? = some v → x6.cell? ⟨gf, j, none⟩ = some v := fun j v hj => by
    have := HC.out j v hj
    rw [add_eq0] at this
    exact (HP.out.cell (p := ⟨gf, j, none⟩) HL.out id).trans this
  have k0 : x6.cell? ⟨gf, 0, none⟩ = some (.int .i64 1) := k 0 _ rfl
  have k1 : x6.cell? ⟨gf, 1, none⟩ = some (.int .i64 0) := k 1 _ rfl
  have k2 : x6.cell? ⟨gf, 2, none⟩ = some (.int .i64 2) := k 2 _ rfl
  have k3 : x6.cell? ⟨gf, 3, none⟩ = some (.int .i64 0) := k 3 _ rfl
  have k4 : x6.cell? ⟨gf, 4, none⟩ = some (.int .i64 6) := k 4 _ rfl
  have k5 : x6.cell? ⟨gf, 5, none⟩ = some (.int .i64 0) := k 5 _ rfl
  have lg := cell_lt k0
  clear k
  go_wp2_with fail
  go_ret
  exact ⟨rfl, HN.out⟩
end Go.Proofs.YtcimbbllefkdlaaGreatDoor
