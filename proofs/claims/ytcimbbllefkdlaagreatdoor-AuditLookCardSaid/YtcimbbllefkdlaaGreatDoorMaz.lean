/- Texts of this proof, merged: AuZ. -/
import Derived.Test.YtcimbbllefkdlaaGreatDoorMay
import Derived.Test.YtcimbbllefkdlaaGreatDoorMad
import Derived.Laws.Concat
import Derived.Test.YtcimbbllefkdlaaGreatDoorMaa
import Derived.Test.YtcimbbllefkdlaaGreatDoorMab
import Derived.Test.YtcimbbllefkdlaaGreatDoorMac
import Derived.Test.YtcimbbllefkdlaaGreatDoorMae
import Derived.Test.YtcimbbllefkdlaaGreatDoorMaf
import Derived.Test.YtcimbbllefkdlaaGreatDoorMag
import Derived.Test.YtcimbbllefkdlaaGreatDoorMah
import Derived.Test.YtcimbbllefkdlaaGreatDoorMai
import Derived.Test.YtcimbbllefkdlaaGreatDoorMaj
import Derived.Test.YtcimbbllefkdlaaGreatDoorMak
import Derived.Test.YtcimbbllefkdlaaGreatDoorMal
import Derived.Test.YtcimbbllefkdlaaGreatDoorMam
import Derived.Test.YtcimbbllefkdlaaGreatDoorMan
import Derived.Test.YtcimbbllefkdlaaGreatDoorMao
import Derived.Test.YtcimbbllefkdlaaGreatDoorMap
import Derived.Test.YtcimbbllefkdlaaGreatDoorMaq
import Derived.Test.YtcimbbllefkdlaaGreatDoorMar
import Derived.Test.YtcimbbllefkdlaaGreatDoorMas
import Derived.Test.YtcimbbllefkdlaaGreatDoorMat
import Derived.Test.YtcimbbllefkdlaaGreatDoorMau
import Derived.Test.YtcimbbllefkdlaaGreatDoorMav
import Derived.Test.YtcimbbllefkdlaaGreatDoorMaw
import Derived.Test.YtcimbbllefkdlaaGreatDoorMax
namespace Go.Proofs.YtcimbbllefkdlaaGreatDoor
set_option linter.unusedVariables false
set_option linter.unusedSimpArgs false
open Go.RowKit Go.Lib Go.Sort
theorem bytes1 (W : World) (g r : Nat) (hr : r < 256) (hc : W.cell? ⟨g, 0, none⟩ = some (.int .u8 (r : Nat))) : (convert 201 9 (.slice (some ⟨g, 0, none⟩) 1 1)).run Tryz.prog W = .ok (str [UInt8.ofNat r]) W := by
  have e0 : (UInt8.ofNat r).toNat = r := by rw [UInt8.toNat_ofNat']; omega
  exact run_convert_bytes_back (P := Tryz.prog) W 201 9 5 ⟨g, 0, none⟩ 1 [UInt8.ofNat r] Tryz.underlying201 Tryz.underlying5 Tryz.underlying9 (fun j hj => by
    have : j = 0 := by simp at hj; omega
    subst this
    rw [add_eq0]; rw [hc]; simp [e0])
set_option maxHeartbeats 8000000 in
set_option maxRecDepth 100000 in
theorem r12_bytes (r a p b q : Nat) (hr : r < 256) (ha : a < 4294967296) (hp : p < 65536) (hb : b < 4294967296) (hq : q < 65536) (w : World) :
    Calls Tryz.prog 75 #[.agg #[.int .u8 r, .int .u32 a, .int .u16 p, .int .u32 b, .int .u16 q]] w (Ret1 (str ([UInt8.ofNat r] ++ b32 a ++ b16 p ++ b32 b ++ b16 q)) w) := by
  have K1 := Lib.hid (fun W => r01_put32 a ha W)
  have K2 := Lib.hid (fun W => r01_put16 p hp W)
  have K3 := Lib.hid (fun W => r01_put32 b hb W)
  have K4 := Lib.hid (fun W => r01_put16 q hq W)
  have l1 : (b32 a).length = 4 := rfl
  have l2 : (b16 p).length = 2 := rfl
  have l3 : (b32 b).length = 4 := rfl
  have l4 : (b16 q).length = 2 := rfl
  have l0 : [UInt8.ofNat r].length = 1 := rfl
  obtain ⟨x0, hx0⟩ : ∃ x, x = [UInt8.ofNat r] := ⟨_, rfl⟩
  have HX0 := Lib.hid hx0.symm
  rw [← hx0] at l0 ⊢
  generalize b32 a = x1 at *
  generalize b16 p = x2 at *
  generalize b32 b = x3 at *
  generalize b16 q = x4 at *
  have s1 := fun W => run_string_add_lists (P := Tryz.prog) W x0 x1 (by omega) (by omega)
  obtain ⟨y1, hy1⟩ : ∃ y, y = x0 ++ x1 := ⟨_, rfl⟩
  have m1 : y1.length = 5 := by rw [hy1, List.length_append]; omega
  rw [← hy1] at s1
  have s2 := fun W => run_string_add_lists (P := Tryz.prog) W y1 x2 (by omega) (by omega)
  obtain ⟨y2, hy2⟩ : ∃ y, y = y1 ++ x2 := ⟨_, rfl⟩
  have m2 : y2.length = 7 := by rw [hy2, List.length_append]; omega
  rw [← hy2] at s2
  have s3 := fun W => run_string_add_lists (P := Tryz.prog) W y2 x3 (by omega) (by omega)
  obtain ⟨y3, hy3⟩ : ∃ y, y = y2 ++ x3 := ⟨_, rfl⟩
  have m3 : y3.length = 11 := by rw [hy3, List.length_append]; omega
  rw [← hy3] at s3
  have s4 := fun W => run_string_add_lists (P := Tryz.prog) W y3 x4 (by omega) (by omega)
  obtain ⟨y4, hy4⟩ : ∃ y, y = y3 ++ x4 := ⟨_, rfl⟩
  rw [← hy4] at s4
  have hres : x0 ++ x1 ++ x2 ++ x3 ++ x4 = y4 := by rw [hy4, hy3, hy2, hy1]
  rw [hres]
  clear hres hx0 hy1 hy2 hy3 hy4 l0 l1 l2 l3 l4 m1 m2 m3 ha hp hb hq
  go_enter Tryz.func75, Tryz.ntmps75
  have HN := Lib.hid (Fp.refl (fun _ => False) w)
  go_upto_region 1 with fail
  refine wp_gen (fun z1 hW => ?_)
  have hp := new_now hW
  have hB := new_blk hW
  clear hW
  have hGe := hid_ge HN
  replace HN := hid_now HN hp
  obtain ⟨t, ht⟩ : ∃ t, t = w.heap.size := ⟨_, rfl⟩
  have G_t := Lib.hid (Nat.le_trans hGe (Nat.le_of_eq ht.symm))
  rw [← ht] at hB ⊢
  have B_t := hB
  clear hB hGe ht
  clear hp
  have ct0 := cell_at B_t 0 rfl
  have ct1 := cell_at B_t 1 rfl
  have ct2 := cell_at B_t 2 rfl
  have ct3 := cell_at B_t 3 rfl
  have ct4 := cell_at B_t 4 rfl
  have zt := froz_at B_t
  have lt := hid_lt B_t
  refine wp_region_held_drew (S := fun wx => NoW z1 wx) (by kernel_rfl) (Fp.drew (Fp.refl _ _)) (fun hHeld0 => ?_)
  refine any_eq hHeld0 (fun z2 hW hHeld => ?_)
  clear hHeld0
  replace B_t := hid_blk B_t (noW_drew hW)
  clear hW
  (refine tk 0 (some 4) ?_ ?_ ?_; rotate_left; (focus (intro wS hSw; go_simp; try with_reducible rfl)); (try simp only [Act.put, List.setIfInBounds_toArray, List.set_cons_zero, List.set_cons_succ]))
  (refine tk 1 (some 5) ?_ ?_ ?_; rotate_left; (focus (intro wS hSw; (have q0 := (hSw.cell (p := ⟨t, 0, none⟩) lt id).trans ct0); go_simp; try with_reducible rfl)); (try simp only [Act.put, List.setIfInBounds_toArray, List.set_cons_zero, List.set_cons_succ]))
  (refine tk 4 (some 8) ?_ ?_ ?_; rotate_left; (focus (intro wS hSw; go_simp; try with_reducible rfl)); (try simp only [Act.put, List.setIfInBounds_toArray, List.set_cons_zero, List.set_cons_succ]))
  (refine tk 5 (some 9) ?_ ?_ ?_; rotate_left; (focus (intro wS hSw; go_simp; try with_reducible rfl)); (try simp only [Act.put, List.setIfInBounds_toArray, List.set_cons_zero, List.set_cons_succ]))
  (refine tk 6 (some 10) ?_ ?_ ?_; rotate_left; (focus (intro wS hSw; (have q1 := (hSw.cell (p := ⟨t, 1, none⟩) lt id).trans ct1); go_simp; try with_reducible rfl)); (try simp only [Act.put, List.setIfInBounds_toArray, List.set_cons_zero, List.set_cons_succ]))
  (refine tk 9 (some 13) ?_ ?_ ?_; rotate_left; (focus (intro wS hSw; go_simp; try with_reducible rfl)); (try simp only [Act.put, List.setIfInBounds_toArray, List.set_cons_zero, List.set_cons_succ]))
  (refine tk 10 (some 14) ?_ ?_ ?_; rotate_left; (focus (intro wS hSw; go_simp; try with_reducible rfl)); (try simp only [Act.put, List.setIfInBounds_toArray, List.set_cons_zero, List.set_cons_succ]))
  (refine tk 11 (some 15) ?_ ?_ ?_; rotate_left; (focus (intro wS hSw; (have q2 := (hSw.cell (p := ⟨t, 2, none⟩) lt id).trans ct2); go_simp; try with_reducible rfl)); (try simp only [Act.put, List.setIfInBounds_toArray, List.set_cons_zero, List.set_cons_succ]))
  refine wpAnyH_ready (rs := [2, 7]) (by kernel_rfl) (by simp) ?_
  refine AllReadyH.cons rfl (fun K hK => ?_) (AllReadyH.cons rfl (fun K hK => ?_) AllReadyH.nil)
  · go_simp
    refine k_gen hK (fun z3 hW => ?_)
    have l2t := hid_lt B_t
    have hp := new_now hW
    have hB := new_blk hW
    have hGe := Fp.size hHeld
    clear hW
    refine ⟨Fp.trans hHeld hp (fun _ _ h => h.elim), ?_⟩
    replace hHeld := Fp.trans hHeld hp (fun _ _ h => h.elim)
    clear hK K
    try simp only [Act.put, List.setIfInBounds_toArray, List.set_cons_zero, List.set_cons_succ]
    obtain ⟨gS, hgS⟩ : ∃ gS, gS = z2.heap.size := ⟨_, rfl⟩
    have R_gS := Lib.hid (Nat.le_trans hGe (Nat.le_of_eq hgS.symm))
    have n_t_gS : ¬ t = gS := by omega
    have n_gS_t : ¬ gS = t := by omega
    clear l2t
    replace B_t := hid_blk B_t hp
    rw [← hgS] at hB ⊢
    have B_gS := hB
    clear hB hgS hp hGe
    refine wpAnyH_ready (rs := [3, 7]) (by kernel_rfl) (by simp) ?_
    refine AllReadyH.cons rfl (fun K hK => ?_) (AllReadyH.cons rfl (fun K hK => ?_) AllReadyH.nil)
    · have hcv := bytes1 z3 gS r hr (cell_at B_gS 0 rfl)
      rw [HX0.out] at hcv
      go_simp
      refine k_now hK hHeld ?_
      clear hK K hcv
      try simp only [Act.put, List.setIfInBounds_toArray, List.set_cons_zero, List.set_cons_succ]
      refine wpAnyH_ready (rs := [7]) (by kernel_rfl) (by simp) ?_
      refine AllReadyH.cons rfl (fun K hK => ?_) AllReadyH.nil
      go_simp
      go_at_call 92
      refine (show Calls _ _ _ _ _ from K1.out _).mono ?_
      rintro e z5 ⟨rfl, hp⟩
      have hn := Fp.trans hHeld hp (fun _ _ h => h.elim)
      replace B_t := hid_blk B_t hp
      replace B_gS := hid_blk B_gS hp
      refine k_now hK hn ?_
      clear hK K hp hHeld
      have hHeld := hn
      clear hn
      try simp only [Act.put, List.setIfInBounds_toArray, List.set_cons_zero, List.set_cons_succ]
      (refine tk 8 (some 12) ?_ ?_ ?_; rotate_left; (focus (intro wS hSw; go_simp; try with_reducible rfl)); (try simp only [Act.put, List.setIfInBounds_toArray, List.set_cons_zero, List.set_cons_succ]))
      refine wpAnyH_ready (rs := [12]) (by kernel_rfl) (by simp) ?_
      refine AllReadyH.cons rfl (fun K hK => ?_) AllReadyH.nil
      go_simp
      go_at_call 93
      refine (show Calls _ _ _ _ _ from K2.out _).mono ?_
      rintro e z6 ⟨rfl, hp⟩
      have hn := Fp.trans hHeld hp (fun _ _ h => h.elim)
      replace B_t := hid_blk B_t hp
      replace B_gS := hid_blk B_gS hp
      refine k_now hK hn ?_
      clear hK K hp hHeld
      have hHeld := hn
      clear hn
      try simp only [Act.put, List.setIfInBounds_toArray, List.set_cons_zero, List.set_cons_succ]
      (refine tk 13 (some 17) ?_ ?_ ?_; rotate_left; (focus (intro wS hSw; go_simp; try with_reducible rfl)); (try simp only [Act.put, List.setIfInBounds_toArray, List.set_cons_zero, List.set_cons_succ]))
      (refine tk 14 (some 3) ?_ ?_ ?_; rotate_left; (focus (intro wS hSw; go_simp; try with_reducible rfl)); (try simp only [Act.put, List.setIfInBounds_toArray, List.set_cons_zero, List.set_cons_succ]))
      refine wpAnyH_done (by kernel_rfl) ?_ _
      clear ct0 ct1 ct2 ct3 ct4 zt lt
      replace HN := hid_now HN hHeld
      clear hHeld
      have ct0 := cell_at B_t 0 rfl
      have ct1 := cell_at B_t 1 rfl
      have ct2 := cell_at B_t 2 rfl
      have ct3 := cell_at B_t 3 rfl
      have ct4 := cell_at B_t 4 rfl
      have zt := froz_at B_t
      have lt := hid_lt B_t
      go_upto_region 2 with fail
      refine wp_region_held_drew (S := fun wx => NoW z6 wx) (by kernel_rfl) (Fp.drew (Fp.refl _ _)) (fun hHeld0 => ?_)
      refine any_eq hHeld0 (fun y1w1 hW hHeld => ?_)
      clear hHeld0
      replace B_t := hid_blk B_t (noW_drew hW)
      clear hW
      (refine tk 0 (some 18) ?_ ?_ ?_; rotate_left; (focus (intro wS hSw; go_simp; try with_reducible rfl)); (try simp only [Act.put, List.setIfInBounds_toArray, List.set_cons_zero, List.set_cons_succ]))
      (refine tk 1 (some 19) ?_ ?_ ?_; rotate_left; (focus (intro wS hSw; go_simp; try with_reducible rfl)); (try simp only [Act.put, List.setIfInBounds_toArray, List.set_cons_zero, List.set_cons_succ]))
      (refine tk 2 (some 20) ?_ ?_ ?_; rotate_left; (focus (intro wS hSw; go_simp; try with_reducible rfl)); (try simp only [Act.put, List.setIfInBounds_toArray, List.set_cons_zero, List.set_cons_succ]))
      (refine tk 3 (some 21) ?_ ?_ ?_; rotate_left; (focus (intro wS hSw; (have q3 := (hSw.cell (p := ⟨t, 3, none⟩) lt id).trans ct3); go_simp; try with_reducible rfl)); (try simp only [Act.put, List.setIfInBounds_toArray, List.set_cons_zero, List.set_cons_succ]))
      (refine tk 6 (some 24) ?_ ?_ ?_; rotate_left; (focus (intro wS hSw; go_simp; try with_reducible rfl)); (try simp only [Act.put, List.setIfInBounds_toArray, List.set_cons_zero, List.set_cons_succ]))
      (refine tk 7 (some 25) ?_ ?_ ?_; rotate_left; (focus (intro wS hSw; go_simp; try with_reducible rfl)); (try simp only [Act.put, List.setIfInBounds_toArray, List.set_cons_zero, List.set_cons_succ]))
      (refine tk 8 (some 26) ?_ ?_ ?_; rotate_left; (focus (intro wS hSw; (have q4 := (hSw.cell (p := ⟨t, 4, none⟩) lt id).trans ct4); go_simp; try with_reducible rfl)); (try simp only [Act.put, List.setIfInBounds_toArray, List.set_cons_zero, List.set_cons_succ]))
      refine wpAnyH_ready (rs := [4]) (by kernel_rfl) (by simp) ?_
      refine AllReadyH.cons rfl (fun K hK => ?_) AllReadyH.nil
      go_simp
      go_at_call 92
      refine (show Calls _ _ _ _ _ from K3.out _).mono ?_
      rintro e y1w2 ⟨rfl, hp⟩
      have hn := Fp.trans hHeld hp (fun _ _ h => h.elim)
      replace B_t := hid_blk B_t hp
      refine k_now hK hn ?_
      clear hK K hp hHeld
      have hHeld := hn
      clear hn
      try simp only [Act.put, List.setIfInBounds_toArray, List.set_cons_zero, List.set_cons_succ]
      (refine tk 5 (some 23) ?_ ?_ ?_; rotate_left; (focus (intro wS hSw; go_simp; try with_reducible rfl)); (try simp only [Act.put, List.setIfInBounds_toArray, List.set_cons_zero, List.set_cons_succ]))
      refine wpAnyH_ready (rs := [9]) (by kernel_rfl) (by simp) ?_
      refine AllReadyH.cons rfl (fun K hK => ?_) AllReadyH.nil
      go_simp
      go_at_call 93
      refine (show Calls _ _ _ _ _ from K4.out _).mono ?_
      rintro e y1w3 ⟨rfl, hp⟩
      have hn := Fp.trans hHeld hp (fun _ _ h => h.elim)
      replace B_t := hid_blk B_t hp
      refine k_now hK hn ?_
      clear hK K hp hHeld
      have hHeld := hn
      clear hn
      try simp only [Act.put, List.setIfInBounds_toArray, List.set_cons_zero, List.set_cons_succ]
      (refine tk 10 (some 28) ?_ ?_ ?_; rotate_left; (focus (intro wS hSw; go_simp; try with_reducible rfl)); (try simp only [Act.put, List.setIfInBounds_toArray, List.set_cons_zero, List.set_cons_succ]))
      (refine tk 11 (some 2) ?_ ?_ ?_; rotate_left; (focus (intro wS hSw; go_simp; try with_reducible rfl)); (try simp only [Act.put, List.setIfInBounds_toArray, List.set_cons_zero, List.set_cons_succ]))
      refine wpAnyH_done (by kernel_rfl) ?_ _
      clear ct0 ct1 ct2 ct3 ct4 zt lt
      replace HN := hid_now HN hHeld
      clear hHeld
      go_wp2_with fail
      go_ret
      exact ⟨rfl, HN.out⟩
    · go_simp
      go_at_call 92
      refine (show Calls _ _ _ _ _ from K1.out _).mono ?_
      rintro e z7 ⟨rfl, hp⟩
      have hn := Fp.trans hHeld hp (fun _ _ h => h.elim)
      replace B_t := hid_blk B_t hp
      replace B_gS := hid_blk B_gS hp
      refine k_now hK hn ?_
      clear hK K hp hHeld
      have hHeld := hn
      clear hn
      try simp only [Act.put, List.setIfInBounds_toArray, List.set_cons_zero, List.set_cons_succ]
      refine wpAnyH_ready (rs := [3, 12]) (by kernel_rfl) (by simp) ?_
      refine AllReadyH.cons rfl (fun K hK => ?_) (AllReadyH.cons rfl (fun K hK => ?_) AllReadyH.nil)
      · have hcv := bytes1 z7 gS r hr (cell_at B_gS 0 rfl)
        rw [HX0.out] at hcv
        go_simp
        refine k_now hK hHeld ?_
        clear hK K hcv
        try simp only [Act.put, List.setIfInBounds_toArray, List.set_cons_zero, List.set_cons_succ]
        (refine tk 8 (some 12) ?_ ?_ ?_; rotate_left; (focus (intro wS hSw; go_simp; try with_reducible rfl)); (try simp only [Act.put, List.setIfInBounds_toArray, List.set_cons_zero, List.set_cons_succ]))
        refine wpAnyH_ready (rs := [12]) (by kernel_rfl) (by simp) ?_
        refine AllReadyH.cons rfl (fun K hK => ?_) AllReadyH.nil
        go_simp
        go_at_call 93
        refine (show Calls _ _ _ _ _ from K2.out _).mono ?_
        rintro e z9 ⟨rfl, hp⟩
        have hn := Fp.trans hHeld hp (fun _ _ h => h.elim)
        replace B_t := hid_blk B_t hp
        replace B_gS := hid_blk B_gS hp
        refine k_now hK hn ?_
        clear hK K hp hHeld
        have hHeld := hn
        clear hn
        try simp only [Act.put, List.setIfInBounds_toArray, List.set_cons_zero, List.set_cons_succ]
        (refine tk 13 (some 17) ?_ ?_ ?_; rotate_left; (focus (intro wS hSw; go_simp; try with_reducible rfl)); (try simp only [Act.put, List.setIfInBounds_toArray, List.set_cons_zero, List.set_cons_succ]))
        (refine tk 14 (some 3) ?_ ?_ ?_; rotate_left; (focus (intro wS hSw; go_simp; try with_reducible rfl)); (try simp only [Act.put, List.setIfInBounds_toArray, List.set_cons_zero, List.set_cons_succ]))
        refine wpAnyH_done (by kernel_rfl) ?_ _
        clear ct0 ct1 ct2 ct3 ct4 zt lt
        replace HN := hid_now HN hHeld
        clear hHeld
        have ct0 := cell_at B_t 0 rfl
        have ct1 := cell_at B_t 1 rfl
        have ct2 := cell_at B_t 2 rfl
        have ct3 := cell_at B_t 3 rfl
        have ct4 := cell_at B_t 4 rfl
        have zt := froz_at B_t
        have lt := hid_lt B_t
        go_upto_region 2 with fail
        refine wp_region_held_drew (S := fun wx => NoW z9 wx) (by kernel_rfl) (Fp.drew (Fp.refl _ _)) (fun hHeld0 => ?_)
        refine any_eq hHeld0 (fun y2w1 hW hHeld => ?_)
        clear hHeld0
        replace B_t := hid_blk B_t (noW_drew hW)
        clear hW
        (refine tk 0 (some 18) ?_ ?_ ?_; rotate_left; (focus (intro wS hSw; go_simp; try with_reducible rfl)); (try simp only [Act.put, List.setIfInBounds_toArray, List.set_cons_zero, List.set_cons_succ]))
        (refine tk 1 (some 19) ?_ ?_ ?_; rotate_left; (focus (intro wS hSw; go_simp; try with_reducible rfl)); (try simp only [Act.put, List.setIfInBounds_toArray, List.set_cons_zero, List.set_cons_succ]))
        (refine tk 2 (some 20) ?_ ?_ ?_; rotate_left; (focus (intro wS hSw; go_simp; try with_reducible rfl)); (try simp only [Act.put, List.setIfInBounds_toArray, List.set_cons_zero, List.set_cons_succ]))
        (refine tk 3 (some 21) ?_ ?_ ?_; rotate_left; (focus (intro wS hSw; (have q3 := (hSw.cell (p := ⟨t, 3, none⟩) lt id).trans ct3); go_simp; try with_reducible rfl)); (try simp only [Act.put, List.setIfInBounds_toArray, List.set_cons_zero, List.set_cons_succ]))
        (refine tk 6 (some 24) ?_ ?_ ?_; rotate_left; (focus (intro wS hSw; go_simp; try with_reducible rfl)); (try simp only [Act.put, List.setIfInBounds_toArray, List.set_cons_zero, List.set_cons_succ]))
        (refine tk 7 (some 25) ?_ ?_ ?_; rotate_left; (focus (intro wS hSw; go_simp; try with_reducible rfl)); (try simp only [Act.put, List.setIfInBounds_toArray, List.set_cons_zero, List.set_cons_succ]))
        (refine tk 8 (some 26) ?_ ?_ ?_; rotate_left; (focus (intro wS hSw; (have q4 := (hSw.cell (p := ⟨t, 4, none⟩) lt id).trans ct4); go_simp; try with_reducible rfl)); (try simp only [Act.put, List.setIfInBounds_toArray, List.set_cons_zero, List.set_cons_succ]))
        refine wpAnyH_ready (rs := [4]) (by kernel_rfl) (by simp) ?_
        refine AllReadyH.cons rfl (fun K hK => ?_) AllReadyH.nil
        go_simp
        go_at_call 92
        refine (show Calls _ _ _ _ _ from K3.out _).mono ?_
        rintro e y2w2 ⟨rfl, hp⟩
        have hn := Fp.trans hHeld hp (fun _ _ h => h.elim)
        replace B_t := hid_blk B_t hp
        refine k_now hK hn ?_
        clear hK K hp hHeld
        have hHeld := hn
        clear hn
        try simp only [Act.put, List.setIfInBounds_toArray, List.set_cons_zero, List.set_cons_succ]
        (refine tk 5 (some 23) ?_ ?_ ?_; rotate_left; (focus (intro wS hSw; go_simp; try with_reducible rfl)); (try simp only [Act.put, List.setIfInBounds_toArray, List.set_cons_zero, List.set_cons_succ]))
        refine wpAnyH_ready (rs := [9]) (by kernel_rfl) (by simp) ?_
        refine AllReadyH.cons rfl (fun K hK => ?_) AllReadyH.nil
        go_simp
        go_at_call 93
        refine (show Calls _ _ _ _ _ from K4.out _).mono ?_
        rintro e y2w3 ⟨rfl, hp⟩
        have hn := Fp.trans hHeld hp (fun _ _ h => h.elim)
        replace B_t := hid_blk B_t hp
        refine k_now hK hn ?_
        clear hK K hp hHeld
        have hHeld := hn
        clear hn
        try simp only [Act.put, List.setIfInBounds_toArray, List.set_cons_zero, List.set_cons_succ]
        (refine tk 10 (some 28) ?_ ?_ ?_; rotate_left; (focus (intro wS hSw; go_simp; try with_reducible rfl)); (try simp only [Act.put, List.setIfInBounds_toArray, List.set_cons_zero, List.set_cons_succ]))
        (refine tk 11 (some 2) ?_ ?_ ?_; rotate_left; (focus (intro wS hSw; go_simp; try with_reducible rfl)); (try simp only [Act.put, List.setIfInBounds_toArray, List.set_cons_zero, List.set_cons_succ]))
        refine wpAnyH_done (by kernel_rfl) ?_ _
        clear ct0 ct1 ct2 ct3 ct4 zt lt
        replace HN := hid_now HN hHeld
        clear hHeld
        go_wp2_with fail
        go_ret
        exact ⟨rfl, HN.out⟩
      · go_simp
        go_at_call 93
        refine (show Calls _ _ _ _ _ from K2.out _).mono ?_
        rintro e z10 ⟨rfl, hp⟩
        have hn := Fp.trans hHeld hp (fun _ _ h => h.elim)
        replace B_t := hid_blk B_t hp
        replace B_gS := hid_blk B_gS hp
        refine k_now hK hn ?_
        clear hK K hp hHeld
        have hHeld := hn
        clear hn
        try simp only [Act.put, List.setIfInBounds_toArray, List.set_cons_zero, List.set_cons_succ]
        refine wpAnyH_ready (rs := [3]) (by kernel_rfl) (by simp) ?_
        refine AllReadyH.cons rfl (fun K hK => ?_) AllReadyH.nil
        have hcv := bytes1 z10 gS r hr (cell_at B_gS 0 rfl)
        rw [HX0.out] at hcv
        go_simp
        refine k_now hK hHeld ?_
        clear hK K hcv
        try simp only [Act.put, List.setIfInBounds_toArray, List.set_cons_zero, List.set_cons_succ]
        (refine tk 8 (some 12) ?_ ?_ ?_; rotate_left; (focus (intro wS hSw; go_simp; try with_reducible rfl)); (try simp only [Act.put, List.setIfInBounds_toArray, List.set_cons_zero, List.set_cons_succ]))
        (refine tk 13 (some 17) ?_ ?_ ?_; rotate_left; (focus (intro wS hSw; go_simp; try with_reducible rfl)); (try simp only [Act.put, List.setIfInBounds_toArray, List.set_cons_zero, List.set_cons_succ]))
        (refine tk 14 (some 3) ?_ ?_ ?_; rotate_left; (focus (intro wS hSw; go_simp; try with_reducible rfl)); (try simp only [Act.put, List.setIfInBounds_toArray, List.set_cons_zero, List.set_cons_succ]))
        refine wpAnyH_done (by kernel_rfl) ?_ _
        clear ct0 ct1 ct2 ct3 ct4 zt lt
        replace HN := hid_now HN hHeld
        clear hHeld
        have ct0 := cell_at B_t 0 rfl
        have ct1 := cell_at B_t 1 rfl
        have ct2 := cell_at B_t 2 rfl
        have ct3 := cell_at B_t 3 rfl
        have ct4 := cell_at B_t 4 rfl
        have zt := froz_at B_t
        have lt := hid_lt B_t
        go_upto_region 2 with fail
        refine wp_region_held_drew (S := fun wx => NoW z10 wx) (by kernel_rfl) (Fp.drew (Fp.refl _ _)) (fun hHeld0 => ?_)
        refine any_eq hHeld0 (fun y3w1 hW hHeld => ?_)
        clear hHeld0
        replace B_t := hid_blk B_t (noW_drew hW)
        clear hW
        (refine tk 0 (some 18) ?_ ?_ ?_; rotate_left; (focus (intro wS hSw; go_simp; try with_reducible rfl)); (try simp only [Act.put, List.setIfInBounds_toArray, List.set_cons_zero, List.set_cons_succ]))
        (refine tk 1 (some 19) ?_ ?_ ?_; rotate_left; (focus (intro wS hSw; go_simp; try with_reducible rfl)); (try simp only [Act.put, List.setIfInBounds_toArray, List.set_cons_zero, List.set_cons_succ]))
        (refine tk 2 (some 20) ?_ ?_ ?_; rotate_left; (focus (intro wS hSw; go_simp; try with_reducible rfl)); (try simp only [Act.put, List.setIfInBounds_toArray, List.set_cons_zero, List.set_cons_succ]))
        (refine tk 3 (some 21) ?_ ?_ ?_; rotate_left; (focus (intro wS hSw; (have q3 := (hSw.cell (p := ⟨t, 3, none⟩) lt id).trans ct3); go_simp; try with_reducible rfl)); (try simp only [Act.put, List.setIfInBounds_toArray, List.set_cons_zero, List.set_cons_succ]))
        (refine tk 6 (some 24) ?_ ?_ ?_; rotate_left; (focus (intro wS hSw; go_simp; try with_reducible rfl)); (try simp only [Act.put, List.setIfInBounds_toArray, List.set_cons_zero, List.set_cons_succ]))
        (refine tk 7 (some 25) ?_ ?_ ?_; rotate_left; (focus (intro wS hSw; go_simp; try with_reducible rfl)); (try simp only [Act.put, List.setIfInBounds_toArray, List.set_cons_zero, List.set_cons_succ]))
        (refine tk 8 (some 26) ?_ ?_ ?_; rotate_left; (focus (intro wS hSw; (have q4 := (hSw.cell (p := ⟨t, 4, none⟩) lt id).trans ct4); go_simp; try with_reducible rfl)); (try simp only [Act.put, List.setIfInBounds_toArray, List.set_cons_zero, List.set_cons_succ]))
        refine wpAnyH_ready (rs := [4]) (by kernel_rfl) (by simp) ?_
        refine AllReadyH.cons rfl (fun K hK => ?_) AllReadyH.nil
        go_simp
        go_at_call 92
        refine (show Calls _ _ _ _ _ from K3.out _).mono ?_
        rintro e y3w2 ⟨rfl, hp⟩
        have hn := Fp.trans hHeld hp (fun _ _ h => h.elim)
        replace B_t := hid_blk B_t hp
        refine k_now hK hn ?_
        clear hK K hp hHeld
        have hHeld := hn
        clear hn
        try simp only [Act.put, List.setIfInBounds_toArray, List.set_cons_zero, List.set_cons_succ]
        (refine tk 5 (some 23) ?_ ?_ ?_; rotate_left; (focus (intro wS hSw; go_simp; try with_reducible rfl)); (try simp only [Act.put, List.setIfInBounds_toArray, List.set_cons_zero, List.set_cons_succ]))
        refine wpAnyH_ready (rs := [9]) (by kernel_rfl) (by simp) ?_
        refine AllReadyH.cons rfl (fun K hK => ?_) AllReadyH.nil
        go_simp
        go_at_call 93
        refine (show Calls _ _ _ _ _ from K4.out _).mono ?_
        rintro e y3w3 ⟨rfl, hp⟩
        have hn := Fp.trans hHeld hp (fun _ _ h => h.elim)
        replace B_t := hid_blk B_t hp
        refine k_now hK hn ?_
        clear hK K hp hHeld
        have hHeld := hn
        clear hn
        try simp only [Act.put, List.setIfInBounds_toArray, List.set_cons_zero, List.set_cons_succ]
        (refine tk 10 (some 28) ?_ ?_ ?_; rotate_left; (focus (intro wS hSw; go_simp; try with_reducible rfl)); (try simp only [Act.put, List.setIfInBounds_toArray, List.set_cons_zero, List.set_cons_succ]))
        (refine tk 11 (some 2) ?_ ?_ ?_; rotate_left; (focus (intro wS hSw; go_simp; try with_reducible rfl)); (try simp only [Act.put, List.setIfInBounds_toArray, List.set_cons_zero, List.set_cons_succ]))
        refine wpAnyH_done (by kernel_rfl) ?_ _
        clear ct0 ct1 ct2 ct3 ct4 zt lt
        replace HN := hid_now HN hHeld
        clear hHeld
        go_wp2_with fail
        go_ret
        exact ⟨rfl, HN.out⟩
  · go_simp
    go_at_call 92
    refine (show Calls _ _ _ _ _ from K1.out _).mono ?_
    rintro e z12 ⟨rfl, hp⟩
    have hn := Fp.trans hHeld hp (fun _ _ h => h.elim)
    replace B_t := hid_blk B_t hp
    refine k_now hK hn ?_
    clear hK K hp hHeld
    have hHeld := hn
    clear hn
    try simp only [Act.put, List.setIfInBounds_toArray, List.set_cons_zero, List.set_cons_succ]
    refine wpAnyH_ready (rs := [2, 12]) (by kernel_rfl) (by simp) ?_
    refine AllReadyH.cons rfl (fun K hK => ?_) (AllReadyH.cons rfl (fun K hK => ?_) AllReadyH.nil)
    · go_simp
      refine k_gen hK (fun z13 hW => ?_)
      have l2t := hid_lt B_t
      have hp := new_now hW
      have hB := new_blk hW
      have hGe := Fp.size hHeld
      clear hW
      refine ⟨Fp.trans hHeld hp (fun _ _ h => h.elim), ?_⟩
      replace hHeld := Fp.trans hHeld hp (fun _ _ h => h.elim)
      clear hK K
      try simp only [Act.put, List.setIfInBounds_toArray, List.set_cons_zero, List.set_cons_succ]
      obtain ⟨gS, hgS⟩ : ∃ gS, gS = z12.heap.size := ⟨_, rfl⟩
      have R_gS := Lib.hid (Nat.le_trans hGe (Nat.le_of_eq hgS.symm))
      have n_t_gS : ¬ t = gS := by omega
      have n_gS_t : ¬ gS = t := by omega
      clear l2t
      replace B_t := hid_blk B_t hp
      rw [← hgS] at hB ⊢
      have B_gS := hB
      clear hB hgS hp hGe
      refine wpAnyH_ready (rs := [3, 12]) (by kernel_rfl) (by simp) ?_
      refine AllReadyH.cons rfl (fun K hK => ?_) (AllReadyH.cons rfl (fun K hK => ?_) AllReadyH.nil)
      · have hcv := bytes1 z13 gS r hr (cell_at B_gS 0 rfl)
        rw [HX0.out] at hcv
        go_simp
        refine k_now hK hHeld ?_
        clear hK K hcv
        try simp only [Act.put, List.setIfInBounds_toArray, List.set_cons_zero, List.set_cons_succ]
        (refine tk 8 (some 12) ?_ ?_ ?_; rotate_left; (focus (intro wS hSw; go_simp; try with_reducible rfl)); (try simp only [Act.put, List.setIfInBounds_toArray, List.set_cons_zero, List.set_cons_succ]))
        refine wpAnyH_ready (rs := [12]) (by kernel_rfl) (by simp) ?_
        refine AllReadyH.cons rfl (fun K hK => ?_) AllReadyH.nil
        go_simp
        go_at_call 93
        refine (show Calls _ _ _ _ _ from K2.out _).mono ?_
        rintro e z15 ⟨rfl, hp⟩
        have hn := Fp.trans hHeld hp (fun _ _ h => h.elim)
        replace B_t := hid_blk B_t hp
        replace B_gS := hid_blk B_gS hp
        refine k_now hK hn ?_
        clear hK K hp hHeld
        have hHeld := hn
        clear hn
        try simp only [Act.put, List.setIfInBounds_toArray, List.set_cons_zero, List.set_cons_succ]
        (refine tk 13 (some 17) ?_ ?_ ?_; rotate_left; (focus (intro wS hSw; go_simp; try with_reducible rfl)); (try simp only [Act.put, List.setIfInBounds_toArray, List.set_cons_zero, List.set_cons_succ]))
        (refine tk 14 (some 3) ?_ ?_ ?_; rotate_left; (focus (intro wS hSw; go_simp; try with_reducible rfl)); (try simp only [Act.put, List.setIfInBounds_toArray, List.set_cons_zero, List.set_cons_succ]))
        refine wpAnyH_done (by kernel_rfl) ?_ _
        clear ct0 ct1 ct2 ct3 ct4 zt lt
        replace HN := hid_now HN hHeld
        clear hHeld
        have ct0 := cell_at B_t 0 rfl
        have ct1 := cell_at B_t 1 rfl
        have ct2 := cell_at B_t 2 rfl
        have ct3 := cell_at B_t 3 rfl
        have ct4 := cell_at B_t 4 rfl
        have zt := froz_at B_t
        have lt := hid_lt B_t
        go_upto_region 2 with fail
        refine wp_region_held_drew (S := fun wx => NoW z15 wx) (by kernel_rfl) (Fp.drew (Fp.refl _ _)) (fun hHeld0 => ?_)
        refine any_eq hHeld0 (fun y4w1 hW hHeld => ?_)
        clear hHeld0
        replace B_t := hid_blk B_t (noW_drew hW)
        clear hW
        (refine tk 0 (some 18) ?_ ?_ ?_; rotate_left; (focus (intro wS hSw; go_simp; try with_reducible rfl)); (try simp only [Act.put, List.setIfInBounds_toArray, List.set_cons_zero, List.set_cons_succ]))
        (refine tk 1 (some 19) ?_ ?_ ?_; rotate_left; (focus (intro wS hSw; go_simp; try with_reducible rfl)); (try simp only [Act.put, List.setIfInBounds_toArray, List.set_cons_zero, List.set_cons_succ]))
        (refine tk 2 (some 20) ?_ ?_ ?_; rotate_left; (focus (intro wS hSw; go_simp; try with_reducible rfl)); (try simp only [Act.put, List.setIfInBounds_toArray, List.set_cons_zero, List.set_cons_succ]))
        (refine tk 3 (some 21) ?_ ?_ ?_; rotate_left; (focus (intro wS hSw; (have q3 := (hSw.cell (p := ⟨t, 3, none⟩) lt id).trans ct3); go_simp; try with_reducible rfl)); (try simp only [Act.put, List.setIfInBounds_toArray, List.set_cons_zero, List.set_cons_succ]))
        (refine tk 6 (some 24) ?_ ?_ ?_; rotate_left; (focus (intro wS hSw; go_simp; try with_reducible rfl)); (try simp only [Act.put, List.setIfInBounds_toArray, List.set_cons_zero, List.set_cons_succ]))
        (refine tk 7 (some 25) ?_ ?_ ?_; rotate_left; (focus (intro wS hSw; go_simp; try with_reducible rfl)); (try simp only [Act.put, List.setIfInBounds_toArray, List.set_cons_zero, List.set_cons_succ]))
        (refine tk 8 (some 26) ?_ ?_ ?_; rotate_left; (focus (intro wS hSw; (have q4 := (hSw.cell (p := ⟨t, 4, none⟩) lt id).trans ct4); go_simp; try with_reducible rfl)); (try simp only [Act.put, List.setIfInBounds_toArray, List.set_cons_zero, List.set_cons_succ]))
        refine wpAnyH_ready (rs := [4]) (by kernel_rfl) (by simp) ?_
        refine AllReadyH.cons rfl (fun K hK => ?_) AllReadyH.nil
        go_simp
        go_at_call 92
        refine (show Calls _ _ _ _ _ from K3.out _).mono ?_
        rintro e y4w2 ⟨rfl, hp⟩
        have hn := Fp.trans hHeld hp (fun _ _ h => h.elim)
        replace B_t := hid_blk B_t hp
        refine k_now hK hn ?_
        clear hK K hp hHeld
        have hHeld := hn
        clear hn
        try simp only [Act.put, List.setIfInBounds_toArray, List.set_cons_zero, List.set_cons_succ]
        (refine tk 5 (some 23) ?_ ?_ ?_; rotate_left; (focus (intro wS hSw; go_simp; try with_reducible rfl)); (try simp only [Act.put, List.setIfInBounds_toArray, List.set_cons_zero, List.set_cons_succ]))
        refine wpAnyH_ready (rs := [9]) (by kernel_rfl) (by simp) ?_
        refine AllReadyH.cons rfl (fun K hK => ?_) AllReadyH.nil
        go_simp
        go_at_call 93
        refine (show Calls _ _ _ _ _ from K4.out _).mono ?_
        rintro e y4w3 ⟨rfl, hp⟩
        have hn := Fp.trans hHeld hp (fun _ _ h => h.elim)
        replace B_t := hid_blk B_t hp
        refine k_now hK hn ?_
        clear hK K hp hHeld
        have hHeld := hn
        clear hn
        try simp only [Act.put, List.setIfInBounds_toArray, List.set_cons_zero, List.set_cons_succ]
        (refine tk 10 (some 28) ?_ ?_ ?_; rotate_left; (focus (intro wS hSw; go_simp; try with_reducible rfl)); (try simp only [Act.put, List.setIfInBounds_toArray, List.set_cons_zero, List.set_cons_succ]))
        (refine tk 11 (some 2) ?_ ?_ ?_; rotate_left; (focus (intro wS hSw; go_simp; try with_reducible rfl)); (try simp only [Act.put, List.setIfInBounds_toArray, List.set_cons_zero, List.set_cons_succ]))
        refine wpAnyH_done (by kernel_rfl) ?_ _
        clear ct0 ct1 ct2 ct3 ct4 zt lt
        replace HN := hid_now HN hHeld
        clear hHeld
        go_wp2_with fail
        go_ret
        exact ⟨rfl, HN.out⟩
      · go_simp
        go_at_call 93
        refine (show Calls _ _ _ _ _ from K2.out _).mono ?_
        rintro e z16 ⟨rfl, hp⟩
        have hn := Fp.trans hHeld hp (fun _ _ h => h.elim)
        replace B_t := hid_blk B_t hp
        replace B_gS := hid_blk B_gS hp
        refine k_now hK hn ?_
        clear hK K hp hHeld
        have hHeld := hn
        clear hn
        try simp only [Act.put, List.setIfInBounds_toArray, List.set_cons_zero, List.set_cons_succ]
        refine wpAnyH_ready (rs := [3]) (by kernel_rfl) (by simp) ?_
        refine AllReadyH.cons rfl (fun K hK => ?_) AllReadyH.nil
        have hcv := bytes1 z16 gS r hr (cell_at B_gS 0 rfl)
        rw [HX0.out] at hcv
        go_simp
        refine k_now hK hHeld ?_
        clear hK K hcv
        try simp only [Act.put, List.setIfInBounds_toArray, List.set_cons_zero, List.set_cons_succ]
        (refine tk 8 (some 12) ?_ ?_ ?_; rotate_left; (focus (intro wS hSw; go_simp; try with_reducible rfl)); (try simp only [Act.put, List.setIfInBounds_toArray, List.set_cons_zero, List.set_cons_succ]))
        (refine tk 13 (some 17) ?_ ?_ ?_; rotate_left; (focus (intro wS hSw; go_simp; try with_reducible rfl)); (try simp only [Act.put, List.setIfInBounds_toArray, List.set_cons_zero, List.set_cons_succ]))
        (refine tk 14 (some 3) ?_ ?_ ?_; rotate_left; (focus (intro wS hSw; go_simp; try with_reducible rfl)); (try simp only [Act.put, List.setIfInBounds_toArray, List.set_cons_zero, List.set_cons_succ]))
        refine wpAnyH_done (by kernel_rfl) ?_ _
        clear ct0 ct1 ct2 ct3 ct4 zt lt
        replace HN := hid_now HN hHeld
        clear hHeld
        have ct0 := cell_at B_t 0 rfl
        have ct1 := cell_at B_t 1 rfl
        have ct2 := cell_at B_t 2 rfl
        have ct3 := cell_at B_t 3 rfl
        have ct4 := cell_at B_t 4 rfl
        have zt := froz_at B_t
        have lt := hid_lt B_t
        go_upto_region 2 with fail
        refine wp_region_held_drew (S := fun wx => NoW z16 wx) (by kernel_rfl) (Fp.drew (Fp.refl _ _)) (fun hHeld0 => ?_)
        refine any_eq hHeld0 (fun y5w1 hW hHeld => ?_)
        clear hHeld0
        replace B_t := hid_blk B_t (noW_drew hW)
        clear hW
        (refine tk 0 (some 18) ?_ ?_ ?_; rotate_left; (focus (intro wS hSw; go_simp; try with_reducible rfl)); (try simp only [Act.put, List.setIfInBounds_toArray, List.set_cons_zero, List.set_cons_succ]))
        (refine tk 1 (some 19) ?_ ?_ ?_; rotate_left; (focus (intro wS hSw; go_simp; try with_reducible rfl)); (try simp only [Act.put, List.setIfInBounds_toArray, List.set_cons_zero, List.set_cons_succ]))
        (refine tk 2 (some 20) ?_ ?_ ?_; rotate_left; (focus (intro wS hSw; go_simp; try with_reducible rfl)); (try simp only [Act.put, List.setIfInBounds_toArray, List.set_cons_zero, List.set_cons_succ]))
        (refine tk 3 (some 21) ?_ ?_ ?_; rotate_left; (focus (intro wS hSw; (have q3 := (hSw.cell (p := ⟨t, 3, none⟩) lt id).trans ct3); go_simp; try with_reducible rfl)); (try simp only [Act.put, List.setIfInBounds_toArray, List.set_cons_zero, List.set_cons_succ]))
        (refine tk 6 (some 24) ?_ ?_ ?_; rotate_left; (focus (intro wS hSw; go_simp; try with_reducible rfl)); (try simp only [Act.put, List.setIfInBounds_toArray, List.set_cons_zero, List.set_cons_succ]))
        (refine tk 7 (some 25) ?_ ?_ ?_; rotate_left; (focus (intro wS hSw; go_simp; try with_reducible rfl)); (try simp only [Act.put, List.setIfInBounds_toArray, List.set_cons_zero, List.set_cons_succ]))
        (refine tk 8 (some 26) ?_ ?_ ?_; rotate_left; (focus (intro wS hSw; (have q4 := (hSw.cell (p := ⟨t, 4, none⟩) lt id).trans ct4); go_simp; try with_reducible rfl)); (try simp only [Act.put, List.setIfInBounds_toArray, List.set_cons_zero, List.set_cons_succ]))
        refine wpAnyH_ready (rs := [4]) (by kernel_rfl) (by simp) ?_
        refine AllReadyH.cons rfl (fun K hK => ?_) AllReadyH.nil
        go_simp
        go_at_call 92
        refine (show Calls _ _ _ _ _ from K3.out _).mono ?_
        rintro e y5w2 ⟨rfl, hp⟩
        have hn := Fp.trans hHeld hp (fun _ _ h => h.elim)
        replace B_t := hid_blk B_t hp
        refine k_now hK hn ?_
        clear hK K hp hHeld
        have hHeld := hn
        clear hn
        try simp only [Act.put, List.setIfInBounds_toArray, List.set_cons_zero, List.set_cons_succ]
        (refine tk 5 (some 23) ?_ ?_ ?_; rotate_left; (focus (intro wS hSw; go_simp; try with_reducible rfl)); (try simp only [Act.put, List.setIfInBounds_toArray, List.set_cons_zero, List.set_cons_succ]))
        refine wpAnyH_ready (rs := [9]) (by kernel_rfl) (by simp) ?_
        refine AllReadyH.cons rfl (fun K hK => ?_) AllReadyH.nil
        go_simp
        go_at_call 93
        refine (show Calls _ _ _ _ _ from K4.out _).mono ?_
        rintro e y5w3 ⟨rfl, hp⟩
        have hn := Fp.trans hHeld hp (fun _ _ h => h.elim)
        replace B_t := hid_blk B_t hp
        refine k_now hK hn ?_
        clear hK K hp hHeld
        have hHeld := hn
        clear hn
        try simp only [Act.put, List.setIfInBounds_toArray, List.set_cons_zero, List.set_cons_succ]
        (refine tk 10 (some 28) ?_ ?_ ?_; rotate_left; (focus (intro wS hSw; go_simp; try with_reducible rfl)); (try simp only [Act.put, List.setIfInBounds_toArray, List.set_cons_zero, List.set_cons_succ]))
        (refine tk 11 (some 2) ?_ ?_ ?_; rotate_left; (focus (intro wS hSw; go_simp; try with_reducible rfl)); (try simp only [Act.put, List.setIfInBounds_toArray, List.set_cons_zero, List.set_cons_succ]))
        refine wpAnyH_done (by kernel_rfl) ?_ _
        clear ct0 ct1 ct2 ct3 ct4 zt lt
        replace HN := hid_now HN hHeld
        clear hHeld
        go_wp2_with fail
        go_ret
        exact ⟨rfl, HN.out⟩
    · go_simp
      go_at_call 93
      refine (show Calls _ _ _ _ _ from K2.out _).mono ?_
      rintro e z18 ⟨rfl, hp⟩
      have hn := Fp.trans hHeld hp (fun _ _ h => h.elim)
      replace B_t := hid_blk B_t hp
      refine k_now hK hn ?_
      clear hK K hp hHeld
      have hHeld := hn
      clear hn
      try simp only [Act.put, List.setIfInBounds_toArray, List.set_cons_zero, List.set_cons_succ]
      refine wpAnyH_ready (rs := [2]) (by kernel_rfl) (by simp) ?_
      refine AllReadyH.cons rfl (fun K hK => ?_) AllReadyH.nil
      go_simp
      refine k_gen hK (fun z19 hW => ?_)
      have l2t := hid_lt B_t
      have hp := new_now hW
      have hB := new_blk hW
      have hGe := Fp.size hHeld
      clear hW
      refine ⟨Fp.trans hHeld hp (fun _ _ h => h.elim), ?_⟩
      replace hHeld := Fp.trans hHeld hp (fun _ _ h => h.elim)
      clear hK K
      try simp only [Act.put, List.setIfInBounds_toArray, List.set_cons_zero, List.set_cons_succ]
      obtain ⟨gS, hgS⟩ : ∃ gS, gS = z18.heap.size := ⟨_, rfl⟩
      have R_gS := Lib.hid (Nat.le_trans hGe (Nat.le_of_eq hgS.symm))
      have n_t_gS : ¬ t = gS := by omega
      have n_gS_t : ¬ gS = t := by omega
      clear l2t
      replace B_t := hid_blk B_t hp
      rw [← hgS] at hB ⊢
      have B_gS := hB
      clear hB hgS hp hGe
      refine wpAnyH_ready (rs := [3]) (by kernel_rfl) (by simp) ?_
      refine AllReadyH.cons rfl (fun K hK => ?_) AllReadyH.nil
      have hcv := bytes1 z19 gS r hr (cell_at B_gS 0 rfl)
      rw [HX0.out] at hcv
      go_simp
      refine k_now hK hHeld ?_
      clear hK K hcv
      try simp only [Act.put, List.setIfInBounds_toArray, List.set_cons_zero, List.set_cons_succ]
      (refine tk 8 (some 12) ?_ ?_ ?_; rotate_left; (focus (intro wS hSw; go_simp; try with_reducible rfl)); (try simp only [Act.put, List.setIfInBounds_toArray, List.set_cons_zero, List.set_cons_succ]))
      (refine tk 13 (some 17) ?_ ?_ ?_; rotate_left; (focus (intro wS hSw; go_simp; try with_reducible rfl)); (try simp only [Act.put, List.setIfInBounds_toArray, List.set_cons_zero, List.set_cons_succ]))
      (refine tk 14 (some 3) ?_ ?_ ?_; rotate_left; (focus (intro wS hSw; go_simp; try with_reducible rfl)); (try simp only [Act.put, List.setIfInBounds_toArray, List.set_cons_zero, List.set_cons_succ]))
      refine wpAnyH_done (by kernel_rfl) ?_ _
      clear ct0 ct1 ct2 ct3 ct4 zt lt
      replace HN := hid_now HN hHeld
      clear hHeld
      have ct0 := cell_at B_t 0 rfl
      have ct1 := cell_at B_t 1 rfl
      have ct2 := cell_at B_t 2 rfl
      have ct3 := cell_at B_t 3 rfl
      have ct4 := cell_at B_t 4 rfl
      have zt := froz_at B_t
      have lt := hid_lt B_t
      go_upto_region 2 with fail
      refine wp_region_held_drew (S := fun wx => NoW z19 wx) (by kernel_rfl) (Fp.drew (Fp.refl _ _)) (fun hHeld0 => ?_)
      refine any_eq hHeld0 (fun y6w1 hW hHeld => ?_)
      clear hHeld0
      replace B_t := hid_blk B_t (noW_drew hW)
      clear hW
      (refine tk 0 (some 18) ?_ ?_ ?_; rotate_left; (focus (intro wS hSw; go_simp; try with_reducible rfl)); (try simp only [Act.put, List.setIfInBounds_toArray, List.set_cons_zero, List.set_cons_succ]))
      (refine tk 1 (some 19) ?_ ?_ ?_; rotate_left; (focus (intro wS hSw; go_simp; try with_reducible rfl)); (try simp only [Act.put, List.setIfInBounds_toArray, List.set_cons_zero, List.set_cons_succ]))
      (refine tk 2 (some 20) ?_ ?_ ?_; rotate_left; (focus (intro wS hSw; go_simp; try with_reducible rfl)); (try simp only [Act.put, List.setIfInBounds_toArray, List.set_cons_zero, List.set_cons_succ]))
      (refine tk 3 (some 21) ?_ ?_ ?_; rotate_left; (focus (intro wS hSw; (have q3 := (hSw.cell (p := ⟨t, 3, none⟩) lt id).trans ct3); go_simp; try with_reducible rfl)); (try simp only [Act.put, List.setIfInBounds_toArray, List.set_cons_zero, List.set_cons_succ]))
      (refine tk 6 (some 24) ?_ ?_ ?_; rotate_left; (focus (intro wS hSw; go_simp; try with_reducible rfl)); (try simp only [Act.put, List.setIfInBounds_toArray, List.set_cons_zero, List.set_cons_succ]))
      (refine tk 7 (some 25) ?_ ?_ ?_; rotate_left; (focus (intro wS hSw; go_simp; try with_reducible rfl)); (try simp only [Act.put, List.setIfInBounds_toArray, List.set_cons_zero, List.set_cons_succ]))
      (refine tk 8 (some 26) ?_ ?_ ?_; rotate_left; (focus (intro wS hSw; (have q4 := (hSw.cell (p := ⟨t, 4, none⟩) lt id).trans ct4); go_simp; try with_reducible rfl)); (try simp only [Act.put, List.setIfInBounds_toArray, List.set_cons_zero, List.set_cons_succ]))
      refine wpAnyH_ready (rs := [4]) (by kernel_rfl) (by simp) ?_
      refine AllReadyH.cons rfl (fun K hK => ?_) AllReadyH.nil
      go_simp
      go_at_call 92
      refine (show Calls _ _ _ _ _ from K3.out _).mono ?_
      rintro e y6w2 ⟨rfl, hp⟩
      have hn := Fp.trans hHeld hp (fun _ _ h => h.elim)
      replace B_t := hid_blk B_t hp
      refine k_now hK hn ?_
      clear hK K hp hHeld
      have hHeld := hn
      clear hn
      try simp only [Act.put, List.setIfInBounds_toArray, List.set_cons_zero, List.set_cons_succ]
      (refine tk 5 (some 23) ?_ ?_ ?_; rotate_left; (focus (intro wS hSw; go_simp; try with_reducible rfl)); (try simp only [Act.put, List.setIfInBounds_toArray, List.set_cons_zero, List.set_cons_succ]))
      refine wpAnyH_ready (rs := [9]) (by kernel_rfl) (by simp) ?_
      refine AllReadyH.cons rfl (fun K hK => ?_) AllReadyH.nil
      go_simp
      go_at_call 93
      refine (show Calls _ _ _ _ _ from K4.out _).mono ?_
      rintro e y6w3 ⟨rfl, hp⟩
      have hn := Fp.trans hHeld hp (fun _ _ h => h.elim)
      replace B_t := hid_blk B_t hp
      refine k_now hK hn ?_
      clear hK K hp hHeld
      have hHeld := hn
      clear hn
      try simp only [Act.put, List.setIfInBounds_toArray, List.set_cons_zero, List.set_cons_succ]
      (refine tk 10 (some 28) ?_ ?_ ?_; rotate_left; (focus (intro wS hSw; go_simp; try with_reducible rfl)); (try simp only [Act.put, List.setIfInBounds_toArray, List.set_cons_zero, List.set_cons_succ]))
      (refine tk 11 (some 2) ?_ ?_ ?_; rotate_left; (focus (intro wS hSw; go_simp; try with_reducible rfl)); (try simp only [Act.put, List.setIfInBounds_toArray, List.set_cons_zero, List.set_cons_succ]))
      refine wpAnyH_done (by kernel_rfl) ?_ _
      clear ct0 ct1 ct2 ct3 ct4 zt lt
      replace HN := hid_now HN hHeld
      clear hHeld
      go_wp2_with fail
      go_ret
      exact ⟨rfl, HN.out⟩
end Go.Proofs.YtcimbbllefkdlaaGreatDoor
