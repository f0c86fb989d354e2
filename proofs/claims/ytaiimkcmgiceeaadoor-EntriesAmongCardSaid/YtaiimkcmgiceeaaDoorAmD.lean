/- Chapter 18, EntriesAmong: the document's may, Match, both Clash (written by genamd.py). -/
import Derived.Test.YtaiimkcmgiceeaaDoorAmB
import Derived.Test.YtaiimkcmgiceeaaDoorEtB
namespace Go.Proofs.YtaiimkcmgiceeaaDoor
set_option linter.unusedVariables false
set_option linter.unusedSimpArgs false
open Go.RowKit Go.Lib Go.Sort
set_option maxHeartbeats 2000000 in
theorem rearly_ok (f : Nat) (hf : f < 4) (s : Int) (w : World) : Calls Tryd.prog 47 #[.int .i64 f, .int .i64 s] w fun e w' => e = .returned (.bool (earlyB f s)) ∧ w' = w := by
  have k := fun W => rtimeout_ok f hf s W
  unfold earlyB
  generalize toN f s = T at k ⊢
  have K := Lib.hid k
  clear k
  by_cases hm : 0 < T
  · rw [decide_eq_true hm, Bool.true_and]
    have d0 : decide ((0 : Int) < T) = true := decide_eq_true hm
    clear hm
    by_cases h3 : f = 3
    · rw [if_pos h3]
      by_cases hs : s = 3
      · rw [show decide (s ≠ 3) = false by simp [hs]]
        have e3 : ((f : Int) == 3) = true := by rw [h3]; rfl
        have e3' : ((f : Int) != 3) = false := by rw [h3]; rfl
        have s3 : (s == 3) = true := beq_iff_eq.2 hs
        have s3' : (s != 3) = false := by simp only [bne, s3]; rfl
        clear h3 hs
        go_enter Tryd.func47, Tryd.ntmps47
        go_wp2_with fail
        refine (K.out _).mono ?_
        rintro e w' ⟨rfl, rfl⟩
        go_wp2_with fail
        go_ret
        exact ⟨rfl, rfl⟩
      · rw [show decide (s ≠ 3) = true by simp [hs]]
        have e3 : ((f : Int) == 3) = true := by rw [h3]; rfl
        have e3' : ((f : Int) != 3) = false := by rw [h3]; rfl
        have s3 : (s == 3) = false := beq_eq_false_iff_ne.2 hs
        have s3' : (s != 3) = true := by simp only [bne, s3]; rfl
        clear h3 hs
        go_enter Tryd.func47, Tryd.ntmps47
        go_wp2_with fail
        refine (K.out _).mono ?_
        rintro e w' ⟨rfl, rfl⟩
        go_wp2_with fail
        go_ret
        exact ⟨rfl, rfl⟩
    · rw [if_neg h3]
      by_cases hs : s = 1
      · rw [show decide (s = 1) = true by simp [hs]]
        have e3 : ((f : Int) == 3) = false := beq_eq_false_iff_ne.2 (by omega)
        have e3' : ((f : Int) != 3) = true := by simp only [bne, e3]; rfl
        have s3 : (s == 1) = true := beq_iff_eq.2 hs
        clear h3 hs
        go_enter Tryd.func47, Tryd.ntmps47
        go_wp2_with fail
        refine (K.out _).mono ?_
        rintro e w' ⟨rfl, rfl⟩
        go_wp2_with fail
        go_ret
        exact ⟨rfl, rfl⟩
      · rw [show decide (s = 1) = false by simp [hs]]
        have e3 : ((f : Int) == 3) = false := beq_eq_false_iff_ne.2 (by omega)
        have e3' : ((f : Int) != 3) = true := by simp only [bne, e3]; rfl
        have s3 : (s == 1) = false := beq_eq_false_iff_ne.2 hs
        clear h3 hs
        go_enter Tryd.func47, Tryd.ntmps47
        go_wp2_with fail
        refine (K.out _).mono ?_
        rintro e w' ⟨rfl, rfl⟩
        go_wp2_with fail
        go_ret
        exact ⟨rfl, rfl⟩
  · rw [decide_eq_false hm, Bool.false_and]
    have d0 : decide ((0 : Int) < T) = false := decide_eq_false hm
    clear hm
    go_enter Tryd.func47, Tryd.ntmps47
    go_wp2_with fail
    refine (K.out _).mono ?_
    rintro e w' ⟨rfl, rfl⟩
    go_wp2_with fail
    go_ret
    exact ⟨rfl, rfl⟩
set_option maxHeartbeats 2000000 in
theorem rmay_ok (x : EntD) (now : Int) (w : World) : Calls Tryd.prog 29 #[.agg x.cs.toArray, .int .i64 now] w (Ret1 (.bool (x.may now)) w) := by
  have K1 := Lib.hid (fun W => rlive_ok x.r x.a x.p x.b x.q x.r2 x.a2 x.p2 x.b2 x.q2 x.st x.dl (.slice x.ad x.n x.c) now W)
  have K2 := Lib.hid (fun W => rflow_ok x.r W)
  have K3 := Lib.hid (fun W => rearly_ok (flowN x.r) (flowN_lt x.r) x.st W)
  unfold EntD.may EntD.cs
  generalize hl : decide (now < x.dl) = lv at K1
  clear hl
  generalize earlyB (flowN x.r) x.st = ev at K3 ⊢
  cases lv with
  | true =>
    rw [Bool.true_and]
    go_enter Tryd.func29, Tryd.ntmps29
    have HN := Lib.hid (Fp.refl (fun _ => False) w)
    go_upto_region 1 with fail
    refine wp_gen (fun x1 hW => ?_)
    have hp := new_now hW
    have hB := new_blk hW
    clear hW
    have hGe := hid_ge HN
    replace HN := hid_now HN hp
    obtain ⟨g, hg⟩ : ∃ g, g = w.heap.size := ⟨_, rfl⟩
    have G_g := Lib.hid (Nat.le_trans hGe (Nat.le_of_eq hg.symm))
    rw [← hg] at hB ⊢
    have B_g := hB
    clear hB hGe hg
    clear hp
    have cg0 := cell_at B_g 0 rfl
    have cg1 := cell_at B_g 1 rfl
    have cg2 := cell_at B_g 2 rfl
    have cg3 := cell_at B_g 3 rfl
    have cg4 := cell_at B_g 4 rfl
    have cg5 := cell_at B_g 5 rfl
    have cg6 := cell_at B_g 6 rfl
    have cg7 := cell_at B_g 7 rfl
    have cg8 := cell_at B_g 8 rfl
    have cg9 := cell_at B_g 9 rfl
    have cg10 := cell_at B_g 10 rfl
    have cg11 := cell_at B_g 11 rfl
    have cg12 := cell_at B_g 12 rfl
    have zg := froz_at B_g
    have lg := hid_lt B_g
    refine wp_region_held_drew (S := fun wx => NoW x1 wx) (by kernel_rfl) (Fp.drew (Fp.refl _ _)) (fun hHeld0 => ?_)
    refine any_eq hHeld0 (fun x2 hW hHeld => ?_)
    clear hHeld0
    replace B_g := hid_blk B_g (noW_drew hW)
    clear hW
    (refine take_at 0 (some 5) rfl rfl (by kernel_rfl) (by kernel_rfl) (by kernel_rfl) (fun _ _ _ h => h) (v := ?_) (by kernel_rfl) ?_ (by assumption) ?_; rotate_left; (focus (intro wS hSw; (have q0 := (hSw.cell (p := ⟨g, 0, none⟩) lg id).trans cg0); (have q1 := (hSw.cell (p := ⟨g, 1, none⟩) lg id).trans cg1); (have q2 := (hSw.cell (p := ⟨g, 2, none⟩) lg id).trans cg2); (have q3 := (hSw.cell (p := ⟨g, 3, none⟩) lg id).trans cg3); (have q4 := (hSw.cell (p := ⟨g, 4, none⟩) lg id).trans cg4); (have q5 := (hSw.cell (p := ⟨g, 5, none⟩) lg id).trans cg5); (have q6 := (hSw.cell (p := ⟨g, 6, none⟩) lg id).trans cg6); (have q7 := (hSw.cell (p := ⟨g, 7, none⟩) lg id).trans cg7); (have q8 := (hSw.cell (p := ⟨g, 8, none⟩) lg id).trans cg8); (have q9 := (hSw.cell (p := ⟨g, 9, none⟩) lg id).trans cg9); (have q10 := (hSw.cell (p := ⟨g, 10, none⟩) lg id).trans cg10); (have q11 := (hSw.cell (p := ⟨g, 11, none⟩) lg id).trans cg11); (have q12 := (hSw.cell (p := ⟨g, 12, none⟩) lg id).trans cg12); go_simp; try with_reducible rfl)); (try simp only [Act.put, List.setIfInBounds_toArray, List.set_cons_zero, List.set_cons_succ]))
    (refine take_at 1 (some 6) rfl rfl (by kernel_rfl) (by kernel_rfl) (by kernel_rfl) (fun _ _ _ h => h) (v := ?_) (by kernel_rfl) ?_ (by assumption) ?_; rotate_left; (focus (intro wS hSw; skip; go_simp; try with_reducible rfl)); (try simp only [Act.put, List.setIfInBounds_toArray, List.set_cons_zero, List.set_cons_succ]))
    refine wpAnyH_ready (rs := [2]) (by kernel_rfl) (by simp) ?_
    refine AllReadyH.cons rfl (fun K hK => ?_) AllReadyH.nil
    go_simp
    go_at_call 33
    refine (show Calls _ _ _ _ _ from K1.out _).mono ?_
    rintro e x3 ⟨rfl, hp⟩
    have hn := Fp.trans hHeld hp (fun _ _ h => h.elim)
    replace B_g := hid_blk B_g hp
    refine k_now hK hn ?_
    clear hK K hp hHeld
    have hHeld := hn
    clear hn
    try simp only [Act.put, List.setIfInBounds_toArray, List.set_cons_zero, List.set_cons_succ]
    (refine take_at 3 (some 8) rfl rfl (by kernel_rfl) (by kernel_rfl) (by kernel_rfl) (fun _ _ _ h => h) (v := ?_) (by kernel_rfl) ?_ (by assumption) ?_; rotate_left; (focus (intro wS hSw; skip; go_simp; try with_reducible rfl)); (try simp only [Act.put, List.setIfInBounds_toArray, List.set_cons_zero, List.set_cons_succ]))
    (refine take_at 4 (some 9) rfl rfl (by kernel_rfl) (by kernel_rfl) (by kernel_rfl) (fun _ _ _ h => h) (v := ?_) (by kernel_rfl) ?_ (by assumption) ?_; rotate_left; (focus (intro wS hSw; skip; go_simp; try with_reducible rfl)); (try simp only [Act.put, List.setIfInBounds_toArray, List.set_cons_zero, List.set_cons_succ]))
    (refine take_at 5 (some 10) rfl rfl (by kernel_rfl) (by kernel_rfl) (by kernel_rfl) (fun _ _ _ h => h) (v := ?_) (by kernel_rfl) ?_ (by assumption) ?_; rotate_left; (focus (intro wS hSw; skip; go_simp; try with_reducible rfl)); (try simp only [Act.put, List.setIfInBounds_toArray, List.set_cons_zero, List.set_cons_succ]))
    (refine take_at 6 (some 11) rfl rfl (by kernel_rfl) (by kernel_rfl) (by kernel_rfl) (fun _ _ _ h => h) (v := ?_) (by kernel_rfl) ?_ (by assumption) ?_; rotate_left; (focus (intro wS hSw; (have q0 := (hSw.cell (p := ⟨g, 0, none⟩) lg id).trans cg0); go_simp; try with_reducible rfl)); (try simp only [Act.put, List.setIfInBounds_toArray, List.set_cons_zero, List.set_cons_succ]))
    (refine take_at 8 (some 13) rfl rfl (by kernel_rfl) (by kernel_rfl) (by kernel_rfl) (fun _ _ _ h => h) (v := ?_) (by kernel_rfl) ?_ (by assumption) ?_; rotate_left; (focus (intro wS hSw; skip; go_simp; try with_reducible rfl)); (try simp only [Act.put, List.setIfInBounds_toArray, List.set_cons_zero, List.set_cons_succ]))
    (refine take_at 9 (some 14) rfl rfl (by kernel_rfl) (by kernel_rfl) (by kernel_rfl) (fun _ _ _ h => h) (v := ?_) (by kernel_rfl) ?_ (by assumption) ?_; rotate_left; (focus (intro wS hSw; (have q10 := (hSw.cell (p := ⟨g, 10, none⟩) lg id).trans cg10); go_simp; try with_reducible rfl)); (try simp only [Act.put, List.setIfInBounds_toArray, List.set_cons_zero, List.set_cons_succ]))
    refine wpAnyH_ready (rs := [7]) (by kernel_rfl) (by simp) ?_
    refine AllReadyH.cons rfl (fun K hK => ?_) AllReadyH.nil
    go_simp
    go_at_call 48
    refine (show Calls _ _ _ _ _ from K2.out _).mono ?_
    rintro e x4 ⟨rfl, rfl⟩
    refine k_now hK hHeld ?_
    clear hK K
    try simp only [Act.put, List.setIfInBounds_toArray, List.set_cons_zero, List.set_cons_succ]
    refine wpAnyH_ready (rs := [10]) (by kernel_rfl) (by simp) ?_
    refine AllReadyH.cons rfl (fun K hK => ?_) AllReadyH.nil
    go_simp
    go_at_call 47
    refine (show Calls _ _ _ _ _ from K3.out _).mono ?_
    rintro e x5 ⟨rfl, rfl⟩
    refine k_now hK hHeld ?_
    clear hK K
    try simp only [Act.put, List.setIfInBounds_toArray, List.set_cons_zero, List.set_cons_succ]
    (refine take_at 11 (some 16) rfl rfl (by kernel_rfl) (by kernel_rfl) (by kernel_rfl) (fun _ _ _ h => h) (v := ?_) (by kernel_rfl) ?_ (by assumption) ?_; rotate_left; (focus (intro wS hSw; skip; go_simp; try with_reducible rfl)); (try simp only [Act.put, List.setIfInBounds_toArray, List.set_cons_zero, List.set_cons_succ]))
    (refine take_at 12 (some 4) rfl rfl (by kernel_rfl) (by kernel_rfl) (by kernel_rfl) (fun _ _ _ h => h) (v := ?_) (by kernel_rfl) ?_ (by assumption) ?_; rotate_left; (focus (intro wS hSw; skip; go_simp; try with_reducible rfl)); (try simp only [Act.put, List.setIfInBounds_toArray, List.set_cons_zero, List.set_cons_succ]))
    refine wpAnyH_done (by kernel_rfl) ?_ _
    clear cg0 cg1 cg2 cg3 cg4 cg5 cg6 cg7 cg8 cg9 cg10 cg11 cg12 zg lg
    have hGe := hid_ge HN
    replace HN := hid_now HN hHeld
    clear hHeld hGe
    go_wp2_with fail
    go_ret
    exact ⟨rfl, HN.out⟩
  | false =>
    rw [Bool.false_and]
    go_enter Tryd.func29, Tryd.ntmps29
    have HN := Lib.hid (Fp.refl (fun _ => False) w)
    go_upto_region 1 with fail
    refine wp_gen (fun x1 hW => ?_)
    have hp := new_now hW
    have hB := new_blk hW
    clear hW
    have hGe := hid_ge HN
    replace HN := hid_now HN hp
    obtain ⟨g, hg⟩ : ∃ g, g = w.heap.size := ⟨_, rfl⟩
    have G_g := Lib.hid (Nat.le_trans hGe (Nat.le_of_eq hg.symm))
    rw [← hg] at hB ⊢
    have B_g := hB
    clear hB hGe hg
    clear hp
    have cg0 := cell_at B_g 0 rfl
    have cg1 := cell_at B_g 1 rfl
    have cg2 := cell_at B_g 2 rfl
    have cg3 := cell_at B_g 3 rfl
    have cg4 := cell_at B_g 4 rfl
    have cg5 := cell_at B_g 5 rfl
    have cg6 := cell_at B_g 6 rfl
    have cg7 := cell_at B_g 7 rfl
    have cg8 := cell_at B_g 8 rfl
    have cg9 := cell_at B_g 9 rfl
    have cg10 := cell_at B_g 10 rfl
    have cg11 := cell_at B_g 11 rfl
    have cg12 := cell_at B_g 12 rfl
    have zg := froz_at B_g
    have lg := hid_lt B_g
    refine wp_region_held_drew (S := fun wx => NoW x1 wx) (by kernel_rfl) (Fp.drew (Fp.refl _ _)) (fun hHeld0 => ?_)
    refine any_eq hHeld0 (fun x2 hW hHeld => ?_)
    clear hHeld0
    replace B_g := hid_blk B_g (noW_drew hW)
    clear hW
    (refine take_at 0 (some 5) rfl rfl (by kernel_rfl) (by kernel_rfl) (by kernel_rfl) (fun _ _ _ h => h) (v := ?_) (by kernel_rfl) ?_ (by assumption) ?_; rotate_left; (focus (intro wS hSw; (have q0 := (hSw.cell (p := ⟨g, 0, none⟩) lg id).trans cg0); (have q1 := (hSw.cell (p := ⟨g, 1, none⟩) lg id).trans cg1); (have q2 := (hSw.cell (p := ⟨g, 2, none⟩) lg id).trans cg2); (have q3 := (hSw.cell (p := ⟨g, 3, none⟩) lg id).trans cg3); (have q4 := (hSw.cell (p := ⟨g, 4, none⟩) lg id).trans cg4); (have q5 := (hSw.cell (p := ⟨g, 5, none⟩) lg id).trans cg5); (have q6 := (hSw.cell (p := ⟨g, 6, none⟩) lg id).trans cg6); (have q7 := (hSw.cell (p := ⟨g, 7, none⟩) lg id).trans cg7); (have q8 := (hSw.cell (p := ⟨g, 8, none⟩) lg id).trans cg8); (have q9 := (hSw.cell (p := ⟨g, 9, none⟩) lg id).trans cg9); (have q10 := (hSw.cell (p := ⟨g, 10, none⟩) lg id).trans cg10); (have q11 := (hSw.cell (p := ⟨g, 11, none⟩) lg id).trans cg11); (have q12 := (hSw.cell (p := ⟨g, 12, none⟩) lg id).trans cg12); go_simp; try with_reducible rfl)); (try simp only [Act.put, List.setIfInBounds_toArray, List.set_cons_zero, List.set_cons_succ]))
    (refine take_at 1 (some 6) rfl rfl (by kernel_rfl) (by kernel_rfl) (by kernel_rfl) (fun _ _ _ h => h) (v := ?_) (by kernel_rfl) ?_ (by assumption) ?_; rotate_left; (focus (intro wS hSw; skip; go_simp; try with_reducible rfl)); (try simp only [Act.put, List.setIfInBounds_toArray, List.set_cons_zero, List.set_cons_succ]))
    refine wpAnyH_ready (rs := [2]) (by kernel_rfl) (by simp) ?_
    refine AllReadyH.cons rfl (fun K hK => ?_) AllReadyH.nil
    go_simp
    go_at_call 33
    refine (show Calls _ _ _ _ _ from K1.out _).mono ?_
    rintro e x3 ⟨rfl, hp⟩
    have hn := Fp.trans hHeld hp (fun _ _ h => h.elim)
    replace B_g := hid_blk B_g hp
    refine k_now hK hn ?_
    clear hK K hp hHeld
    have hHeld := hn
    clear hn
    try simp only [Act.put, List.setIfInBounds_toArray, List.set_cons_zero, List.set_cons_succ]
    (refine take_at 3 (some 8) rfl rfl (by kernel_rfl) (by kernel_rfl) (by kernel_rfl) (fun _ _ _ h => h) (v := ?_) (by kernel_rfl) ?_ (by assumption) ?_; rotate_left; (focus (intro wS hSw; skip; go_simp; try with_reducible rfl)); (try simp only [Act.put, List.setIfInBounds_toArray, List.set_cons_zero, List.set_cons_succ]))
    (refine drop_at 4 (some 9) rfl rfl (by kernel_rfl) (by kernel_rfl) (by kernel_rfl) (fun _ _ _ h => h) (by kernel_rfl) (by assumption) ?_; (try simp only [Act.put, List.setIfInBounds_toArray, List.set_cons_zero, List.set_cons_succ]))
    (refine drop_at 5 (some 10) rfl rfl (by kernel_rfl) (by kernel_rfl) (by kernel_rfl) (fun _ _ _ h => h) (by kernel_rfl) (by assumption) ?_; (try simp only [Act.put, List.setIfInBounds_toArray, List.set_cons_zero, List.set_cons_succ]))
    (refine drop_at 6 (some 11) rfl rfl (by kernel_rfl) (by kernel_rfl) (by kernel_rfl) (fun _ _ _ h => h) (by kernel_rfl) (by assumption) ?_; (try simp only [Act.put, List.setIfInBounds_toArray, List.set_cons_zero, List.set_cons_succ]))
    (refine drop_at 7 (some 12) rfl rfl (by kernel_rfl) (by kernel_rfl) (by kernel_rfl) (fun _ _ _ h => h) (by kernel_rfl) (by assumption) ?_; (try simp only [Act.put, List.setIfInBounds_toArray, List.set_cons_zero, List.set_cons_succ]))
    (refine drop_at 8 (some 13) rfl rfl (by kernel_rfl) (by kernel_rfl) (by kernel_rfl) (fun _ _ _ h => h) (by kernel_rfl) (by assumption) ?_; (try simp only [Act.put, List.setIfInBounds_toArray, List.set_cons_zero, List.set_cons_succ]))
    (refine drop_at 9 (some 14) rfl rfl (by kernel_rfl) (by kernel_rfl) (by kernel_rfl) (fun _ _ _ h => h) (by kernel_rfl) (by assumption) ?_; (try simp only [Act.put, List.setIfInBounds_toArray, List.set_cons_zero, List.set_cons_succ]))
    (refine drop_at 10 (some 15) rfl rfl (by kernel_rfl) (by kernel_rfl) (by kernel_rfl) (fun _ _ _ h => h) (by kernel_rfl) (by assumption) ?_; (try simp only [Act.put, List.setIfInBounds_toArray, List.set_cons_zero, List.set_cons_succ]))
    (refine take_at 11 (some 16) rfl rfl (by kernel_rfl) (by kernel_rfl) (by kernel_rfl) (fun _ _ _ h => h) (v := ?_) (by kernel_rfl) ?_ (by assumption) ?_; rotate_left; (focus (intro wS hSw; skip; go_simp; try with_reducible rfl)); (try simp only [Act.put, List.setIfInBounds_toArray, List.set_cons_zero, List.set_cons_succ]))
    (refine take_at 12 (some 4) rfl rfl (by kernel_rfl) (by kernel_rfl) (by kernel_rfl) (fun _ _ _ h => h) (v := ?_) (by kernel_rfl) ?_ (by assumption) ?_; rotate_left; (focus (intro wS hSw; skip; go_simp; try with_reducible rfl)); (try simp only [Act.put, List.setIfInBounds_toArray, List.set_cons_zero, List.set_cons_succ]))
    refine wpAnyH_done (by kernel_rfl) ?_ _
    clear cg0 cg1 cg2 cg3 cg4 cg5 cg6 cg7 cg8 cg9 cg10 cg11 cg12 zg lg
    have hGe := hid_ge HN
    replace HN := hid_now HN hHeld
    clear hHeld hGe
    go_wp2_with fail
    go_ret
    exact ⟨rfl, HN.out⟩
set_option maxHeartbeats 2000000 in
theorem ematch_ok (r a p b q r2 a2 p2 b2 q2 r3 a3 p3 b3 q3 : Nat) (st dl : Int) (h : Value) (w : World) :
    Calls Tryd.prog 31 #[.agg #[.int .u8 (r : Nat), .int .u32 (a : Nat), .int .u16 (p : Nat), .int .u32 (b : Nat), .int .u16 (q : Nat), .int .u8 (r2 : Nat), .int .u32 (a2 : Nat), .int .u16 (p2 : Nat), .int .u32 (b2 : Nat), .int .u16 (q2 : Nat), .int .i64 st, .int .i64 dl, h], .agg #[.int .u8 (r3 : Nat), .int .u32 (a3 : Nat), .int .u16 (p3 : Nat), .int .u32 (b3 : Nat), .int .u16 (q3 : Nat)]] w (Ret1 (.tuple #[.bool (!decide (r3 = r ∧ a3 = a ∧ p3 = p ∧ b3 = b ∧ q3 = q) && decide (r3 = r2 ∧ a3 = a2 ∧ p3 = p2 ∧ b3 = b2 ∧ q3 = q2)), .bool (decide (r3 = r ∧ a3 = a ∧ p3 = p ∧ b3 = b ∧ q3 = q) || decide (r3 = r2 ∧ a3 = a2 ∧ p3 = p2 ∧ b3 = b2 ∧ q3 = q2))]) w) := by
  have e1 := fun W => tup_eq2 r3 a3 p3 b3 q3 r a p b q W
  have e2 := fun W => tup_eq2 r3 a3 p3 b3 q3 r2 a2 p2 b2 q2 W
  generalize decide (r3 = r ∧ a3 = a ∧ p3 = p ∧ b3 = b ∧ q3 = q) = x at e1 ⊢
  generalize decide (r3 = r2 ∧ a3 = a2 ∧ p3 = p2 ∧ b3 = b2 ∧ q3 = q2) = y at e2 ⊢
  cases x <;> cases y
  · go_enter Tryd.func31, Tryd.ntmps31
    go_wp2_with fail
    refine bodyPost_ret (v := .tuple #[.bool false, .bool false]) (by simp [results, Tryd.results31, go_sem]) rfl ⟨rfl, ((Fp.refl _ _).alloc _).alloc _⟩
  · go_enter Tryd.func31, Tryd.ntmps31
    go_wp2_with fail
    refine bodyPost_ret (v := .tuple #[.bool true, .bool true]) (by simp [results, Tryd.results31, go_sem]) rfl ⟨rfl, ((Fp.refl _ _).alloc _).alloc _⟩
  · go_enter Tryd.func31, Tryd.ntmps31
    go_wp2_with fail
    refine bodyPost_ret (v := .tuple #[.bool false, .bool true]) (by simp [results, Tryd.results31, go_sem]) rfl ⟨rfl, ((Fp.refl _ _).alloc _).alloc _⟩
  · go_enter Tryd.func31, Tryd.ntmps31
    go_wp2_with fail
    refine bodyPost_ret (v := .tuple #[.bool false, .bool true]) (by simp [results, Tryd.results31, go_sem]) rfl ⟨rfl, ((Fp.refl _ _).alloc _).alloc _⟩
end Go.Proofs.YtaiimkcmgiceeaaDoor
