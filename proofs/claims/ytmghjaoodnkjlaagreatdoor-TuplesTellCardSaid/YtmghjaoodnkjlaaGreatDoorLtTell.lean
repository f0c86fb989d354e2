/- Chapter 08: TuplesTell (written by gen8y.py). -/
import Derived.Test.YtmghjaoodnkjlaaGreatDoorTq
import Derived.Test.YtmghjaoodnkjlaaGreatDoorTw
import Derived.Test.YtmghjaoodnkjlaaGreatDoorTk
import Derived.Test.YtmghjaoodnkjlaaGreatDoorSees
import Derived.Laws.StructEq
namespace Go.Proofs.YtmghjaoodnkjlaaGreatDoor
set_option linter.unusedVariables false
set_option linter.unusedSimpArgs false
open Go.RowKit Go.Lib Go.Sort
theorem tupRV_form (o : Option (Nat × Nat × Nat × Nat × Nat)) : ∃ k a p b q e : Int, tupRV o = .tuple #[.agg #[.int .u8 k, .int .u32 a, .int .u16 p, .int .u32 b, .int .u16 q], .int .i64 e] := by
  rcases o with _ | ⟨k, a, p, b, q⟩ <;> exact ⟨_, _, _, _, _, _, rfl⟩
set_option maxHeartbeats 8000000 in
set_option maxRecDepth 100000 in
theorem walk_TuplesTell (w : World) (ht : TbQ w) (v0 v1 v2 : Value) (g0 : Good Tryz.prog w 29 v0) (g1 : Good Tryz.prog w 29 v1) (g2 : Good Tryz.prog w 9 v2) : Calls Tryz.prog 6 #[v0, v1, v2] w (Ret1 (.bool true) w) := by
  obtain ⟨cs, n, rfl, h⟩ := good_struct (v := v0) Tryz.underlying29 g0
  obtain ⟨k, a, p, b, q, hc, hk, ha, hp, hb, hq⟩ := tup_sees h
  obtain rfl : cs = #[.int .u8 (k : Nat), .int .u32 (a : Nat), .int .u16 (p : Nat), .int .u32 (b : Nat), .int .u16 (q : Nat)] := by rw [← Array.toList_inj, hc]
  clear h hc g0
  obtain ⟨cs2, n2, rfl, h2⟩ := good_struct (v := v1) Tryz.underlying29 g1
  obtain ⟨k2, a2, p2, b2, q2, hc2, hk2, ha2, hp2, hb2, hq2⟩ := tup_sees h2
  obtain rfl : cs2 = #[.int .u8 (k2 : Nat), .int .u32 (a2 : Nat), .int .u16 (p2 : Nat), .int .u32 (b2 : Nat), .int .u16 (q2 : Nat)] := by rw [← Array.toList_inj, hc2]
  clear h2 hc2 g1
  obtain ⟨s, rfl, _⟩ := good_string Tryz.underlying9 g2
  obtain ⟨l, rfl, hs⟩ := str_of s
  clear g2 hs
  by_cases hl : l.length ≤ 200
  · skip
    have d0 : decide ((200 : Int) < (l.length : Int)) = false := decide_eq_false (by omega)
    obtain ⟨z0, z1, z2, z3, z4, ze, hz⟩ := tupRV_form (tupOf l)
    have KP := Lib.hid (fun W hW => tup_parse l (by omega) W hW)
    have KR := Lib.hid (fun W => rtup_parse l (by omega) W)
    rw [hz] at KP KR
    have KB := Lib.hid (fun W => back_ok k a p b q W)
    have KC := Lib.hid (fun W => rback_ok k a p b q W)
    have KM := Lib.hid (fun W hW => tup_ok k a p b q hk W hW)
    have KN := Lib.hid (fun W => rmay8_ok k a p b q W)
    have KL := Lib.hid (fun W => tless_ok k a p b q k2 a2 p2 b2 q2 ha hp hb hq ha2 hp2 hb2 hq2 W)
    have KS := Lib.hid (fun W => rless8_ok k a p b q k2 a2 p2 b2 q2 ha hp hb hq ha2 hp2 hb2 hq2 W)
    have KL2 := Lib.hid (fun W => tless_ok k a p b q k a p b q ha hp hb hq ha hp hb hq W)
    have KS2 := Lib.hid (fun W => rless8_ok k a p b q k a p b q ha hp hb hq ha hp hb hq W)
    have KT := Lib.hid (fun W hW => text_any k a p b q hk ha hp hb hq W hW)
    have KU := Lib.hid (fun W => rtext_any k a p b q hk ha hp hb hq W)
    generalize tupB k p q = B at *
    generalize decide (tkey k a p b q < tkey k2 a2 p2 b2 q2) = C at *
    generalize decide (tkey k a p b q < tkey k a p b q) = D at *
    generalize tupX k a p b q = tx at *
    clear hz hl
    go_enter Tryz.func6, Tryz.ntmps6
    have HN := Lib.hid (Fp.refl (fun _ => False) w)
    have HT := Lib.hid ht
    go_wp2_with fail
    refine calls_gen (fun x1 hW => ?_)
    obtain ⟨hB, hB2, hp⟩ := new2_blk hW
    clear hW
    have hGe := hid_ge HN
    have hGe2 := Nat.le_succ_of_le hGe
    replace HN := hid_now HN hp
    change w.heap.size ≤ w.heap.size + 1 at hGe2
    obtain ⟨g4, hg4⟩ : ∃ g4, g4 = w.heap.size + 1 := ⟨_, rfl⟩
    have G_g4 := Lib.hid (Nat.le_trans hGe2 (Nat.le_of_eq hg4.symm))
    rw [← hg4] at hB2 ⊢
    have B_g4 := hB2
    clear hB2 hGe2 hg4
    obtain ⟨g3, hg3⟩ : ∃ g3, g3 = w.heap.size := ⟨_, rfl⟩
    have G_g3 := Lib.hid (Nat.le_trans hGe (Nat.le_of_eq hg3.symm))
    rw [← hg3] at hB ⊢
    have B_g3 := hB
    clear hB hGe hg3
    skip
    clear hp
    refine (show Calls _ _ _ _ _ from KP.out _ (HT.out.low HN.out)).mono ?_
    rintro e x2 ⟨rfl, hp⟩
    replace HN := hid_now HN hp
    replace B_g4 := hid_blk B_g4 hp
    replace B_g3 := hid_blk B_g3 hp
    clear hp
    go_wp2_with fail
    refine calls_gen (fun x3 hW => ?_)
    have l2g4 := hid_lt B_g4
    have l2g3 := hid_lt B_g3
    have hp := new_now hW
    have hB := new_blk hW
    clear hW
    have hGe := hid_ge HN
    replace HN := hid_now HN hp
    replace B_g4 := hid_blk B_g4 hp
    replace B_g3 := hid_blk B_g3 hp
    obtain ⟨g7, hg7⟩ : ∃ g7, g7 = x2.heap.size := ⟨_, rfl⟩
    have G_g7 := Lib.hid (Nat.le_trans hGe (Nat.le_of_eq hg7.symm))
    have n_g4_g7 : ¬ g4 = g7 := by omega
    have n_g7_g4 : ¬ g7 = g4 := by omega
    clear l2g4
    have n_g3_g7 : ¬ g3 = g7 := by omega
    have n_g7_g3 : ¬ g7 = g3 := by omega
    clear l2g3
    rw [← hg7] at hB ⊢
    have B_g7 := hB
    clear hB hGe hg7
    clear hp
    refine (show Calls _ _ _ _ _ from KR.out _).mono ?_
    rintro e x4 ⟨rfl, hp⟩
    replace HN := hid_now HN hp
    replace B_g4 := hid_blk B_g4 hp
    replace B_g3 := hid_blk B_g3 hp
    replace B_g7 := hid_blk B_g7 hp
    clear hp
    go_upto_region 5 with fail
    refine wp_gen (fun x5 hW => ?_)
    have l2g4 := hid_lt B_g4
    have l2g3 := hid_lt B_g3
    have l2g7 := hid_lt B_g7
    have hp := new_now hW
    have hB := new_blk hW
    clear hW
    have hGe := hid_ge HN
    replace HN := hid_now HN hp
    replace B_g4 := hid_blk B_g4 hp
    replace B_g3 := hid_blk B_g3 hp
    replace B_g7 := hid_blk B_g7 hp
    obtain ⟨g9, hg9⟩ : ∃ g9, g9 = x4.heap.size := ⟨_, rfl⟩
    have G_g9 := Lib.hid (Nat.le_trans hGe (Nat.le_of_eq hg9.symm))
    have n_g4_g9 : ¬ g4 = g9 := by omega
    have n_g9_g4 : ¬ g9 = g4 := by omega
    clear l2g4
    have n_g3_g9 : ¬ g3 = g9 := by omega
    have n_g9_g3 : ¬ g9 = g3 := by omega
    clear l2g3
    have n_g7_g9 : ¬ g7 = g9 := by omega
    have n_g9_g7 : ¬ g9 = g7 := by omega
    clear l2g7
    rw [← hg9] at hB ⊢
    have B_g9 := hB
    clear hB hGe hg9
    clear hp
    have cg30 := cell_at B_g3 0 rfl
    have cg31 := cell_at B_g3 1 rfl
    have cg32 := cell_at B_g3 2 rfl
    have cg33 := cell_at B_g3 3 rfl
    have cg34 := cell_at B_g3 4 rfl
    have zg3 := froz_at B_g3
    have lg3 := hid_lt B_g3
    have cg40 := cell_at B_g4 0 rfl
    have cg41 := cell_at B_g4 1 rfl
    have cg42 := cell_at B_g4 2 rfl
    have cg43 := cell_at B_g4 3 rfl
    have cg44 := cell_at B_g4 4 rfl
    have zg4 := froz_at B_g4
    have lg4 := hid_lt B_g4
    have cg70 := cell_at B_g7 0 rfl
    have cg71 := cell_at B_g7 1 rfl
    have cg72 := cell_at B_g7 2 rfl
    have cg73 := cell_at B_g7 3 rfl
    have cg74 := cell_at B_g7 4 rfl
    have zg7 := froz_at B_g7
    have lg7 := hid_lt B_g7
    have cg90 := cell_at B_g9 0 rfl
    have cg91 := cell_at B_g9 1 rfl
    have cg92 := cell_at B_g9 2 rfl
    have cg93 := cell_at B_g9 3 rfl
    have cg94 := cell_at B_g9 4 rfl
    have zg9 := froz_at B_g9
    have lg9 := hid_lt B_g9
    refine wp_region_held_drew (S := fun wx => NoW x5 wx) (by kernel_rfl) (Fp.drew (Fp.refl _ _)) (fun hHeld0 => ?_)
    refine any_eq hHeld0 (fun x6 hW hHeld => ?_)
    clear hHeld0
    replace B_g4 := hid_blk B_g4 (noW_drew hW)
    replace B_g3 := hid_blk B_g3 (noW_drew hW)
    replace B_g7 := hid_blk B_g7 (noW_drew hW)
    replace B_g9 := hid_blk B_g9 (noW_drew hW)
    clear hW
    (refine take_at 0 (some 25) rfl rfl (by kernel_rfl) (by kernel_rfl) (by kernel_rfl) (fun _ _ _ h => h) (v := ?_) (by kernel_rfl) ?_ (by assumption) ?_; rotate_left; (focus (intro wS hSw; have hX := fun b o (h : b < _) => hSw.cell (p := ⟨b, o, none⟩) h id; go_simp; try with_reducible rfl)); (try simp only [Act.put, List.setIfInBounds_toArray, List.set_cons_zero, List.set_cons_succ]))
    (refine take_at 2 (some 27) rfl rfl (by kernel_rfl) (by kernel_rfl) (by kernel_rfl) (fun _ _ _ h => h) (v := ?_) (by kernel_rfl) ?_ (by assumption) ?_; rotate_left; (focus (intro wS hSw; have hX := fun b o (h : b < _) => hSw.cell (p := ⟨b, o, none⟩) h id; go_simp; try with_reducible rfl)); (try simp only [Act.put, List.setIfInBounds_toArray, List.set_cons_zero, List.set_cons_succ]))
    refine wpAnyH_ready (rs := [1]) (by kernel_rfl) (by simp) ?_
    refine AllReadyH.cons rfl (fun K hK => ?_) AllReadyH.nil
    go_simp
    go_at_call 16
    refine (show Calls _ _ _ _ _ from KB.out _).mono ?_
    rintro e x7 ⟨rfl, hp⟩
    have hn := Fp.trans hHeld hp (fun _ _ h => h.elim)
    replace B_g4 := hid_blk B_g4 hp
    replace B_g3 := hid_blk B_g3 hp
    replace B_g7 := hid_blk B_g7 hp
    replace B_g9 := hid_blk B_g9 hp
    refine k_now hK hn ?_
    clear hK K hp hHeld
    have hHeld := hn
    clear hn
    try simp only [Act.put, List.setIfInBounds_toArray, List.set_cons_zero, List.set_cons_succ]
    refine wpAnyH_ready (rs := [3]) (by kernel_rfl) (by simp) ?_
    refine AllReadyH.cons rfl (fun K hK => ?_) AllReadyH.nil
    go_simp
    go_at_call 17
    refine (show Calls _ _ _ _ _ from KC.out _).mono ?_
    rintro e x8 ⟨rfl, hp⟩
    have hn := Fp.trans hHeld hp (fun _ _ h => h.elim)
    replace B_g4 := hid_blk B_g4 hp
    replace B_g3 := hid_blk B_g3 hp
    replace B_g7 := hid_blk B_g7 hp
    replace B_g9 := hid_blk B_g9 hp
    refine k_now hK hn ?_
    clear hK K hp hHeld
    have hHeld := hn
    clear hn
    try simp only [Act.put, List.setIfInBounds_toArray, List.set_cons_zero, List.set_cons_succ]
    (refine take_at 4 (some 29) rfl rfl (by kernel_rfl) (by kernel_rfl) (by kernel_rfl) (fun _ _ _ h => h) (v := ?_) (by kernel_rfl) ?_ (by assumption) ?_; rotate_left; (focus (intro wS hSw; skip; go_simp; try with_reducible rfl)); (try simp only [Act.put, List.setIfInBounds_toArray, List.set_cons_zero, List.set_cons_succ]))
    (refine take_at 5 (some 30) rfl rfl (by kernel_rfl) (by kernel_rfl) (by kernel_rfl) (fun _ _ _ h => h) (v := ?_) (by kernel_rfl) ?_ (by assumption) ?_; rotate_left; (focus (intro wS hSw; skip; go_simp; try with_reducible rfl)); (try simp only [Act.put, List.setIfInBounds_toArray, List.set_cons_zero, List.set_cons_succ]))
    (refine take_at 6 (some 31) rfl rfl (by kernel_rfl) (by kernel_rfl) (by kernel_rfl) (fun _ _ _ h => h) (v := ?_) (by kernel_rfl) ?_ (by assumption) ?_; rotate_left; (focus (intro wS hSw; have hX := fun b o (h : b < _) => hSw.cell (p := ⟨b, o, none⟩) h id; go_simp; try with_reducible rfl)); (try simp only [Act.put, List.setIfInBounds_toArray, List.set_cons_zero, List.set_cons_succ]))
    (refine take_at 8 (some 33) rfl rfl (by kernel_rfl) (by kernel_rfl) (by kernel_rfl) (fun _ _ _ h => h) (v := ?_) (by kernel_rfl) ?_ (by assumption) ?_; rotate_left; (focus (intro wS hSw; have hX := fun b o (h : b < _) => hSw.cell (p := ⟨b, o, none⟩) h id; go_simp; try with_reducible rfl)); (try simp only [Act.put, List.setIfInBounds_toArray, List.set_cons_zero, List.set_cons_succ]))
    refine wpAnyH_ready (rs := [7]) (by kernel_rfl) (by simp) ?_
    refine AllReadyH.cons rfl (fun K hK => ?_) AllReadyH.nil
    go_simp
    go_at_call 12
    refine (show Calls _ _ _ _ _ from KM.out _ (HT.out.low (HN.out.trans hHeld (fun _ _ h => h.elim))).toP.base).mono ?_
    rintro e x9 ⟨rfl, hp⟩
    have hn := Fp.trans hHeld hp (fun _ _ h => h.elim)
    replace B_g4 := hid_blk B_g4 hp
    replace B_g3 := hid_blk B_g3 hp
    replace B_g7 := hid_blk B_g7 hp
    replace B_g9 := hid_blk B_g9 hp
    refine k_now hK hn ?_
    clear hK K hp hHeld
    have hHeld := hn
    clear hn
    try simp only [Act.put, List.setIfInBounds_toArray, List.set_cons_zero, List.set_cons_succ]
    refine wpAnyH_ready (rs := [9]) (by kernel_rfl) (by simp) ?_
    refine AllReadyH.cons rfl (fun K hK => ?_) AllReadyH.nil
    go_simp
    go_at_call 18
    refine (show Calls _ _ _ _ _ from KN.out _).mono ?_
    rintro e x10 ⟨rfl, hp⟩
    have hn := Fp.trans hHeld hp (fun _ _ h => h.elim)
    replace B_g4 := hid_blk B_g4 hp
    replace B_g3 := hid_blk B_g3 hp
    replace B_g7 := hid_blk B_g7 hp
    replace B_g9 := hid_blk B_g9 hp
    refine k_now hK hn ?_
    clear hK K hp hHeld
    have hHeld := hn
    clear hn
    try simp only [Act.put, List.setIfInBounds_toArray, List.set_cons_zero, List.set_cons_succ]
    (refine take_at 10 (some 35) rfl rfl (by kernel_rfl) (by kernel_rfl) (by kernel_rfl) (fun _ _ _ h => h) (v := ?_) (by kernel_rfl) ?_ (by assumption) ?_; rotate_left; (focus (intro wS hSw; skip; go_simp; try with_reducible rfl)); (try simp only [Act.put, List.setIfInBounds_toArray, List.set_cons_zero, List.set_cons_succ]))
    (refine take_at 11 (some 36) rfl rfl (by kernel_rfl) (by kernel_rfl) (by kernel_rfl) (fun _ _ _ h => h) (v := ?_) (by kernel_rfl) ?_ (by assumption) ?_; rotate_left; (focus (intro wS hSw; skip; go_simp; try with_reducible rfl)); (try simp only [Act.put, List.setIfInBounds_toArray, List.set_cons_zero, List.set_cons_succ]))
    (refine take_at 12 (some 37) rfl rfl (by kernel_rfl) (by kernel_rfl) (by kernel_rfl) (fun _ _ _ h => h) (v := ?_) (by kernel_rfl) ?_ (by assumption) ?_; rotate_left; (focus (intro wS hSw; skip; go_simp; try with_reducible rfl)); (try simp only [Act.put, List.setIfInBounds_toArray, List.set_cons_zero, List.set_cons_succ]))
    (refine take_at 13 (some 38) rfl rfl (by kernel_rfl) (by kernel_rfl) (by kernel_rfl) (fun _ _ _ h => h) (v := ?_) (by kernel_rfl) ?_ (by assumption) ?_; rotate_left; (focus (intro wS hSw; have hX := fun b o (h : b < _) => hSw.cell (p := ⟨b, o, none⟩) h id; go_simp; try with_reducible rfl)); (try simp only [Act.put, List.setIfInBounds_toArray, List.set_cons_zero, List.set_cons_succ]))
    (refine take_at 14 (some 39) rfl rfl (by kernel_rfl) (by kernel_rfl) (by kernel_rfl) (fun _ _ _ h => h) (v := ?_) (by kernel_rfl) ?_ (by assumption) ?_; rotate_left; (focus (intro wS hSw; have hX := fun b o (h : b < _) => hSw.cell (p := ⟨b, o, none⟩) h id; go_simp; try with_reducible rfl)); (try simp only [Act.put, List.setIfInBounds_toArray, List.set_cons_zero, List.set_cons_succ]))
    (refine take_at 16 (some 41) rfl rfl (by kernel_rfl) (by kernel_rfl) (by kernel_rfl) (fun _ _ _ h => h) (v := ?_) (by kernel_rfl) ?_ (by assumption) ?_; rotate_left; (focus (intro wS hSw; have hX := fun b o (h : b < _) => hSw.cell (p := ⟨b, o, none⟩) h id; go_simp; try with_reducible rfl)); (try simp only [Act.put, List.setIfInBounds_toArray, List.set_cons_zero, List.set_cons_succ]))
    (refine take_at 17 (some 42) rfl rfl (by kernel_rfl) (by kernel_rfl) (by kernel_rfl) (fun _ _ _ h => h) (v := ?_) (by kernel_rfl) ?_ (by assumption) ?_; rotate_left; (focus (intro wS hSw; have hX := fun b o (h : b < _) => hSw.cell (p := ⟨b, o, none⟩) h id; go_simp; try with_reducible rfl)); (try simp only [Act.put, List.setIfInBounds_toArray, List.set_cons_zero, List.set_cons_succ]))
    refine wpAnyH_ready (rs := [15]) (by kernel_rfl) (by simp) ?_
    refine AllReadyH.cons rfl (fun K hK => ?_) AllReadyH.nil
    go_simp
    go_at_call 19
    refine (show Calls _ _ _ _ _ from KL.out _).mono ?_
    rintro e x11 ⟨rfl, hp⟩
    have hn := Fp.trans hHeld hp (fun _ _ h => h.elim)
    replace B_g4 := hid_blk B_g4 hp
    replace B_g3 := hid_blk B_g3 hp
    replace B_g7 := hid_blk B_g7 hp
    replace B_g9 := hid_blk B_g9 hp
    refine k_now hK hn ?_
    clear hK K hp hHeld
    have hHeld := hn
    clear hn
    try simp only [Act.put, List.setIfInBounds_toArray, List.set_cons_zero, List.set_cons_succ]
    refine wpAnyH_ready (rs := [18]) (by kernel_rfl) (by simp) ?_
    refine AllReadyH.cons rfl (fun K hK => ?_) AllReadyH.nil
    go_simp
    go_at_call 20
    refine (show Calls _ _ _ _ _ from KS.out _).mono ?_
    rintro e x12 ⟨rfl, hp⟩
    have hn := Fp.trans hHeld hp (fun _ _ h => h.elim)
    replace B_g4 := hid_blk B_g4 hp
    replace B_g3 := hid_blk B_g3 hp
    replace B_g7 := hid_blk B_g7 hp
    replace B_g9 := hid_blk B_g9 hp
    refine k_now hK hn ?_
    clear hK K hp hHeld
    have hHeld := hn
    clear hn
    try simp only [Act.put, List.setIfInBounds_toArray, List.set_cons_zero, List.set_cons_succ]
    (refine take_at 19 (some 44) rfl rfl (by kernel_rfl) (by kernel_rfl) (by kernel_rfl) (fun _ _ _ h => h) (v := ?_) (by kernel_rfl) ?_ (by assumption) ?_; rotate_left; (focus (intro wS hSw; skip; go_simp; try with_reducible rfl)); (try simp only [Act.put, List.setIfInBounds_toArray, List.set_cons_zero, List.set_cons_succ]))
    (refine take_at 20 (some 45) rfl rfl (by kernel_rfl) (by kernel_rfl) (by kernel_rfl) (fun _ _ _ h => h) (v := ?_) (by kernel_rfl) ?_ (by assumption) ?_; rotate_left; (focus (intro wS hSw; skip; go_simp; try with_reducible rfl)); (try simp only [Act.put, List.setIfInBounds_toArray, List.set_cons_zero, List.set_cons_succ]))
    (refine take_at 21 (some 46) rfl rfl (by kernel_rfl) (by kernel_rfl) (by kernel_rfl) (fun _ _ _ h => h) (v := ?_) (by kernel_rfl) ?_ (by assumption) ?_; rotate_left; (focus (intro wS hSw; skip; go_simp; try with_reducible rfl)); (try simp only [Act.put, List.setIfInBounds_toArray, List.set_cons_zero, List.set_cons_succ]))
    (refine take_at 22 (some 47) rfl rfl (by kernel_rfl) (by kernel_rfl) (by kernel_rfl) (fun _ _ _ h => h) (v := ?_) (by kernel_rfl) ?_ (by assumption) ?_; rotate_left; (focus (intro wS hSw; have hX := fun b o (h : b < _) => hSw.cell (p := ⟨b, o, none⟩) h id; go_simp; try with_reducible rfl)); (try simp only [Act.put, List.setIfInBounds_toArray, List.set_cons_zero, List.set_cons_succ]))
    (refine take_at 23 (some 48) rfl rfl (by kernel_rfl) (by kernel_rfl) (by kernel_rfl) (fun _ _ _ h => h) (v := ?_) (by kernel_rfl) ?_ (by assumption) ?_; rotate_left; (focus (intro wS hSw; have hX := fun b o (h : b < _) => hSw.cell (p := ⟨b, o, none⟩) h id; go_simp; try with_reducible rfl)); (try simp only [Act.put, List.setIfInBounds_toArray, List.set_cons_zero, List.set_cons_succ]))
    (refine take_at 25 (some 50) rfl rfl (by kernel_rfl) (by kernel_rfl) (by kernel_rfl) (fun _ _ _ h => h) (v := ?_) (by kernel_rfl) ?_ (by assumption) ?_; rotate_left; (focus (intro wS hSw; have hX := fun b o (h : b < _) => hSw.cell (p := ⟨b, o, none⟩) h id; go_simp; try with_reducible rfl)); (try simp only [Act.put, List.setIfInBounds_toArray, List.set_cons_zero, List.set_cons_succ]))
    (refine take_at 26 (some 51) rfl rfl (by kernel_rfl) (by kernel_rfl) (by kernel_rfl) (fun _ _ _ h => h) (v := ?_) (by kernel_rfl) ?_ (by assumption) ?_; rotate_left; (focus (intro wS hSw; have hX := fun b o (h : b < _) => hSw.cell (p := ⟨b, o, none⟩) h id; go_simp; try with_reducible rfl)); (try simp only [Act.put, List.setIfInBounds_toArray, List.set_cons_zero, List.set_cons_succ]))
    refine wpAnyH_ready (rs := [24]) (by kernel_rfl) (by simp) ?_
    refine AllReadyH.cons rfl (fun K hK => ?_) AllReadyH.nil
    go_simp
    go_at_call 19
    refine (show Calls _ _ _ _ _ from KL2.out _).mono ?_
    rintro e x13 ⟨rfl, hp⟩
    have hn := Fp.trans hHeld hp (fun _ _ h => h.elim)
    replace B_g4 := hid_blk B_g4 hp
    replace B_g3 := hid_blk B_g3 hp
    replace B_g7 := hid_blk B_g7 hp
    replace B_g9 := hid_blk B_g9 hp
    refine k_now hK hn ?_
    clear hK K hp hHeld
    have hHeld := hn
    clear hn
    try simp only [Act.put, List.setIfInBounds_toArray, List.set_cons_zero, List.set_cons_succ]
    refine wpAnyH_ready (rs := [27]) (by kernel_rfl) (by simp) ?_
    refine AllReadyH.cons rfl (fun K hK => ?_) AllReadyH.nil
    go_simp
    go_at_call 20
    refine (show Calls _ _ _ _ _ from KS2.out _).mono ?_
    rintro e x14 ⟨rfl, hp⟩
    have hn := Fp.trans hHeld hp (fun _ _ h => h.elim)
    replace B_g4 := hid_blk B_g4 hp
    replace B_g3 := hid_blk B_g3 hp
    replace B_g7 := hid_blk B_g7 hp
    replace B_g9 := hid_blk B_g9 hp
    refine k_now hK hn ?_
    clear hK K hp hHeld
    have hHeld := hn
    clear hn
    try simp only [Act.put, List.setIfInBounds_toArray, List.set_cons_zero, List.set_cons_succ]
    (refine take_at 28 (some 53) rfl rfl (by kernel_rfl) (by kernel_rfl) (by kernel_rfl) (fun _ _ _ h => h) (v := ?_) (by kernel_rfl) ?_ (by assumption) ?_; rotate_left; (focus (intro wS hSw; skip; go_simp; try with_reducible rfl)); (try simp only [Act.put, List.setIfInBounds_toArray, List.set_cons_zero, List.set_cons_succ]))
    (refine take_at 29 (some 54) rfl rfl (by kernel_rfl) (by kernel_rfl) (by kernel_rfl) (fun _ _ _ h => h) (v := ?_) (by kernel_rfl) ?_ (by assumption) ?_; rotate_left; (focus (intro wS hSw; skip; go_simp; try with_reducible rfl)); (try simp only [Act.put, List.setIfInBounds_toArray, List.set_cons_zero, List.set_cons_succ]))
    (refine take_at 30 (some 55) rfl rfl (by kernel_rfl) (by kernel_rfl) (by kernel_rfl) (fun _ _ _ h => h) (v := ?_) (by kernel_rfl) ?_ (by assumption) ?_; rotate_left; (focus (intro wS hSw; skip; go_simp; try with_reducible rfl)); (try simp only [Act.put, List.setIfInBounds_toArray, List.set_cons_zero, List.set_cons_succ]))
    (refine take_at 31 (some 56) rfl rfl (by kernel_rfl) (by kernel_rfl) (by kernel_rfl) (fun _ _ _ h => h) (v := ?_) (by kernel_rfl) ?_ (by assumption) ?_; rotate_left; (focus (intro wS hSw; have hX := fun b o (h : b < _) => hSw.cell (p := ⟨b, o, none⟩) h id; go_simp; try with_reducible rfl)); (try simp only [Act.put, List.setIfInBounds_toArray, List.set_cons_zero, List.set_cons_succ]))
    (refine take_at 33 (some 58) rfl rfl (by kernel_rfl) (by kernel_rfl) (by kernel_rfl) (fun _ _ _ h => h) (v := ?_) (by kernel_rfl) ?_ (by assumption) ?_; rotate_left; (focus (intro wS hSw; have hX := fun b o (h : b < _) => hSw.cell (p := ⟨b, o, none⟩) h id; go_simp; try with_reducible rfl)); (try simp only [Act.put, List.setIfInBounds_toArray, List.set_cons_zero, List.set_cons_succ]))
    refine wpAnyH_ready (rs := [32]) (by kernel_rfl) (by simp) ?_
    refine AllReadyH.cons rfl (fun K hK => ?_) AllReadyH.nil
    go_simp
    go_at_call 14
    refine (show Calls _ _ _ _ _ from KT.out _ (HT.out.low (HN.out.trans hHeld (fun _ _ h => h.elim))).toP.base).mono ?_
    rintro e x15 ⟨rfl, hp⟩
    have hn := Fp.trans hHeld hp (fun _ _ h => h.elim)
    replace B_g4 := hid_blk B_g4 hp
    replace B_g3 := hid_blk B_g3 hp
    replace B_g7 := hid_blk B_g7 hp
    replace B_g9 := hid_blk B_g9 hp
    refine k_now hK hn ?_
    clear hK K hp hHeld
    have hHeld := hn
    clear hn
    try simp only [Act.put, List.setIfInBounds_toArray, List.set_cons_zero, List.set_cons_succ]
    refine wpAnyH_ready (rs := [34]) (by kernel_rfl) (by simp) ?_
    refine AllReadyH.cons rfl (fun K hK => ?_) AllReadyH.nil
    go_simp
    go_at_call 21
    refine (show Calls _ _ _ _ _ from KU.out _).mono ?_
    rintro e x16 ⟨rfl, hp⟩
    have hn := Fp.trans hHeld hp (fun _ _ h => h.elim)
    replace B_g4 := hid_blk B_g4 hp
    replace B_g3 := hid_blk B_g3 hp
    replace B_g7 := hid_blk B_g7 hp
    replace B_g9 := hid_blk B_g9 hp
    refine k_now hK hn ?_
    clear hK K hp hHeld
    have hHeld := hn
    clear hn
    try simp only [Act.put, List.setIfInBounds_toArray, List.set_cons_zero, List.set_cons_succ]
    (refine take_at 35 (some 60) rfl rfl (by kernel_rfl) (by kernel_rfl) (by kernel_rfl) (fun _ _ _ h => h) (v := ?_) (by kernel_rfl) ?_ (by assumption) ?_; rotate_left; (focus (intro wS hSw; skip; go_simp; try with_reducible rfl)); (try simp only [Act.put, List.setIfInBounds_toArray, List.set_cons_zero, List.set_cons_succ]))
    (refine take_at 36 (some 61) rfl rfl (by kernel_rfl) (by kernel_rfl) (by kernel_rfl) (fun _ _ _ h => h) (v := ?_) (by kernel_rfl) ?_ (by assumption) ?_; rotate_left; (focus (intro wS hSw; skip; go_simp; try with_reducible rfl)); (try simp only [Act.put, List.setIfInBounds_toArray, List.set_cons_zero, List.set_cons_succ]))
    (refine take_at 37 (some 62) rfl rfl (by kernel_rfl) (by kernel_rfl) (by kernel_rfl) (fun _ _ _ h => h) (v := ?_) (by kernel_rfl) ?_ (by assumption) ?_; rotate_left; (focus (intro wS hSw; skip; go_simp; try with_reducible rfl)); (try simp only [Act.put, List.setIfInBounds_toArray, List.set_cons_zero, List.set_cons_succ]))
    (refine take_at 38 (some 63) rfl rfl (by kernel_rfl) (by kernel_rfl) (by kernel_rfl) (fun _ _ _ h => h) (v := ?_) (by kernel_rfl) ?_ (by assumption) ?_; rotate_left; (focus (intro wS hSw; have hX := fun b o (h : b < _) => hSw.cell (p := ⟨b, o, none⟩) h id; go_simp; try with_reducible rfl)); (try simp only [Act.put, List.setIfInBounds_toArray, List.set_cons_zero, List.set_cons_succ]))
    (refine take_at 39 (some 64) rfl rfl (by kernel_rfl) (by kernel_rfl) (by kernel_rfl) (fun _ _ _ h => h) (v := ?_) (by kernel_rfl) ?_ (by assumption) ?_; rotate_left; (focus (intro wS hSw; have hX := fun b o (h : b < _) => hSw.cell (p := ⟨b, o, none⟩) h id; go_simp; try with_reducible rfl)); (try simp only [Act.put, List.setIfInBounds_toArray, List.set_cons_zero, List.set_cons_succ]))
    (refine take_at 40 (some 65) rfl rfl (by kernel_rfl) (by kernel_rfl) (by kernel_rfl) (fun _ _ _ h => h) (v := ?_) (by kernel_rfl) ?_ (by assumption) ?_; rotate_left; (focus (intro wS hSw; skip; go_simp; try with_reducible rfl)); (try simp only [Act.put, List.setIfInBounds_toArray, List.set_cons_zero, List.set_cons_succ]))
    (refine take_at 41 (some 66) rfl rfl (by kernel_rfl) (by kernel_rfl) (by kernel_rfl) (fun _ _ _ h => h) (v := ?_) (by kernel_rfl) ?_ (by assumption) ?_; rotate_left; (focus (intro wS hSw; skip; go_simp; try with_reducible rfl)); (try simp only [Act.put, List.setIfInBounds_toArray, List.set_cons_zero, List.set_cons_succ]))
    (refine take_at 42 (some 67) rfl rfl (by kernel_rfl) (by kernel_rfl) (by kernel_rfl) (fun _ _ _ h => h) (v := ?_) (by kernel_rfl) ?_ (by assumption) ?_; rotate_left; (focus (intro wS hSw; skip; go_simp; try with_reducible rfl)); (try simp only [Act.put, List.setIfInBounds_toArray, List.set_cons_zero, List.set_cons_succ]))
    (refine take_at 43 (some 68) rfl rfl (by kernel_rfl) (by kernel_rfl) (by kernel_rfl) (fun _ _ _ h => h) (v := ?_) (by kernel_rfl) ?_ (by assumption) ?_; rotate_left; (focus (intro wS hSw; skip; go_simp; try with_reducible rfl)); (try simp only [Act.put, List.setIfInBounds_toArray, List.set_cons_zero, List.set_cons_succ]))
    (refine take_at 44 (some 69) rfl rfl (by kernel_rfl) (by kernel_rfl) (by kernel_rfl) (fun _ _ _ h => h) (v := ?_) (by kernel_rfl) ?_ (by assumption) ?_; rotate_left; (focus (intro wS hSw; skip; go_simp; try with_reducible rfl)); (try simp only [Act.put, List.setIfInBounds_toArray, List.set_cons_zero, List.set_cons_succ]))
    (refine take_at 45 (some 70) rfl rfl (by kernel_rfl) (by kernel_rfl) (by kernel_rfl) (fun _ _ _ h => h) (v := ?_) (by kernel_rfl) ?_ (by assumption) ?_; rotate_left; (focus (intro wS hSw; skip; go_simp; try with_reducible rfl)); (try simp only [Act.put, List.setIfInBounds_toArray, List.set_cons_zero, List.set_cons_succ]))
    (refine take_at 46 (some 71) rfl rfl (by kernel_rfl) (by kernel_rfl) (by kernel_rfl) (fun _ _ _ h => h) (v := ?_) (by kernel_rfl) ?_ (by assumption) ?_; rotate_left; (focus (intro wS hSw; skip; go_simp; try with_reducible rfl)); (try simp only [Act.put, List.setIfInBounds_toArray, List.set_cons_zero, List.set_cons_succ]))
    (refine take_at 47 (some 72) rfl rfl (by kernel_rfl) (by kernel_rfl) (by kernel_rfl) (fun _ _ _ h => h) (v := ?_) (by kernel_rfl) ?_ (by assumption) ?_; rotate_left; (focus (intro wS hSw; skip; go_simp; try with_reducible rfl)); (try simp only [Act.put, List.setIfInBounds_toArray, List.set_cons_zero, List.set_cons_succ]))
    refine wpAnyH_ready (rs := [48]) (by kernel_rfl) (by simp) ?_
    refine AllReadyH.cons rfl (fun K hK => ?_) AllReadyH.nil
    go_simp
    go_at_call 9
    refine (show Calls _ _ _ _ _ from watched_ok _ (HT.out.low (HN.out.trans hHeld (fun _ _ h => h.elim)))).mono ?_
    rintro e x17 ⟨rfl, hp⟩
    have hn := Fp.trans hHeld hp (fun _ _ h => h.elim)
    replace B_g4 := hid_blk B_g4 hp
    replace B_g3 := hid_blk B_g3 hp
    replace B_g7 := hid_blk B_g7 hp
    replace B_g9 := hid_blk B_g9 hp
    refine k_now hK hn ?_
    clear hK K hp hHeld
    have hHeld := hn
    clear hn
    try simp only [Act.put, List.setIfInBounds_toArray, List.set_cons_zero, List.set_cons_succ]
    (refine take_at 49 (some 74) rfl rfl (by kernel_rfl) (by kernel_rfl) (by kernel_rfl) (fun _ _ _ h => h) (v := ?_) (by kernel_rfl) ?_ (by assumption) ?_; rotate_left; (focus (intro wS hSw; skip; go_simp; try with_reducible rfl)); (try simp only [Act.put, List.setIfInBounds_toArray, List.set_cons_zero, List.set_cons_succ]))
    (refine take_at 50 (some 6) rfl rfl (by kernel_rfl) (by kernel_rfl) (by kernel_rfl) (fun _ _ _ h => h) (v := ?_) (by kernel_rfl) ?_ (by assumption) ?_; rotate_left; (focus (intro wS hSw; skip; go_simp; try with_reducible rfl)); (try simp only [Act.put, List.setIfInBounds_toArray, List.set_cons_zero, List.set_cons_succ]))
    refine wpAnyH_done (by kernel_rfl) ?_ _
    clear cg30 cg31 cg32 cg33 cg34 zg3 lg3 cg40 cg41 cg42 cg43 cg44 zg4 lg4 cg70 cg71 cg72 cg73 cg74 zg7 lg7 cg90 cg91 cg92 cg93 cg94 zg9 lg9
    have hGe := hid_ge HN
    replace HN := hid_now HN hHeld
    clear hHeld hGe
    go_wp2_with fail
    go_ret
    exact ⟨rfl, HN.out⟩
  · skip
    have d0 : decide ((200 : Int) < (l.length : Int)) = true := decide_eq_true (by omega)
    clear hl
    go_enter Tryz.func6, Tryz.ntmps6
    have HN := Lib.hid (Fp.refl (fun _ => False) w)
    have HT := Lib.hid ht
    go_wp2_with fail
    refine calls_gen (fun x1 hW => ?_)
    obtain ⟨hB, hB2, hp⟩ := new2_blk hW
    clear hW
    have hGe := hid_ge HN
    have hGe2 := Nat.le_succ_of_le hGe
    replace HN := hid_now HN hp
    change w.heap.size ≤ w.heap.size + 1 at hGe2
    obtain ⟨g4, hg4⟩ : ∃ g4, g4 = w.heap.size + 1 := ⟨_, rfl⟩
    have G_g4 := Lib.hid (Nat.le_trans hGe2 (Nat.le_of_eq hg4.symm))
    rw [← hg4] at hB2 ⊢
    have B_g4 := hB2
    clear hB2 hGe2 hg4
    obtain ⟨g3, hg3⟩ : ∃ g3, g3 = w.heap.size := ⟨_, rfl⟩
    have G_g3 := Lib.hid (Nat.le_trans hGe (Nat.le_of_eq hg3.symm))
    rw [← hg3] at hB ⊢
    have B_g3 := hB
    clear hB hGe hg3
    skip
    clear hp
    refine (show Calls _ _ _ _ _ from watched_ok _ (HT.out.low HN.out)).mono ?_
    rintro e x2 ⟨rfl, hp⟩
    replace HN := hid_now HN hp
    replace B_g4 := hid_blk B_g4 hp
    replace B_g3 := hid_blk B_g3 hp
    clear hp
    go_wp2_with fail
    go_ret
    exact ⟨rfl, HN.out⟩
end Go.Proofs.YtmghjaoodnkjlaaGreatDoor
