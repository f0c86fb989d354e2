/- Chapter 08: TuplesBack (written by gen8y.py). -/
import Derived.Test.YtmghjaoodnkjlaaGreatDoorTq
import Derived.Test.YtmghjaoodnkjlaaGreatDoorTw
import Derived.Test.YtmghjaoodnkjlaaGreatDoorTk
import Derived.Test.YtmghjaoodnkjlaaGreatDoorSees
import Derived.Laws.StructEq
namespace Go.Proofs.YtmghjaoodnkjlaaGreatDoor
set_option linter.unusedVariables false
set_option linter.unusedSimpArgs false
open Go.RowKit Go.Lib Go.Sort
theorem tupB_sym (k p q : Nat) : tupB k p q = tupB k q p := by
  unfold tupB; cases isWord k <;> cases decide (k ≠ 1) <;> cases decide (p = 0) <;> cases decide (q = 0) <;> rfl
theorem tupX_of (k a p b q : Nat) (ha : a < 4294967296) (hp : p < 65536) (hb : b < 4294967296) (hq : q < 65536) : tupOf (tupX k a p b q) = if tupB k p q = true then some (k, a, p, b, q) else none := by
  unfold tupX
  by_cases h : tupB k p q = true
  · rw [if_pos h, if_pos h]; exact tupOf_some.2 ⟨rfl, h, ha, by omega, hb, by omega⟩
  · rw [if_neg h, if_neg h]; rfl
theorem tupX_len (k a p b q : Nat) (ha : a < 4294967296) (hp : p < 65536) (hb : b < 4294967296) (hq : q < 65536) : (tupX k a p b q).length ≤ 100 := by
  unfold tupX; split
  · exact tupT_len k a p b q ha hp hb hq
  · simp
theorem tupX_inj {k a p b q k2 a2 p2 b2 q2 : Nat} (ha : a < 4294967296) (hp : p < 65536) (hb : b < 4294967296) (hq : q < 65536) (ha2 : a2 < 4294967296) (hp2 : p2 < 65536) (hb2 : b2 < 4294967296) (hq2 : q2 < 65536)
    (h1 : tupB k p q = true) (h2 : tupB k2 p2 q2 = true) (e : tupX k a p b q = tupX k2 a2 p2 b2 q2) : k = k2 ∧ a = a2 ∧ p = p2 ∧ b = b2 ∧ q = q2 := by
  have x1 := tupX_of k a p b q ha hp hb hq
  have x2 := tupX_of k2 a2 p2 b2 q2 ha2 hp2 hb2 hq2
  rw [if_pos h1, e, x2, if_pos h2] at x1
  simpa [eq_comm] using x1
theorem tkey_cases {k a p b q k2 a2 p2 b2 q2 : Nat} (ha : a < 4294967296) (hp : p < 65536) (hb : b < 4294967296) (hq : q < 65536) (ha2 : a2 < 4294967296) (hp2 : p2 < 65536) (hb2 : b2 < 4294967296) (hq2 : q2 < 65536)
    (hne : ¬ (k = k2 ∧ a = a2 ∧ p = p2 ∧ b = b2 ∧ q = q2)) : tkey k a p b q < tkey k2 a2 p2 b2 q2 ∨ tkey k2 a2 p2 b2 q2 < tkey k a p b q := by
  unfold tkey; omega
set_option maxHeartbeats 8000000 in
set_option maxRecDepth 100000 in
theorem tb_eq1 (k a p b q : Nat) (hk : k < 256) (ha : a < 4294967296) (hp : p < 65536) (hb : b < 4294967296) (hq : q < 65536) (h1 : tupB k p q = true) (w : World) (ht : TbQ w) : Calls Tryz.prog 7 #[.agg #[.int .u8 (k : Nat), .int .u32 (a : Nat), .int .u16 (p : Nat), .int .u32 (b : Nat), .int .u16 (q : Nat)], .agg #[.int .u8 (k : Nat), .int .u32 (a : Nat), .int .u16 (p : Nat), .int .u32 (b : Nat), .int .u16 (q : Nat)]] w (Ret1 (.bool true) w) := by
  have KB := Lib.hid (fun W => back_ok k a p b q W)
  have KB2 := Lib.hid (fun W => back_ok k b q a p W)
  have KM := Lib.hid (fun W hW => tup_ok k a p b q hk W hW)
  have KM2 := Lib.hid (fun W hW => tup_ok k b q a p hk W hW)
  have KN := Lib.hid (fun W hW => tup_ok k a p b q hk W hW)
  have KL := Lib.hid (fun W => tless_ok k a p b q k a p b q ha hp hb hq ha hp hb hq W)
  have KG := Lib.hid (fun W => tless_ok k a p b q k a p b q ha hp hb hq ha hp hb hq W)
  have KT := Lib.hid (fun W hW => text_any k a p b q hk ha hp hb hq W hW)
  have KU := Lib.hid (fun W hW => text_any k a p b q hk ha hp hb hq W hW)
  have hl := tupX_len k a p b q ha hp hb hq
  have KP := Lib.hid (fun W hW => tup_parse (tupX k a p b q) (by omega) W hW)
  rw [tupX_of k a p b q ha hp hb hq, h1] at KP
  rw [tupB_sym k q p, h1] at KM2
  rw [h1] at KM
  rw [h1] at KN
  have ln : ¬ tkey k a p b q < tkey k a p b q := Nat.lt_irrefl _
  rw [decide_eq_false ln] at KL KG
  have e1 : ∀ W, (binOp .eql 29 (.agg #[.int .u8 (k : Nat), .int .u32 (a : Nat), .int .u16 (p : Nat), .int .u32 (b : Nat), .int .u16 (q : Nat)]) (.agg #[.int .u8 (k : Nat), .int .u32 (a : Nat), .int .u16 (p : Nat), .int .u32 (b : Nat), .int .u16 (q : Nat)])).run Tryz.prog W = .ok (.bool true) W := fun W => by rw [tup_eq2]; simp []
  have e3 : ∀ W, (binOp .neq 29 (.agg #[.int .u8 (k : Nat), .int .u32 (a : Nat), .int .u16 (p : Nat), .int .u32 (b : Nat), .int .u16 (q : Nat)]) (.agg #[.int .u8 (k : Nat), .int .u32 (a : Nat), .int .u16 (p : Nat), .int .u32 (b : Nat), .int .u16 (q : Nat)])).run Tryz.prog W = .ok (.bool false) W := fun W => by rw [tup_neq2]; simp
  have s0 : (tupX k a p b q == tupX k a p b q) = true := beq_self_eq_true _
  clear hl
  generalize tupX k a p b q = tx at *
  unfold tupRV at KP
  simp only [if_true, if_false, Bool.false_eq_true] at KP
  clear h1
  go_enter Tryz.func7, Tryz.ntmps7
  go_upto_region 1 with fail
  have HN := Lib.hid (Fp.refl (fun _ => False) w)
  have HT := Lib.hid ht
  refine wp_gen (fun x1 hW => ?_)
  obtain ⟨hB, hB2, hp⟩ := new2_blk hW
  clear hW
  have hGe := hid_ge HN
  have hGe2 := Nat.le_succ_of_le hGe
  replace HN := hid_now HN hp
  change w.heap.size ≤ w.heap.size + 1 at hGe2
  obtain ⟨g3, hg3⟩ : ∃ g3, g3 = w.heap.size + 1 := ⟨_, rfl⟩
  have G_g3 := Lib.hid (Nat.le_trans hGe2 (Nat.le_of_eq hg3.symm))
  rw [← hg3] at hB2 ⊢
  have B_g3 := hB2
  clear hB2 hGe2 hg3
  obtain ⟨g2, hg2⟩ : ∃ g2, g2 = w.heap.size := ⟨_, rfl⟩
  have G_g2 := Lib.hid (Nat.le_trans hGe (Nat.le_of_eq hg2.symm))
  rw [← hg2] at hB ⊢
  have B_g2 := hB
  clear hB hGe hg2
  skip
  clear hp
  have cg20 := cell_at B_g2 0 rfl
  have cg21 := cell_at B_g2 1 rfl
  have cg22 := cell_at B_g2 2 rfl
  have cg23 := cell_at B_g2 3 rfl
  have cg24 := cell_at B_g2 4 rfl
  have zg2 := froz_at B_g2
  have lg2 := hid_lt B_g2
  have cg30 := cell_at B_g3 0 rfl
  have cg31 := cell_at B_g3 1 rfl
  have cg32 := cell_at B_g3 2 rfl
  have cg33 := cell_at B_g3 3 rfl
  have cg34 := cell_at B_g3 4 rfl
  have zg3 := froz_at B_g3
  have lg3 := hid_lt B_g3
  refine wp_region_held_drew (S := fun wx => NoW x1 wx) (by kernel_rfl) (Fp.drew (Fp.refl _ _)) (fun hHeld0 => ?_)
  refine any_eq hHeld0 (fun x2 hW hHeld => ?_)
  clear hHeld0
  replace B_g3 := hid_blk B_g3 (noW_drew hW)
  replace B_g2 := hid_blk B_g2 (noW_drew hW)
  clear hW
  (refine take_at 0 (some 9) rfl rfl (by kernel_rfl) (by kernel_rfl) (by kernel_rfl) (fun _ _ _ h => h) (v := ?_) (by kernel_rfl) ?_ (by assumption) ?_; rotate_left; (focus (intro wS hSw; have hX := fun b o (h : b < _) => hSw.cell (p := ⟨b, o, none⟩) h id; go_simp; try with_reducible rfl)); (try simp only [Act.put, List.setIfInBounds_toArray, List.set_cons_zero, List.set_cons_succ]))
  (refine take_at 3 (some 12) rfl rfl (by kernel_rfl) (by kernel_rfl) (by kernel_rfl) (fun _ _ _ h => h) (v := ?_) (by kernel_rfl) ?_ (by assumption) ?_; rotate_left; (focus (intro wS hSw; have hX := fun b o (h : b < _) => hSw.cell (p := ⟨b, o, none⟩) h id; go_simp; try with_reducible rfl)); (try simp only [Act.put, List.setIfInBounds_toArray, List.set_cons_zero, List.set_cons_succ]))
  refine wpAnyH_ready (rs := [1]) (by kernel_rfl) (by simp) ?_
  refine AllReadyH.cons rfl (fun K hK => ?_) AllReadyH.nil
  go_simp
  go_at_call 16
  refine (show Calls _ _ _ _ _ from KB.out _).mono ?_
  rintro e x3 ⟨rfl, hp⟩
  have hn := Fp.trans hHeld hp (fun _ _ h => h.elim)
  replace B_g3 := hid_blk B_g3 hp
  replace B_g2 := hid_blk B_g2 hp
  refine k_now hK hn ?_
  clear hK K hp hHeld
  have hHeld := hn
  clear hn
  try simp only [Act.put, List.setIfInBounds_toArray, List.set_cons_zero, List.set_cons_succ]
  refine wpAnyH_ready (rs := [2]) (by kernel_rfl) (by simp) ?_
  refine AllReadyH.cons rfl (fun K hK => ?_) AllReadyH.nil
  go_simp
  go_at_call 16
  refine (show Calls _ _ _ _ _ from KB2.out _).mono ?_
  rintro e x4 ⟨rfl, hp⟩
  have hn := Fp.trans hHeld hp (fun _ _ h => h.elim)
  replace B_g3 := hid_blk B_g3 hp
  replace B_g2 := hid_blk B_g2 hp
  refine k_now hK hn ?_
  clear hK K hp hHeld
  have hHeld := hn
  clear hn
  try simp only [Act.put, List.setIfInBounds_toArray, List.set_cons_zero, List.set_cons_succ]
  (refine take_at 4 (some 13) rfl rfl (by kernel_rfl) (by kernel_rfl) (by kernel_rfl) (fun _ _ _ h => h) (v := ?_) (by kernel_rfl) ?_ (by assumption) ?_; rotate_left; (focus (intro wS hSw; skip; go_simp; try with_reducible rfl)); (try simp only [Act.put, List.setIfInBounds_toArray, List.set_cons_zero, List.set_cons_succ]))
  (refine take_at 5 (some 14) rfl rfl (by kernel_rfl) (by kernel_rfl) (by kernel_rfl) (fun _ _ _ h => h) (v := ?_) (by kernel_rfl) ?_ (by assumption) ?_; rotate_left; (focus (intro wS hSw; skip; go_simp; try with_reducible rfl)); (try simp only [Act.put, List.setIfInBounds_toArray, List.set_cons_zero, List.set_cons_succ]))
  (refine take_at 6 (some 15) rfl rfl (by kernel_rfl) (by kernel_rfl) (by kernel_rfl) (fun _ _ _ h => h) (v := ?_) (by kernel_rfl) ?_ (by assumption) ?_; rotate_left; (focus (intro wS hSw; have hX := fun b o (h : b < _) => hSw.cell (p := ⟨b, o, none⟩) h id; go_simp; try with_reducible rfl)); (try simp only [Act.put, List.setIfInBounds_toArray, List.set_cons_zero, List.set_cons_succ]))
  (refine take_at 9 (some 18) rfl rfl (by kernel_rfl) (by kernel_rfl) (by kernel_rfl) (fun _ _ _ h => h) (v := ?_) (by kernel_rfl) ?_ (by assumption) ?_; rotate_left; (focus (intro wS hSw; have hX := fun b o (h : b < _) => hSw.cell (p := ⟨b, o, none⟩) h id; go_simp; try with_reducible rfl)); (try simp only [Act.put, List.setIfInBounds_toArray, List.set_cons_zero, List.set_cons_succ]))
  refine wpAnyH_ready (rs := [7]) (by kernel_rfl) (by simp) ?_
  refine AllReadyH.cons rfl (fun K hK => ?_) AllReadyH.nil
  go_simp
  go_at_call 16
  refine (show Calls _ _ _ _ _ from KB.out _).mono ?_
  rintro e x5 ⟨rfl, hp⟩
  have hn := Fp.trans hHeld hp (fun _ _ h => h.elim)
  replace B_g3 := hid_blk B_g3 hp
  replace B_g2 := hid_blk B_g2 hp
  refine k_now hK hn ?_
  clear hK K hp hHeld
  have hHeld := hn
  clear hn
  try simp only [Act.put, List.setIfInBounds_toArray, List.set_cons_zero, List.set_cons_succ]
  refine wpAnyH_ready (rs := [8]) (by kernel_rfl) (by simp) ?_
  refine AllReadyH.cons rfl (fun K hK => ?_) AllReadyH.nil
  go_simp
  go_at_call 12
  refine (show Calls _ _ _ _ _ from KM2.out _ (HT.out.low (HN.out.trans hHeld (fun _ _ h => h.elim))).toP.base).mono ?_
  rintro e x6 ⟨rfl, hp⟩
  have hn := Fp.trans hHeld hp (fun _ _ h => h.elim)
  replace B_g3 := hid_blk B_g3 hp
  replace B_g2 := hid_blk B_g2 hp
  refine k_now hK hn ?_
  clear hK K hp hHeld
  have hHeld := hn
  clear hn
  try simp only [Act.put, List.setIfInBounds_toArray, List.set_cons_zero, List.set_cons_succ]
  refine wpAnyH_ready (rs := [10]) (by kernel_rfl) (by simp) ?_
  refine AllReadyH.cons rfl (fun K hK => ?_) AllReadyH.nil
  go_simp
  go_at_call 12
  refine (show Calls _ _ _ _ _ from KM.out _ (HT.out.low (HN.out.trans hHeld (fun _ _ h => h.elim))).toP.base).mono ?_
  rintro e x7 ⟨rfl, hp⟩
  have hn := Fp.trans hHeld hp (fun _ _ h => h.elim)
  replace B_g3 := hid_blk B_g3 hp
  replace B_g2 := hid_blk B_g2 hp
  refine k_now hK hn ?_
  clear hK K hp hHeld
  have hHeld := hn
  clear hn
  try simp only [Act.put, List.setIfInBounds_toArray, List.set_cons_zero, List.set_cons_succ]
  (refine take_at 11 (some 20) rfl rfl (by kernel_rfl) (by kernel_rfl) (by kernel_rfl) (fun _ _ _ h => h) (v := ?_) (by kernel_rfl) ?_ (by assumption) ?_; rotate_left; (focus (intro wS hSw; skip; go_simp; try with_reducible rfl)); (try simp only [Act.put, List.setIfInBounds_toArray, List.set_cons_zero, List.set_cons_succ]))
  (refine take_at 12 (some 21) rfl rfl (by kernel_rfl) (by kernel_rfl) (by kernel_rfl) (fun _ _ _ h => h) (v := ?_) (by kernel_rfl) ?_ (by assumption) ?_; rotate_left; (focus (intro wS hSw; skip; go_simp; try with_reducible rfl)); (try simp only [Act.put, List.setIfInBounds_toArray, List.set_cons_zero, List.set_cons_succ]))
  refine wpAnyH_done (by kernel_rfl) ?_ _
  clear cg20 cg21 cg22 cg23 cg24 zg2 lg2 cg30 cg31 cg32 cg33 cg34 zg3 lg3
  have hGe := hid_ge HN
  replace HN := hid_now HN hHeld
  clear hHeld hGe
  go_upto_region 3 with fail
  have cg20 := cell_at B_g2 0 rfl
  have cg21 := cell_at B_g2 1 rfl
  have cg22 := cell_at B_g2 2 rfl
  have cg23 := cell_at B_g2 3 rfl
  have cg24 := cell_at B_g2 4 rfl
  have zg2 := froz_at B_g2
  have lg2 := hid_lt B_g2
  have cg30 := cell_at B_g3 0 rfl
  have cg31 := cell_at B_g3 1 rfl
  have cg32 := cell_at B_g3 2 rfl
  have cg33 := cell_at B_g3 3 rfl
  have cg34 := cell_at B_g3 4 rfl
  have zg3 := froz_at B_g3
  have lg3 := hid_lt B_g3
  refine wp_region_held_drew (S := fun wx => NoW x7 wx) (by kernel_rfl) (Fp.drew (Fp.refl _ _)) (fun hHeld0 => ?_)
  refine any_eq hHeld0 (fun x8 hW hHeld => ?_)
  clear hHeld0
  replace B_g3 := hid_blk B_g3 (noW_drew hW)
  replace B_g2 := hid_blk B_g2 (noW_drew hW)
  clear hW
  (refine take_at 0 (some 22) rfl rfl (by kernel_rfl) (by kernel_rfl) (by kernel_rfl) (fun _ _ _ h => h) (v := ?_) (by kernel_rfl) ?_ (by assumption) ?_; rotate_left; (focus (intro wS hSw; have hX := fun b o (h : b < _) => hSw.cell (p := ⟨b, o, none⟩) h id; go_simp; try with_reducible rfl)); (try simp only [Act.put, List.setIfInBounds_toArray, List.set_cons_zero, List.set_cons_succ]))
  (refine take_at 1 (some 23) rfl rfl (by kernel_rfl) (by kernel_rfl) (by kernel_rfl) (fun _ _ _ h => h) (v := ?_) (by kernel_rfl) ?_ (by assumption) ?_; rotate_left; (focus (intro wS hSw; have hX := fun b o (h : b < _) => hSw.cell (p := ⟨b, o, none⟩) h id; go_simp; try with_reducible rfl)); (try simp only [Act.put, List.setIfInBounds_toArray, List.set_cons_zero, List.set_cons_succ]))
  (refine take_at 3 (some 25) rfl rfl (by kernel_rfl) (by kernel_rfl) (by kernel_rfl) (fun _ _ _ h => h) (v := ?_) (by kernel_rfl) ?_ (by assumption) ?_; rotate_left; (focus (intro wS hSw; have hX := fun b o (h : b < _) => hSw.cell (p := ⟨b, o, none⟩) h id; go_simp; try with_reducible rfl)); (try simp only [Act.put, List.setIfInBounds_toArray, List.set_cons_zero, List.set_cons_succ]))
  (refine take_at 4 (some 26) rfl rfl (by kernel_rfl) (by kernel_rfl) (by kernel_rfl) (fun _ _ _ h => h) (v := ?_) (by kernel_rfl) ?_ (by assumption) ?_; rotate_left; (focus (intro wS hSw; have hX := fun b o (h : b < _) => hSw.cell (p := ⟨b, o, none⟩) h id; go_simp; try with_reducible rfl)); (try simp only [Act.put, List.setIfInBounds_toArray, List.set_cons_zero, List.set_cons_succ]))
  refine wpAnyH_ready (rs := [2]) (by kernel_rfl) (by simp) ?_
  refine AllReadyH.cons rfl (fun K hK => ?_) AllReadyH.nil
  go_simp
  go_at_call 19
  refine (show Calls _ _ _ _ _ from KL.out _).mono ?_
  rintro e x9 ⟨rfl, hp⟩
  have hn := Fp.trans hHeld hp (fun _ _ h => h.elim)
  replace B_g3 := hid_blk B_g3 hp
  replace B_g2 := hid_blk B_g2 hp
  refine k_now hK hn ?_
  clear hK K hp hHeld
  have hHeld := hn
  clear hn
  try simp only [Act.put, List.setIfInBounds_toArray, List.set_cons_zero, List.set_cons_succ]
  refine wpAnyH_ready (rs := [5]) (by kernel_rfl) (by simp) ?_
  refine AllReadyH.cons rfl (fun K hK => ?_) AllReadyH.nil
  go_simp
  go_at_call 19
  refine (show Calls _ _ _ _ _ from KG.out _).mono ?_
  rintro e x10 ⟨rfl, hp⟩
  have hn := Fp.trans hHeld hp (fun _ _ h => h.elim)
  replace B_g3 := hid_blk B_g3 hp
  replace B_g2 := hid_blk B_g2 hp
  refine k_now hK hn ?_
  clear hK K hp hHeld
  have hHeld := hn
  clear hn
  try simp only [Act.put, List.setIfInBounds_toArray, List.set_cons_zero, List.set_cons_succ]
  (refine take_at 6 (some 5) rfl rfl (by kernel_rfl) (by kernel_rfl) (by kernel_rfl) (fun _ _ _ h => h) (v := ?_) (by kernel_rfl) ?_ (by assumption) ?_; rotate_left; (focus (intro wS hSw; skip; go_simp; try with_reducible rfl)); (try simp only [Act.put, List.setIfInBounds_toArray, List.set_cons_zero, List.set_cons_succ]))
  (refine take_at 7 (some 6) rfl rfl (by kernel_rfl) (by kernel_rfl) (by kernel_rfl) (fun _ _ _ h => h) (v := ?_) (by kernel_rfl) ?_ (by assumption) ?_; rotate_left; (focus (intro wS hSw; skip; go_simp; try with_reducible rfl)); (try simp only [Act.put, List.setIfInBounds_toArray, List.set_cons_zero, List.set_cons_succ]))
  refine wpAnyH_done (by kernel_rfl) ?_ _
  clear cg20 cg21 cg22 cg23 cg24 zg2 lg2 cg30 cg31 cg32 cg33 cg34 zg3 lg3
  have hGe := hid_ge HN
  replace HN := hid_now HN hHeld
  clear hHeld hGe
  have cg20 := cell_at B_g2 0 rfl
  have cg21 := cell_at B_g2 1 rfl
  have cg22 := cell_at B_g2 2 rfl
  have cg23 := cell_at B_g2 3 rfl
  have cg24 := cell_at B_g2 4 rfl
  have zg2 := froz_at B_g2
  have lg2 := hid_lt B_g2
  have cg30 := cell_at B_g3 0 rfl
  have cg31 := cell_at B_g3 1 rfl
  have cg32 := cell_at B_g3 2 rfl
  have cg33 := cell_at B_g3 3 rfl
  have cg34 := cell_at B_g3 4 rfl
  have zg3 := froz_at B_g3
  have lg3 := hid_lt B_g3
  go_wp2_with fail
  clear cg20 cg21 cg22 cg23 cg24 zg2 lg2 cg30 cg31 cg32 cg33 cg34 zg3 lg3
  refine (show Calls _ _ _ _ _ from KT.out _ (HT.out.low HN.out).toP.base).mono ?_
  rintro e x11 ⟨rfl, hp⟩
  replace HN := hid_now HN hp
  replace B_g3 := hid_blk B_g3 hp
  replace B_g2 := hid_blk B_g2 hp
  clear hp
  go_wp2_with fail
  refine (show Calls _ _ _ _ _ from KP.out _ (HT.out.low HN.out)).mono ?_
  rintro e x12 ⟨rfl, hp⟩
  replace HN := hid_now HN hp
  replace B_g3 := hid_blk B_g3 hp
  replace B_g2 := hid_blk B_g2 hp
  clear hp
  go_upto_region 7 with fail
  refine wp_gen (fun x13 hW => ?_)
  have l2g3 := hid_lt B_g3
  have l2g2 := hid_lt B_g2
  have hp := new_now hW
  have hB := new_blk hW
  clear hW
  have hGe := hid_ge HN
  replace HN := hid_now HN hp
  replace B_g3 := hid_blk B_g3 hp
  replace B_g2 := hid_blk B_g2 hp
  obtain ⟨g7, hg7⟩ : ∃ g7, g7 = x12.heap.size := ⟨_, rfl⟩
  have G_g7 := Lib.hid (Nat.le_trans hGe (Nat.le_of_eq hg7.symm))
  have n_g3_g7 : ¬ g3 = g7 := by omega
  have n_g7_g3 : ¬ g7 = g3 := by omega
  clear l2g3
  have n_g2_g7 : ¬ g2 = g7 := by omega
  have n_g7_g2 : ¬ g7 = g2 := by omega
  clear l2g2
  rw [← hg7] at hB ⊢
  have B_g7 := hB
  clear hB hGe hg7
  clear hp
  have cg20 := cell_at B_g2 0 rfl
  have cg21 := cell_at B_g2 1 rfl
  have cg22 := cell_at B_g2 2 rfl
  have cg23 := cell_at B_g2 3 rfl
  have cg24 := cell_at B_g2 4 rfl
  have zg2 := froz_at B_g2
  have lg2 := hid_lt B_g2
  go_wp2_with fail
  clear cg20 cg21 cg22 cg23 cg24 zg2 lg2
  refine (show Calls _ _ _ _ _ from KM.out _ (HT.out.low HN.out).toP.base).mono ?_
  rintro e x14 ⟨rfl, hp⟩
  replace HN := hid_now HN hp
  replace B_g3 := hid_blk B_g3 hp
  replace B_g2 := hid_blk B_g2 hp
  replace B_g7 := hid_blk B_g7 hp
  clear hp
  go_upto_region 9 with fail
  have cg20 := cell_at B_g2 0 rfl
  have cg21 := cell_at B_g2 1 rfl
  have cg22 := cell_at B_g2 2 rfl
  have cg23 := cell_at B_g2 3 rfl
  have cg24 := cell_at B_g2 4 rfl
  have zg2 := froz_at B_g2
  have lg2 := hid_lt B_g2
  have cg30 := cell_at B_g3 0 rfl
  have cg31 := cell_at B_g3 1 rfl
  have cg32 := cell_at B_g3 2 rfl
  have cg33 := cell_at B_g3 3 rfl
  have cg34 := cell_at B_g3 4 rfl
  have zg3 := froz_at B_g3
  have lg3 := hid_lt B_g3
  have cg70 := cell_at B_g7 0 rfl
  have cg71 := cell_at B_g7 1 rfl
  have cg72 := cell_at B_g7 2 rfl
  have cg73 := cell_at B_g7 3 rfl
  have cg74 := cell_at B_g7 4 rfl
  have zg7 := froz_at B_g7
  have lg7 := hid_lt B_g7
  refine wp_region_held_drew (S := fun wx => NoW x14 wx) (by kernel_rfl) (Fp.drew (Fp.refl _ _)) (fun hHeld0 => ?_)
  refine any_eq hHeld0 (fun x15 hW hHeld => ?_)
  clear hHeld0
  replace B_g3 := hid_blk B_g3 (noW_drew hW)
  replace B_g2 := hid_blk B_g2 (noW_drew hW)
  replace B_g7 := hid_blk B_g7 (noW_drew hW)
  clear hW
  (refine take_at 0 (some 63) rfl rfl (by kernel_rfl) (by kernel_rfl) (by kernel_rfl) (fun _ _ _ h => h) (v := ?_) (by kernel_rfl) ?_ (by assumption) ?_; rotate_left; (focus (intro wS hSw; have hX := fun b o (h : b < _) => hSw.cell (p := ⟨b, o, none⟩) h id; go_simp; try with_reducible rfl)); (try simp only [Act.put, List.setIfInBounds_toArray, List.set_cons_zero, List.set_cons_succ]))
  (refine take_at 1 (some 64) rfl rfl (by kernel_rfl) (by kernel_rfl) (by kernel_rfl) (fun _ _ _ h => h) (v := ?_) (by kernel_rfl) ?_ (by assumption) ?_; rotate_left; (focus (intro wS hSw; have hX := fun b o (h : b < _) => hSw.cell (p := ⟨b, o, none⟩) h id; go_simp; try with_reducible rfl)); (try simp only [Act.put, List.setIfInBounds_toArray, List.set_cons_zero, List.set_cons_succ]))
  (refine take_at 2 (some 65) rfl rfl (by kernel_rfl) (by kernel_rfl) (by kernel_rfl) (fun _ _ _ h => h) (v := ?_) (by kernel_rfl) ?_ (by assumption) ?_; rotate_left; (focus (intro wS hSw; skip; go_simp; try with_reducible rfl)); (try simp only [Act.put, List.setIfInBounds_toArray, List.set_cons_zero, List.set_cons_succ]))
  (refine take_at 3 (some 66) rfl rfl (by kernel_rfl) (by kernel_rfl) (by kernel_rfl) (fun _ _ _ h => h) (v := ?_) (by kernel_rfl) ?_ (by assumption) ?_; rotate_left; (focus (intro wS hSw; skip; go_simp; try with_reducible rfl)); (try simp only [Act.put, List.setIfInBounds_toArray, List.set_cons_zero, List.set_cons_succ]))
  (refine take_at 4 (some 67) rfl rfl (by kernel_rfl) (by kernel_rfl) (by kernel_rfl) (fun _ _ _ h => h) (v := ?_) (by kernel_rfl) ?_ (by assumption) ?_; rotate_left; (focus (intro wS hSw; skip; go_simp; try with_reducible rfl)); (try simp only [Act.put, List.setIfInBounds_toArray, List.set_cons_zero, List.set_cons_succ]))
  (refine take_at 5 (some 68) rfl rfl (by kernel_rfl) (by kernel_rfl) (by kernel_rfl) (fun _ _ _ h => h) (v := ?_) (by kernel_rfl) ?_ (by assumption) ?_; rotate_left; (focus (intro wS hSw; skip; go_simp; try with_reducible rfl)); (try simp only [Act.put, List.setIfInBounds_toArray, List.set_cons_zero, List.set_cons_succ]))
  (refine take_at 6 (some 69) rfl rfl (by kernel_rfl) (by kernel_rfl) (by kernel_rfl) (fun _ _ _ h => h) (v := ?_) (by kernel_rfl) ?_ (by assumption) ?_; rotate_left; (focus (intro wS hSw; skip; go_simp; try with_reducible rfl)); (try simp only [Act.put, List.setIfInBounds_toArray, List.set_cons_zero, List.set_cons_succ]))
  (refine take_at 7 (some 70) rfl rfl (by kernel_rfl) (by kernel_rfl) (by kernel_rfl) (fun _ _ _ h => h) (v := ?_) (by kernel_rfl) ?_ (by assumption) ?_; rotate_left; (focus (intro wS hSw; skip; go_simp; try with_reducible rfl)); (try simp only [Act.put, List.setIfInBounds_toArray, List.set_cons_zero, List.set_cons_succ]))
  (refine take_at 8 (some 71) rfl rfl (by kernel_rfl) (by kernel_rfl) (by kernel_rfl) (fun _ _ _ h => h) (v := ?_) (by kernel_rfl) ?_ (by assumption) ?_; rotate_left; (focus (intro wS hSw; have hX := fun b o (h : b < _) => hSw.cell (p := ⟨b, o, none⟩) h id; go_simp; try with_reducible rfl)); (try simp only [Act.put, List.setIfInBounds_toArray, List.set_cons_zero, List.set_cons_succ]))
  refine wpAnyH_ready (rs := [9]) (by kernel_rfl) (by simp) ?_
  refine AllReadyH.cons rfl (fun K hK => ?_) AllReadyH.nil
  go_simp
  go_at_call 12
  refine (show Calls _ _ _ _ _ from KN.out _ (HT.out.low (HN.out.trans hHeld (fun _ _ h => h.elim))).toP.base).mono ?_
  rintro e x16 ⟨rfl, hp⟩
  have hn := Fp.trans hHeld hp (fun _ _ h => h.elim)
  replace B_g3 := hid_blk B_g3 hp
  replace B_g2 := hid_blk B_g2 hp
  replace B_g7 := hid_blk B_g7 hp
  refine k_now hK hn ?_
  clear hK K hp hHeld
  have hHeld := hn
  clear hn
  try simp only [Act.put, List.setIfInBounds_toArray, List.set_cons_zero, List.set_cons_succ]
  (refine take_at 10 (some 73) rfl rfl (by kernel_rfl) (by kernel_rfl) (by kernel_rfl) (fun _ _ _ h => h) (v := ?_) (by kernel_rfl) ?_ (by assumption) ?_; rotate_left; (focus (intro wS hSw; skip; go_simp; try with_reducible rfl)); (try simp only [Act.put, List.setIfInBounds_toArray, List.set_cons_zero, List.set_cons_succ]))
  (refine take_at 11 (some 74) rfl rfl (by kernel_rfl) (by kernel_rfl) (by kernel_rfl) (fun _ _ _ h => h) (v := ?_) (by kernel_rfl) ?_ (by assumption) ?_; rotate_left; (focus (intro wS hSw; skip; go_simp; try with_reducible rfl)); (try simp only [Act.put, List.setIfInBounds_toArray, List.set_cons_zero, List.set_cons_succ]))
  (refine take_at 12 (some 75) rfl rfl (by kernel_rfl) (by kernel_rfl) (by kernel_rfl) (fun _ _ _ h => h) (v := ?_) (by kernel_rfl) ?_ (by assumption) ?_; rotate_left; (focus (intro wS hSw; have hX := fun b o (h : b < _) => hSw.cell (p := ⟨b, o, none⟩) h id; go_simp; try with_reducible rfl)); (try simp only [Act.put, List.setIfInBounds_toArray, List.set_cons_zero, List.set_cons_succ]))
  (refine take_at 14 (some 77) rfl rfl (by kernel_rfl) (by kernel_rfl) (by kernel_rfl) (fun _ _ _ h => h) (v := ?_) (by kernel_rfl) ?_ (by assumption) ?_; rotate_left; (focus (intro wS hSw; have hX := fun b o (h : b < _) => hSw.cell (p := ⟨b, o, none⟩) h id; go_simp; try with_reducible rfl)); (try simp only [Act.put, List.setIfInBounds_toArray, List.set_cons_zero, List.set_cons_succ]))
  (refine take_at 17 (some 80) rfl rfl (by kernel_rfl) (by kernel_rfl) (by kernel_rfl) (fun _ _ _ h => h) (v := ?_) (by kernel_rfl) ?_ (by assumption) ?_; rotate_left; (focus (intro wS hSw; have hX := fun b o (h : b < _) => hSw.cell (p := ⟨b, o, none⟩) h id; go_simp; try with_reducible rfl)); (try simp only [Act.put, List.setIfInBounds_toArray, List.set_cons_zero, List.set_cons_succ]))
  (refine take_at 18 (some 81) rfl rfl (by kernel_rfl) (by kernel_rfl) (by kernel_rfl) (fun _ _ _ h => h) (v := ?_) (by kernel_rfl) ?_ (by assumption) ?_; rotate_left; (focus (intro wS hSw; have hX := fun b o (h : b < _) => hSw.cell (p := ⟨b, o, none⟩) h id; go_simp; try with_reducible rfl)); (try simp only [Act.put, List.setIfInBounds_toArray, List.set_cons_zero, List.set_cons_succ]))
  (refine take_at 19 (some 82) rfl rfl (by kernel_rfl) (by kernel_rfl) (by kernel_rfl) (fun _ _ _ h => h) (v := ?_) (by kernel_rfl) ?_ (by assumption) ?_; rotate_left; (focus (intro wS hSw; skip; go_simp; try with_reducible rfl)); (try simp only [Act.put, List.setIfInBounds_toArray, List.set_cons_zero, List.set_cons_succ]))
  refine wpAnyH_ready (rs := [13]) (by kernel_rfl) (by simp) ?_
  refine AllReadyH.cons rfl (fun K hK => ?_) AllReadyH.nil
  go_simp
  go_at_call 14
  refine (show Calls _ _ _ _ _ from KT.out _ (HT.out.low (HN.out.trans hHeld (fun _ _ h => h.elim))).toP.base).mono ?_
  rintro e x17 ⟨rfl, hp⟩
  have hn := Fp.trans hHeld hp (fun _ _ h => h.elim)
  replace B_g3 := hid_blk B_g3 hp
  replace B_g2 := hid_blk B_g2 hp
  replace B_g7 := hid_blk B_g7 hp
  refine k_now hK hn ?_
  clear hK K hp hHeld
  have hHeld := hn
  clear hn
  try simp only [Act.put, List.setIfInBounds_toArray, List.set_cons_zero, List.set_cons_succ]
  refine wpAnyH_ready (rs := [15]) (by kernel_rfl) (by simp) ?_
  refine AllReadyH.cons rfl (fun K hK => ?_) AllReadyH.nil
  go_simp
  go_at_call 14
  refine (show Calls _ _ _ _ _ from KU.out _ (HT.out.low (HN.out.trans hHeld (fun _ _ h => h.elim))).toP.base).mono ?_
  rintro e x18 ⟨rfl, hp⟩
  have hn := Fp.trans hHeld hp (fun _ _ h => h.elim)
  replace B_g3 := hid_blk B_g3 hp
  replace B_g2 := hid_blk B_g2 hp
  replace B_g7 := hid_blk B_g7 hp
  refine k_now hK hn ?_
  clear hK K hp hHeld
  have hHeld := hn
  clear hn
  try simp only [Act.put, List.setIfInBounds_toArray, List.set_cons_zero, List.set_cons_succ]
  (refine take_at 16 (some 79) rfl rfl (by kernel_rfl) (by kernel_rfl) (by kernel_rfl) (fun _ _ _ h => h) (v := ?_) (by kernel_rfl) ?_ (by assumption) ?_; rotate_left; (focus (intro wS hSw; skip; go_simp; try with_reducible rfl)); (try simp only [Act.put, List.setIfInBounds_toArray, List.set_cons_zero, List.set_cons_succ]))
  (refine take_at 20 (some 83) rfl rfl (by kernel_rfl) (by kernel_rfl) (by kernel_rfl) (fun _ _ _ h => h) (v := ?_) (by kernel_rfl) ?_ (by assumption) ?_; rotate_left; (focus (intro wS hSw; skip; go_simp; try with_reducible rfl)); (try simp only [Act.put, List.setIfInBounds_toArray, List.set_cons_zero, List.set_cons_succ]))
  (refine take_at 21 (some 84) rfl rfl (by kernel_rfl) (by kernel_rfl) (by kernel_rfl) (fun _ _ _ h => h) (v := ?_) (by kernel_rfl) ?_ (by assumption) ?_; rotate_left; (focus (intro wS hSw; skip; go_simp; try with_reducible rfl)); (try simp only [Act.put, List.setIfInBounds_toArray, List.set_cons_zero, List.set_cons_succ]))
  (refine take_at 22 (some 85) rfl rfl (by kernel_rfl) (by kernel_rfl) (by kernel_rfl) (fun _ _ _ h => h) (v := ?_) (by kernel_rfl) ?_ (by assumption) ?_; rotate_left; (focus (intro wS hSw; skip; go_simp; try with_reducible rfl)); (try simp only [Act.put, List.setIfInBounds_toArray, List.set_cons_zero, List.set_cons_succ]))
  (refine take_at 23 (some 86) rfl rfl (by kernel_rfl) (by kernel_rfl) (by kernel_rfl) (fun _ _ _ h => h) (v := ?_) (by kernel_rfl) ?_ (by assumption) ?_; rotate_left; (focus (intro wS hSw; skip; go_simp; try with_reducible rfl)); (try simp only [Act.put, List.setIfInBounds_toArray, List.set_cons_zero, List.set_cons_succ]))
  refine wpAnyH_ready (rs := [24]) (by kernel_rfl) (by simp) ?_
  refine AllReadyH.cons rfl (fun K hK => ?_) AllReadyH.nil
  go_simp
  go_at_call 9
  refine (show Calls _ _ _ _ _ from watched_ok _ (HT.out.low (HN.out.trans hHeld (fun _ _ h => h.elim)))).mono ?_
  rintro e x19 ⟨rfl, hp⟩
  have hn := Fp.trans hHeld hp (fun _ _ h => h.elim)
  replace B_g3 := hid_blk B_g3 hp
  replace B_g2 := hid_blk B_g2 hp
  replace B_g7 := hid_blk B_g7 hp
  refine k_now hK hn ?_
  clear hK K hp hHeld
  have hHeld := hn
  clear hn
  try simp only [Act.put, List.setIfInBounds_toArray, List.set_cons_zero, List.set_cons_succ]
  (refine take_at 25 (some 88) rfl rfl (by kernel_rfl) (by kernel_rfl) (by kernel_rfl) (fun _ _ _ h => h) (v := ?_) (by kernel_rfl) ?_ (by assumption) ?_; rotate_left; (focus (intro wS hSw; skip; go_simp; try with_reducible rfl)); (try simp only [Act.put, List.setIfInBounds_toArray, List.set_cons_zero, List.set_cons_succ]))
  (refine take_at 26 (some 4) rfl rfl (by kernel_rfl) (by kernel_rfl) (by kernel_rfl) (fun _ _ _ h => h) (v := ?_) (by kernel_rfl) ?_ (by assumption) ?_; rotate_left; (focus (intro wS hSw; skip; go_simp; try with_reducible rfl)); (try simp only [Act.put, List.setIfInBounds_toArray, List.set_cons_zero, List.set_cons_succ]))
  refine wpAnyH_done (by kernel_rfl) ?_ _
  clear cg20 cg21 cg22 cg23 cg24 zg2 lg2 cg30 cg31 cg32 cg33 cg34 zg3 lg3 cg70 cg71 cg72 cg73 cg74 zg7 lg7
  have hGe := hid_ge HN
  replace HN := hid_now HN hHeld
  clear hHeld hGe
  go_wp2_with fail
  go_ret
  exact ⟨rfl, HN.out⟩
set_option maxHeartbeats 8000000 in
set_option maxRecDepth 100000 in
theorem tb_eq0 (k a p b q : Nat) (hk : k < 256) (ha : a < 4294967296) (hp : p < 65536) (hb : b < 4294967296) (hq : q < 65536) (h1 : tupB k p q = false) (w : World) (ht : TbQ w) : Calls Tryz.prog 7 #[.agg #[.int .u8 (k : Nat), .int .u32 (a : Nat), .int .u16 (p : Nat), .int .u32 (b : Nat), .int .u16 (q : Nat)], .agg #[.int .u8 (k : Nat), .int .u32 (a : Nat), .int .u16 (p : Nat), .int .u32 (b : Nat), .int .u16 (q : Nat)]] w (Ret1 (.bool true) w) := by
  have KB := Lib.hid (fun W => back_ok k a p b q W)
  have KB2 := Lib.hid (fun W => back_ok k b q a p W)
  have KM := Lib.hid (fun W hW => tup_ok k a p b q hk W hW)
  have KM2 := Lib.hid (fun W hW => tup_ok k b q a p hk W hW)
  have KN := Lib.hid (fun W hW => tup_ok k a p b q hk W hW)
  have KL := Lib.hid (fun W => tless_ok k a p b q k a p b q ha hp hb hq ha hp hb hq W)
  have KG := Lib.hid (fun W => tless_ok k a p b q k a p b q ha hp hb hq ha hp hb hq W)
  have KT := Lib.hid (fun W hW => text_any k a p b q hk ha hp hb hq W hW)
  have KU := Lib.hid (fun W hW => text_any k a p b q hk ha hp hb hq W hW)
  have hl := tupX_len k a p b q ha hp hb hq
  have KP := Lib.hid (fun W hW => tup_parse (tupX k a p b q) (by omega) W hW)
  rw [tupX_of k a p b q ha hp hb hq, h1] at KP
  rw [tupB_sym k q p, h1] at KM2
  rw [h1] at KM
  rw [h1] at KN
  have ln : ¬ tkey k a p b q < tkey k a p b q := Nat.lt_irrefl _
  rw [decide_eq_false ln] at KL KG
  have e1 : ∀ W, (binOp .eql 29 (.agg #[.int .u8 (k : Nat), .int .u32 (a : Nat), .int .u16 (p : Nat), .int .u32 (b : Nat), .int .u16 (q : Nat)]) (.agg #[.int .u8 (k : Nat), .int .u32 (a : Nat), .int .u16 (p : Nat), .int .u32 (b : Nat), .int .u16 (q : Nat)])).run Tryz.prog W = .ok (.bool true) W := fun W => by rw [tup_eq2]; simp []
  have e3 : ∀ W, (binOp .neq 29 (.agg #[.int .u8 (k : Nat), .int .u32 (a : Nat), .int .u16 (p : Nat), .int .u32 (b : Nat), .int .u16 (q : Nat)]) (.agg #[.int .u8 (k : Nat), .int .u32 (a : Nat), .int .u16 (p : Nat), .int .u32 (b : Nat), .int .u16 (q : Nat)])).run Tryz.prog W = .ok (.bool false) W := fun W => by rw [tup_neq2]; simp
  have hx : tupX k a p b q = [] := if_neg (by rw [h1]; decide)
  rw [hx] at KT KP
  clear hx
  clear hl
  skip
  unfold tupRV at KP
  simp only [if_true, if_false, Bool.false_eq_true] at KP
  clear h1
  go_enter Tryz.func7, Tryz.ntmps7
  go_upto_region 1 with fail
  have HN := Lib.hid (Fp.refl (fun _ => False) w)
  have HT := Lib.hid ht
  refine wp_gen (fun x1 hW => ?_)
  obtain ⟨hB, hB2, hp⟩ := new2_blk hW
  clear hW
  have hGe := hid_ge HN
  have hGe2 := Nat.le_succ_of_le hGe
  replace HN := hid_now HN hp
  change w.heap.size ≤ w.heap.size + 1 at hGe2
  obtain ⟨g3, hg3⟩ : ∃ g3, g3 = w.heap.size + 1 := ⟨_, rfl⟩
  have G_g3 := Lib.hid (Nat.le_trans hGe2 (Nat.le_of_eq hg3.symm))
  rw [← hg3] at hB2 ⊢
  have B_g3 := hB2
  clear hB2 hGe2 hg3
  obtain ⟨g2, hg2⟩ : ∃ g2, g2 = w.heap.size := ⟨_, rfl⟩
  have G_g2 := Lib.hid (Nat.le_trans hGe (Nat.le_of_eq hg2.symm))
  rw [← hg2] at hB ⊢
  have B_g2 := hB
  clear hB hGe hg2
  skip
  clear hp
  have cg20 := cell_at B_g2 0 rfl
  have cg21 := cell_at B_g2 1 rfl
  have cg22 := cell_at B_g2 2 rfl
  have cg23 := cell_at B_g2 3 rfl
  have cg24 := cell_at B_g2 4 rfl
  have zg2 := froz_at B_g2
  have lg2 := hid_lt B_g2
  have cg30 := cell_at B_g3 0 rfl
  have cg31 := cell_at B_g3 1 rfl
  have cg32 := cell_at B_g3 2 rfl
  have cg33 := cell_at B_g3 3 rfl
  have cg34 := cell_at B_g3 4 rfl
  have zg3 := froz_at B_g3
  have lg3 := hid_lt B_g3
  refine wp_region_held_drew (S := fun wx => NoW x1 wx) (by kernel_rfl) (Fp.drew (Fp.refl _ _)) (fun hHeld0 => ?_)
  refine any_eq hHeld0 (fun x2 hW hHeld => ?_)
  clear hHeld0
  replace B_g3 := hid_blk B_g3 (noW_drew hW)
  replace B_g2 := hid_blk B_g2 (noW_drew hW)
  clear hW
  (refine take_at 0 (some 9) rfl rfl (by kernel_rfl) (by kernel_rfl) (by kernel_rfl) (fun _ _ _ h => h) (v := ?_) (by kernel_rfl) ?_ (by assumption) ?_; rotate_left; (focus (intro wS hSw; have hX := fun b o (h : b < _) => hSw.cell (p := ⟨b, o, none⟩) h id; go_simp; try with_reducible rfl)); (try simp only [Act.put, List.setIfInBounds_toArray, List.set_cons_zero, List.set_cons_succ]))
  (refine take_at 3 (some 12) rfl rfl (by kernel_rfl) (by kernel_rfl) (by kernel_rfl) (fun _ _ _ h => h) (v := ?_) (by kernel_rfl) ?_ (by assumption) ?_; rotate_left; (focus (intro wS hSw; have hX := fun b o (h : b < _) => hSw.cell (p := ⟨b, o, none⟩) h id; go_simp; try with_reducible rfl)); (try simp only [Act.put, List.setIfInBounds_toArray, List.set_cons_zero, List.set_cons_succ]))
  refine wpAnyH_ready (rs := [1]) (by kernel_rfl) (by simp) ?_
  refine AllReadyH.cons rfl (fun K hK => ?_) AllReadyH.nil
  go_simp
  go_at_call 16
  refine (show Calls _ _ _ _ _ from KB.out _).mono ?_
  rintro e x3 ⟨rfl, hp⟩
  have hn := Fp.trans hHeld hp (fun _ _ h => h.elim)
  replace B_g3 := hid_blk B_g3 hp
  replace B_g2 := hid_blk B_g2 hp
  refine k_now hK hn ?_
  clear hK K hp hHeld
  have hHeld := hn
  clear hn
  try simp only [Act.put, List.setIfInBounds_toArray, List.set_cons_zero, List.set_cons_succ]
  refine wpAnyH_ready (rs := [2]) (by kernel_rfl) (by simp) ?_
  refine AllReadyH.cons rfl (fun K hK => ?_) AllReadyH.nil
  go_simp
  go_at_call 16
  refine (show Calls _ _ _ _ _ from KB2.out _).mono ?_
  rintro e x4 ⟨rfl, hp⟩
  have hn := Fp.trans hHeld hp (fun _ _ h => h.elim)
  replace B_g3 := hid_blk B_g3 hp
  replace B_g2 := hid_blk B_g2 hp
  refine k_now hK hn ?_
  clear hK K hp hHeld
  have hHeld := hn
  clear hn
  try simp only [Act.put, List.setIfInBounds_toArray, List.set_cons_zero, List.set_cons_succ]
  (refine take_at 4 (some 13) rfl rfl (by kernel_rfl) (by kernel_rfl) (by kernel_rfl) (fun _ _ _ h => h) (v := ?_) (by kernel_rfl) ?_ (by assumption) ?_; rotate_left; (focus (intro wS hSw; skip; go_simp; try with_reducible rfl)); (try simp only [Act.put, List.setIfInBounds_toArray, List.set_cons_zero, List.set_cons_succ]))
  (refine take_at 5 (some 14) rfl rfl (by kernel_rfl) (by kernel_rfl) (by kernel_rfl) (fun _ _ _ h => h) (v := ?_) (by kernel_rfl) ?_ (by assumption) ?_; rotate_left; (focus (intro wS hSw; skip; go_simp; try with_reducible rfl)); (try simp only [Act.put, List.setIfInBounds_toArray, List.set_cons_zero, List.set_cons_succ]))
  (refine take_at 6 (some 15) rfl rfl (by kernel_rfl) (by kernel_rfl) (by kernel_rfl) (fun _ _ _ h => h) (v := ?_) (by kernel_rfl) ?_ (by assumption) ?_; rotate_left; (focus (intro wS hSw; have hX := fun b o (h : b < _) => hSw.cell (p := ⟨b, o, none⟩) h id; go_simp; try with_reducible rfl)); (try simp only [Act.put, List.setIfInBounds_toArray, List.set_cons_zero, List.set_cons_succ]))
  (refine take_at 9 (some 18) rfl rfl (by kernel_rfl) (by kernel_rfl) (by kernel_rfl) (fun _ _ _ h => h) (v := ?_) (by kernel_rfl) ?_ (by assumption) ?_; rotate_left; (focus (intro wS hSw; have hX := fun b o (h : b < _) => hSw.cell (p := ⟨b, o, none⟩) h id; go_simp; try with_reducible rfl)); (try simp only [Act.put, List.setIfInBounds_toArray, List.set_cons_zero, List.set_cons_succ]))
  refine wpAnyH_ready (rs := [7]) (by kernel_rfl) (by simp) ?_
  refine AllReadyH.cons rfl (fun K hK => ?_) AllReadyH.nil
  go_simp
  go_at_call 16
  refine (show Calls _ _ _ _ _ from KB.out _).mono ?_
  rintro e x5 ⟨rfl, hp⟩
  have hn := Fp.trans hHeld hp (fun _ _ h => h.elim)
  replace B_g3 := hid_blk B_g3 hp
  replace B_g2 := hid_blk B_g2 hp
  refine k_now hK hn ?_
  clear hK K hp hHeld
  have hHeld := hn
  clear hn
  try simp only [Act.put, List.setIfInBounds_toArray, List.set_cons_zero, List.set_cons_succ]
  refine wpAnyH_ready (rs := [8]) (by kernel_rfl) (by simp) ?_
  refine AllReadyH.cons rfl (fun K hK => ?_) AllReadyH.nil
  go_simp
  go_at_call 12
  refine (show Calls _ _ _ _ _ from KM2.out _ (HT.out.low (HN.out.trans hHeld (fun _ _ h => h.elim))).toP.base).mono ?_
  rintro e x6 ⟨rfl, hp⟩
  have hn := Fp.trans hHeld hp (fun _ _ h => h.elim)
  replace B_g3 := hid_blk B_g3 hp
  replace B_g2 := hid_blk B_g2 hp
  refine k_now hK hn ?_
  clear hK K hp hHeld
  have hHeld := hn
  clear hn
  try simp only [Act.put, List.setIfInBounds_toArray, List.set_cons_zero, List.set_cons_succ]
  refine wpAnyH_ready (rs := [10]) (by kernel_rfl) (by simp) ?_
  refine AllReadyH.cons rfl (fun K hK => ?_) AllReadyH.nil
  go_simp
  go_at_call 12
  refine (show Calls _ _ _ _ _ from KM.out _ (HT.out.low (HN.out.trans hHeld (fun _ _ h => h.elim))).toP.base).mono ?_
  rintro e x7 ⟨rfl, hp⟩
  have hn := Fp.trans hHeld hp (fun _ _ h => h.elim)
  replace B_g3 := hid_blk B_g3 hp
  replace B_g2 := hid_blk B_g2 hp
  refine k_now hK hn ?_
  clear hK K hp hHeld
  have hHeld := hn
  clear hn
  try simp only [Act.put, List.setIfInBounds_toArray, List.set_cons_zero, List.set_cons_succ]
  (refine take_at 11 (some 20) rfl rfl (by kernel_rfl) (by kernel_rfl) (by kernel_rfl) (fun _ _ _ h => h) (v := ?_) (by kernel_rfl) ?_ (by assumption) ?_; rotate_left; (focus (intro wS hSw; skip; go_simp; try with_reducible rfl)); (try simp only [Act.put, List.setIfInBounds_toArray, List.set_cons_zero, List.set_cons_succ]))
  (refine take_at 12 (some 21) rfl rfl (by kernel_rfl) (by kernel_rfl) (by kernel_rfl) (fun _ _ _ h => h) (v := ?_) (by kernel_rfl) ?_ (by assumption) ?_; rotate_left; (focus (intro wS hSw; skip; go_simp; try with_reducible rfl)); (try simp only [Act.put, List.setIfInBounds_toArray, List.set_cons_zero, List.set_cons_succ]))
  refine wpAnyH_done (by kernel_rfl) ?_ _
  clear cg20 cg21 cg22 cg23 cg24 zg2 lg2 cg30 cg31 cg32 cg33 cg34 zg3 lg3
  have hGe := hid_ge HN
  replace HN := hid_now HN hHeld
  clear hHeld hGe
  go_upto_region 3 with fail
  have cg20 := cell_at B_g2 0 rfl
  have cg21 := cell_at B_g2 1 rfl
  have cg22 := cell_at B_g2 2 rfl
  have cg23 := cell_at B_g2 3 rfl
  have cg24 := cell_at B_g2 4 rfl
  have zg2 := froz_at B_g2
  have lg2 := hid_lt B_g2
  have cg30 := cell_at B_g3 0 rfl
  have cg31 := cell_at B_g3 1 rfl
  have cg32 := cell_at B_g3 2 rfl
  have cg33 := cell_at B_g3 3 rfl
  have cg34 := cell_at B_g3 4 rfl
  have zg3 := froz_at B_g3
  have lg3 := hid_lt B_g3
  refine wp_region_held_drew (S := fun wx => NoW x7 wx) (by kernel_rfl) (Fp.drew (Fp.refl _ _)) (fun hHeld0 => ?_)
  refine any_eq hHeld0 (fun x8 hW hHeld => ?_)
  clear hHeld0
  replace B_g3 := hid_blk B_g3 (noW_drew hW)
  replace B_g2 := hid_blk B_g2 (noW_drew hW)
  clear hW
  (refine take_at 0 (some 22) rfl rfl (by kernel_rfl) (by kernel_rfl) (by kernel_rfl) (fun _ _ _ h => h) (v := ?_) (by kernel_rfl) ?_ (by assumption) ?_; rotate_left; (focus (intro wS hSw; have hX := fun b o (h : b < _) => hSw.cell (p := ⟨b, o, none⟩) h id; go_simp; try with_reducible rfl)); (try simp only [Act.put, List.setIfInBounds_toArray, List.set_cons_zero, List.set_cons_succ]))
  (refine take_at 1 (some 23) rfl rfl (by kernel_rfl) (by kernel_rfl) (by kernel_rfl) (fun _ _ _ h => h) (v := ?_) (by kernel_rfl) ?_ (by assumption) ?_; rotate_left; (focus (intro wS hSw; have hX := fun b o (h : b < _) => hSw.cell (p := ⟨b, o, none⟩) h id; go_simp; try with_reducible rfl)); (try simp only [Act.put, List.setIfInBounds_toArray, List.set_cons_zero, List.set_cons_succ]))
  (refine take_at 3 (some 25) rfl rfl (by kernel_rfl) (by kernel_rfl) (by kernel_rfl) (fun _ _ _ h => h) (v := ?_) (by kernel_rfl) ?_ (by assumption) ?_; rotate_left; (focus (intro wS hSw; have hX := fun b o (h : b < _) => hSw.cell (p := ⟨b, o, none⟩) h id; go_simp; try with_reducible rfl)); (try simp only [Act.put, List.setIfInBounds_toArray, List.set_cons_zero, List.set_cons_succ]))
  (refine take_at 4 (some 26) rfl rfl (by kernel_rfl) (by kernel_rfl) (by kernel_rfl) (fun _ _ _ h => h) (v := ?_) (by kernel_rfl) ?_ (by assumption) ?_; rotate_left; (focus (intro wS hSw; have hX := fun b o (h : b < _) => hSw.cell (p := ⟨b, o, none⟩) h id; go_simp; try with_reducible rfl)); (try simp only [Act.put, List.setIfInBounds_toArray, List.set_cons_zero, List.set_cons_succ]))
  refine wpAnyH_ready (rs := [2]) (by kernel_rfl) (by simp) ?_
  refine AllReadyH.cons rfl (fun K hK => ?_) AllReadyH.nil
  go_simp
  go_at_call 19
  refine (show Calls _ _ _ _ _ from KL.out _).mono ?_
  rintro e x9 ⟨rfl, hp⟩
  have hn := Fp.trans hHeld hp (fun _ _ h => h.elim)
  replace B_g3 := hid_blk B_g3 hp
  replace B_g2 := hid_blk B_g2 hp
  refine k_now hK hn ?_
  clear hK K hp hHeld
  have hHeld := hn
  clear hn
  try simp only [Act.put, List.setIfInBounds_toArray, List.set_cons_zero, List.set_cons_succ]
  refine wpAnyH_ready (rs := [5]) (by kernel_rfl) (by simp) ?_
  refine AllReadyH.cons rfl (fun K hK => ?_) AllReadyH.nil
  go_simp
  go_at_call 19
  refine (show Calls _ _ _ _ _ from KG.out _).mono ?_
  rintro e x10 ⟨rfl, hp⟩
  have hn := Fp.trans hHeld hp (fun _ _ h => h.elim)
  replace B_g3 := hid_blk B_g3 hp
  replace B_g2 := hid_blk B_g2 hp
  refine k_now hK hn ?_
  clear hK K hp hHeld
  have hHeld := hn
  clear hn
  try simp only [Act.put, List.setIfInBounds_toArray, List.set_cons_zero, List.set_cons_succ]
  (refine take_at 6 (some 5) rfl rfl (by kernel_rfl) (by kernel_rfl) (by kernel_rfl) (fun _ _ _ h => h) (v := ?_) (by kernel_rfl) ?_ (by assumption) ?_; rotate_left; (focus (intro wS hSw; skip; go_simp; try with_reducible rfl)); (try simp only [Act.put, List.setIfInBounds_toArray, List.set_cons_zero, List.set_cons_succ]))
  (refine take_at 7 (some 6) rfl rfl (by kernel_rfl) (by kernel_rfl) (by kernel_rfl) (fun _ _ _ h => h) (v := ?_) (by kernel_rfl) ?_ (by assumption) ?_; rotate_left; (focus (intro wS hSw; skip; go_simp; try with_reducible rfl)); (try simp only [Act.put, List.setIfInBounds_toArray, List.set_cons_zero, List.set_cons_succ]))
  refine wpAnyH_done (by kernel_rfl) ?_ _
  clear cg20 cg21 cg22 cg23 cg24 zg2 lg2 cg30 cg31 cg32 cg33 cg34 zg3 lg3
  have hGe := hid_ge HN
  replace HN := hid_now HN hHeld
  clear hHeld hGe
  have cg20 := cell_at B_g2 0 rfl
  have cg21 := cell_at B_g2 1 rfl
  have cg22 := cell_at B_g2 2 rfl
  have cg23 := cell_at B_g2 3 rfl
  have cg24 := cell_at B_g2 4 rfl
  have zg2 := froz_at B_g2
  have lg2 := hid_lt B_g2
  have cg30 := cell_at B_g3 0 rfl
  have cg31 := cell_at B_g3 1 rfl
  have cg32 := cell_at B_g3 2 rfl
  have cg33 := cell_at B_g3 3 rfl
  have cg34 := cell_at B_g3 4 rfl
  have zg3 := froz_at B_g3
  have lg3 := hid_lt B_g3
  go_wp2_with fail
  clear cg20 cg21 cg22 cg23 cg24 zg2 lg2 cg30 cg31 cg32 cg33 cg34 zg3 lg3
  refine (show Calls _ _ _ _ _ from KT.out _ (HT.out.low HN.out).toP.base).mono ?_
  rintro e x11 ⟨rfl, hp⟩
  replace HN := hid_now HN hp
  replace B_g3 := hid_blk B_g3 hp
  replace B_g2 := hid_blk B_g2 hp
  clear hp
  go_wp2_with fail
  refine (show Calls _ _ _ _ _ from KP.out _ (HT.out.low HN.out)).mono ?_
  rintro e x12 ⟨rfl, hp⟩
  replace HN := hid_now HN hp
  replace B_g3 := hid_blk B_g3 hp
  replace B_g2 := hid_blk B_g2 hp
  clear hp
  go_upto_region 7 with fail
  refine wp_gen (fun x13 hW => ?_)
  have l2g3 := hid_lt B_g3
  have l2g2 := hid_lt B_g2
  have hp := new_now hW
  have hB := new_blk hW
  clear hW
  have hGe := hid_ge HN
  replace HN := hid_now HN hp
  replace B_g3 := hid_blk B_g3 hp
  replace B_g2 := hid_blk B_g2 hp
  obtain ⟨g7, hg7⟩ : ∃ g7, g7 = x12.heap.size := ⟨_, rfl⟩
  have G_g7 := Lib.hid (Nat.le_trans hGe (Nat.le_of_eq hg7.symm))
  have n_g3_g7 : ¬ g3 = g7 := by omega
  have n_g7_g3 : ¬ g7 = g3 := by omega
  clear l2g3
  have n_g2_g7 : ¬ g2 = g7 := by omega
  have n_g7_g2 : ¬ g7 = g2 := by omega
  clear l2g2
  rw [← hg7] at hB ⊢
  have B_g7 := hB
  clear hB hGe hg7
  clear hp
  have cg20 := cell_at B_g2 0 rfl
  have cg21 := cell_at B_g2 1 rfl
  have cg22 := cell_at B_g2 2 rfl
  have cg23 := cell_at B_g2 3 rfl
  have cg24 := cell_at B_g2 4 rfl
  have zg2 := froz_at B_g2
  have lg2 := hid_lt B_g2
  go_wp2_with fail
  clear cg20 cg21 cg22 cg23 cg24 zg2 lg2
  refine (show Calls _ _ _ _ _ from KM.out _ (HT.out.low HN.out).toP.base).mono ?_
  rintro e x14 ⟨rfl, hp⟩
  replace HN := hid_now HN hp
  replace B_g3 := hid_blk B_g3 hp
  replace B_g2 := hid_blk B_g2 hp
  replace B_g7 := hid_blk B_g7 hp
  clear hp
  have cg20 := cell_at B_g2 0 rfl
  have cg21 := cell_at B_g2 1 rfl
  have cg22 := cell_at B_g2 2 rfl
  have cg23 := cell_at B_g2 3 rfl
  have cg24 := cell_at B_g2 4 rfl
  have zg2 := froz_at B_g2
  have lg2 := hid_lt B_g2
  go_wp2_with fail
  clear cg20 cg21 cg22 cg23 cg24 zg2 lg2
  refine (show Calls _ _ _ _ _ from KT.out _ (HT.out.low HN.out).toP.base).mono ?_
  rintro e x15 ⟨rfl, hp⟩
  replace HN := hid_now HN hp
  replace B_g3 := hid_blk B_g3 hp
  replace B_g2 := hid_blk B_g2 hp
  replace B_g7 := hid_blk B_g7 hp
  clear hp
  go_wp2_with fail
  refine (show Calls _ _ _ _ _ from watched_ok _ (HT.out.low HN.out)).mono ?_
  rintro e x16 ⟨rfl, hp⟩
  replace HN := hid_now HN hp
  replace B_g3 := hid_blk B_g3 hp
  replace B_g2 := hid_blk B_g2 hp
  replace B_g7 := hid_blk B_g7 hp
  clear hp
  go_wp2_with fail
  go_ret
  exact ⟨rfl, HN.out⟩
set_option maxHeartbeats 8000000 in
set_option maxRecDepth 100000 in
theorem tb_lt00 (k a p b q : Nat) (hk : k < 256) (ha : a < 4294967296) (hp : p < 65536) (hb : b < 4294967296) (hq : q < 65536) (h1 : tupB k p q = false) (k2 a2 p2 b2 q2 : Nat) (hk2 : k2 < 256) (ha2 : a2 < 4294967296) (hp2 : p2 < 65536) (hb2 : b2 < 4294967296) (hq2 : q2 < 65536) (h2 : tupB k2 p2 q2 = false) (hne : ¬ (k = k2 ∧ a = a2 ∧ p = p2 ∧ b = b2 ∧ q = q2)) (hr : tkey k a p b q < tkey k2 a2 p2 b2 q2) (w : World) (ht : TbQ w) : Calls Tryz.prog 7 #[.agg #[.int .u8 (k : Nat), .int .u32 (a : Nat), .int .u16 (p : Nat), .int .u32 (b : Nat), .int .u16 (q : Nat)], .agg #[.int .u8 (k2 : Nat), .int .u32 (a2 : Nat), .int .u16 (p2 : Nat), .int .u32 (b2 : Nat), .int .u16 (q2 : Nat)]] w (Ret1 (.bool true) w) := by
  have KB := Lib.hid (fun W => back_ok k a p b q W)
  have KB2 := Lib.hid (fun W => back_ok k b q a p W)
  have KM := Lib.hid (fun W hW => tup_ok k a p b q hk W hW)
  have KM2 := Lib.hid (fun W hW => tup_ok k b q a p hk W hW)
  have KN := Lib.hid (fun W hW => tup_ok k2 a2 p2 b2 q2 hk2 W hW)
  have KL := Lib.hid (fun W => tless_ok k a p b q k2 a2 p2 b2 q2 ha hp hb hq ha2 hp2 hb2 hq2 W)
  have KG := Lib.hid (fun W => tless_ok k2 a2 p2 b2 q2 k a p b q ha2 hp2 hb2 hq2 ha hp hb hq W)
  have KT := Lib.hid (fun W hW => text_any k a p b q hk ha hp hb hq W hW)
  have KU := Lib.hid (fun W hW => text_any k2 a2 p2 b2 q2 hk2 ha2 hp2 hb2 hq2 W hW)
  have hl := tupX_len k a p b q ha hp hb hq
  have KP := Lib.hid (fun W hW => tup_parse (tupX k a p b q) (by omega) W hW)
  rw [tupX_of k a p b q ha hp hb hq, h1] at KP
  rw [tupB_sym k q p, h1] at KM2
  rw [h1] at KM
  rw [h2] at KN
  rw [decide_eq_true hr] at KL
  rw [decide_eq_false (Nat.lt_asymm hr)] at KG
  have e1 : ∀ W, (binOp .eql 29 (.agg #[.int .u8 (k : Nat), .int .u32 (a : Nat), .int .u16 (p : Nat), .int .u32 (b : Nat), .int .u16 (q : Nat)]) (.agg #[.int .u8 (k2 : Nat), .int .u32 (a2 : Nat), .int .u16 (p2 : Nat), .int .u32 (b2 : Nat), .int .u16 (q2 : Nat)])).run Tryz.prog W = .ok (.bool false) W := fun W => by rw [tup_eq2]; simp [hne]
  have e2 : ∀ W, (binOp .eql 29 (.agg #[.int .u8 (k : Nat), .int .u32 (a : Nat), .int .u16 (p : Nat), .int .u32 (b : Nat), .int .u16 (q : Nat)]) (.agg #[.int .u8 (k : Nat), .int .u32 (a : Nat), .int .u16 (p : Nat), .int .u32 (b : Nat), .int .u16 (q : Nat)])).run Tryz.prog W = .ok (.bool true) W := fun W => by rw [tup_eq2]; simp
  have e3 : ∀ W, (binOp .neq 29 (.agg #[.int .u8 (k : Nat), .int .u32 (a : Nat), .int .u16 (p : Nat), .int .u32 (b : Nat), .int .u16 (q : Nat)]) (.agg #[.int .u8 (k : Nat), .int .u32 (a : Nat), .int .u16 (p : Nat), .int .u32 (b : Nat), .int .u16 (q : Nat)])).run Tryz.prog W = .ok (.bool false) W := fun W => by rw [tup_neq2]; simp
  have hx : tupX k a p b q = [] := if_neg (by rw [h1]; decide)
  rw [hx] at KT KP
  clear hx
  clear hl
  skip
  unfold tupRV at KP
  simp only [if_true, if_false, Bool.false_eq_true] at KP
  clear h1 h2 hne hr
  go_enter Tryz.func7, Tryz.ntmps7
  go_upto_region 1 with fail
  have HN := Lib.hid (Fp.refl (fun _ => False) w)
  have HT := Lib.hid ht
  refine wp_gen (fun x1 hW => ?_)
  obtain ⟨hB, hB2, hp⟩ := new2_blk hW
  clear hW
  have hGe := hid_ge HN
  have hGe2 := Nat.le_succ_of_le hGe
  replace HN := hid_now HN hp
  change w.heap.size ≤ w.heap.size + 1 at hGe2
  obtain ⟨g3, hg3⟩ : ∃ g3, g3 = w.heap.size + 1 := ⟨_, rfl⟩
  have G_g3 := Lib.hid (Nat.le_trans hGe2 (Nat.le_of_eq hg3.symm))
  rw [← hg3] at hB2 ⊢
  have B_g3 := hB2
  clear hB2 hGe2 hg3
  obtain ⟨g2, hg2⟩ : ∃ g2, g2 = w.heap.size := ⟨_, rfl⟩
  have G_g2 := Lib.hid (Nat.le_trans hGe (Nat.le_of_eq hg2.symm))
  rw [← hg2] at hB ⊢
  have B_g2 := hB
  clear hB hGe hg2
  skip
  clear hp
  have cg20 := cell_at B_g2 0 rfl
  have cg21 := cell_at B_g2 1 rfl
  have cg22 := cell_at B_g2 2 rfl
  have cg23 := cell_at B_g2 3 rfl
  have cg24 := cell_at B_g2 4 rfl
  have zg2 := froz_at B_g2
  have lg2 := hid_lt B_g2
  have cg30 := cell_at B_g3 0 rfl
  have cg31 := cell_at B_g3 1 rfl
  have cg32 := cell_at B_g3 2 rfl
  have cg33 := cell_at B_g3 3 rfl
  have cg34 := cell_at B_g3 4 rfl
  have zg3 := froz_at B_g3
  have lg3 := hid_lt B_g3
  refine wp_region_held_drew (S := fun wx => NoW x1 wx) (by kernel_rfl) (Fp.drew (Fp.refl _ _)) (fun hHeld0 => ?_)
  refine any_eq hHeld0 (fun x2 hW hHeld => ?_)
  clear hHeld0
  replace B_g3 := hid_blk B_g3 (noW_drew hW)
  replace B_g2 := hid_blk B_g2 (noW_drew hW)
  clear hW
  (refine take_at 0 (some 9) rfl rfl (by kernel_rfl) (by kernel_rfl) (by kernel_rfl) (fun _ _ _ h => h) (v := ?_) (by kernel_rfl) ?_ (by assumption) ?_; rotate_left; (focus (intro wS hSw; have hX := fun b o (h : b < _) => hSw.cell (p := ⟨b, o, none⟩) h id; go_simp; try with_reducible rfl)); (try simp only [Act.put, List.setIfInBounds_toArray, List.set_cons_zero, List.set_cons_succ]))
  (refine take_at 3 (some 12) rfl rfl (by kernel_rfl) (by kernel_rfl) (by kernel_rfl) (fun _ _ _ h => h) (v := ?_) (by kernel_rfl) ?_ (by assumption) ?_; rotate_left; (focus (intro wS hSw; have hX := fun b o (h : b < _) => hSw.cell (p := ⟨b, o, none⟩) h id; go_simp; try with_reducible rfl)); (try simp only [Act.put, List.setIfInBounds_toArray, List.set_cons_zero, List.set_cons_succ]))
  refine wpAnyH_ready (rs := [1]) (by kernel_rfl) (by simp) ?_
  refine AllReadyH.cons rfl (fun K hK => ?_) AllReadyH.nil
  go_simp
  go_at_call 16
  refine (show Calls _ _ _ _ _ from KB.out _).mono ?_
  rintro e x3 ⟨rfl, hp⟩
  have hn := Fp.trans hHeld hp (fun _ _ h => h.elim)
  replace B_g3 := hid_blk B_g3 hp
  replace B_g2 := hid_blk B_g2 hp
  refine k_now hK hn ?_
  clear hK K hp hHeld
  have hHeld := hn
  clear hn
  try simp only [Act.put, List.setIfInBounds_toArray, List.set_cons_zero, List.set_cons_succ]
  refine wpAnyH_ready (rs := [2]) (by kernel_rfl) (by simp) ?_
  refine AllReadyH.cons rfl (fun K hK => ?_) AllReadyH.nil
  go_simp
  go_at_call 16
  refine (show Calls _ _ _ _ _ from KB2.out _).mono ?_
  rintro e x4 ⟨rfl, hp⟩
  have hn := Fp.trans hHeld hp (fun _ _ h => h.elim)
  replace B_g3 := hid_blk B_g3 hp
  replace B_g2 := hid_blk B_g2 hp
  refine k_now hK hn ?_
  clear hK K hp hHeld
  have hHeld := hn
  clear hn
  try simp only [Act.put, List.setIfInBounds_toArray, List.set_cons_zero, List.set_cons_succ]
  (refine take_at 4 (some 13) rfl rfl (by kernel_rfl) (by kernel_rfl) (by kernel_rfl) (fun _ _ _ h => h) (v := ?_) (by kernel_rfl) ?_ (by assumption) ?_; rotate_left; (focus (intro wS hSw; skip; go_simp; try with_reducible rfl)); (try simp only [Act.put, List.setIfInBounds_toArray, List.set_cons_zero, List.set_cons_succ]))
  (refine take_at 5 (some 14) rfl rfl (by kernel_rfl) (by kernel_rfl) (by kernel_rfl) (fun _ _ _ h => h) (v := ?_) (by kernel_rfl) ?_ (by assumption) ?_; rotate_left; (focus (intro wS hSw; skip; go_simp; try with_reducible rfl)); (try simp only [Act.put, List.setIfInBounds_toArray, List.set_cons_zero, List.set_cons_succ]))
  (refine take_at 6 (some 15) rfl rfl (by kernel_rfl) (by kernel_rfl) (by kernel_rfl) (fun _ _ _ h => h) (v := ?_) (by kernel_rfl) ?_ (by assumption) ?_; rotate_left; (focus (intro wS hSw; have hX := fun b o (h : b < _) => hSw.cell (p := ⟨b, o, none⟩) h id; go_simp; try with_reducible rfl)); (try simp only [Act.put, List.setIfInBounds_toArray, List.set_cons_zero, List.set_cons_succ]))
  (refine take_at 9 (some 18) rfl rfl (by kernel_rfl) (by kernel_rfl) (by kernel_rfl) (fun _ _ _ h => h) (v := ?_) (by kernel_rfl) ?_ (by assumption) ?_; rotate_left; (focus (intro wS hSw; have hX := fun b o (h : b < _) => hSw.cell (p := ⟨b, o, none⟩) h id; go_simp; try with_reducible rfl)); (try simp only [Act.put, List.setIfInBounds_toArray, List.set_cons_zero, List.set_cons_succ]))
  refine wpAnyH_ready (rs := [7]) (by kernel_rfl) (by simp) ?_
  refine AllReadyH.cons rfl (fun K hK => ?_) AllReadyH.nil
  go_simp
  go_at_call 16
  refine (show Calls _ _ _ _ _ from KB.out _).mono ?_
  rintro e x5 ⟨rfl, hp⟩
  have hn := Fp.trans hHeld hp (fun _ _ h => h.elim)
  replace B_g3 := hid_blk B_g3 hp
  replace B_g2 := hid_blk B_g2 hp
  refine k_now hK hn ?_
  clear hK K hp hHeld
  have hHeld := hn
  clear hn
  try simp only [Act.put, List.setIfInBounds_toArray, List.set_cons_zero, List.set_cons_succ]
  refine wpAnyH_ready (rs := [8]) (by kernel_rfl) (by simp) ?_
  refine AllReadyH.cons rfl (fun K hK => ?_) AllReadyH.nil
  go_simp
  go_at_call 12
  refine (show Calls _ _ _ _ _ from KM2.out _ (HT.out.low (HN.out.trans hHeld (fun _ _ h => h.elim))).toP.base).mono ?_
  rintro e x6 ⟨rfl, hp⟩
  have hn := Fp.trans hHeld hp (fun _ _ h => h.elim)
  replace B_g3 := hid_blk B_g3 hp
  replace B_g2 := hid_blk B_g2 hp
  refine k_now hK hn ?_
  clear hK K hp hHeld
  have hHeld := hn
  clear hn
  try simp only [Act.put, List.setIfInBounds_toArray, List.set_cons_zero, List.set_cons_succ]
  refine wpAnyH_ready (rs := [10]) (by kernel_rfl) (by simp) ?_
  refine AllReadyH.cons rfl (fun K hK => ?_) AllReadyH.nil
  go_simp
  go_at_call 12
  refine (show Calls _ _ _ _ _ from KM.out _ (HT.out.low (HN.out.trans hHeld (fun _ _ h => h.elim))).toP.base).mono ?_
  rintro e x7 ⟨rfl, hp⟩
  have hn := Fp.trans hHeld hp (fun _ _ h => h.elim)
  replace B_g3 := hid_blk B_g3 hp
  replace B_g2 := hid_blk B_g2 hp
  refine k_now hK hn ?_
  clear hK K hp hHeld
  have hHeld := hn
  clear hn
  try simp only [Act.put, List.setIfInBounds_toArray, List.set_cons_zero, List.set_cons_succ]
  (refine take_at 11 (some 20) rfl rfl (by kernel_rfl) (by kernel_rfl) (by kernel_rfl) (fun _ _ _ h => h) (v := ?_) (by kernel_rfl) ?_ (by assumption) ?_; rotate_left; (focus (intro wS hSw; skip; go_simp; try with_reducible rfl)); (try simp only [Act.put, List.setIfInBounds_toArray, List.set_cons_zero, List.set_cons_succ]))
  (refine take_at 12 (some 21) rfl rfl (by kernel_rfl) (by kernel_rfl) (by kernel_rfl) (fun _ _ _ h => h) (v := ?_) (by kernel_rfl) ?_ (by assumption) ?_; rotate_left; (focus (intro wS hSw; skip; go_simp; try with_reducible rfl)); (try simp only [Act.put, List.setIfInBounds_toArray, List.set_cons_zero, List.set_cons_succ]))
  refine wpAnyH_done (by kernel_rfl) ?_ _
  clear cg20 cg21 cg22 cg23 cg24 zg2 lg2 cg30 cg31 cg32 cg33 cg34 zg3 lg3
  have hGe := hid_ge HN
  replace HN := hid_now HN hHeld
  clear hHeld hGe
  go_upto_region 3 with fail
  have cg20 := cell_at B_g2 0 rfl
  have cg21 := cell_at B_g2 1 rfl
  have cg22 := cell_at B_g2 2 rfl
  have cg23 := cell_at B_g2 3 rfl
  have cg24 := cell_at B_g2 4 rfl
  have zg2 := froz_at B_g2
  have lg2 := hid_lt B_g2
  have cg30 := cell_at B_g3 0 rfl
  have cg31 := cell_at B_g3 1 rfl
  have cg32 := cell_at B_g3 2 rfl
  have cg33 := cell_at B_g3 3 rfl
  have cg34 := cell_at B_g3 4 rfl
  have zg3 := froz_at B_g3
  have lg3 := hid_lt B_g3
  refine wp_region_held_drew (S := fun wx => NoW x7 wx) (by kernel_rfl) (Fp.drew (Fp.refl _ _)) (fun hHeld0 => ?_)
  refine any_eq hHeld0 (fun x8 hW hHeld => ?_)
  clear hHeld0
  replace B_g3 := hid_blk B_g3 (noW_drew hW)
  replace B_g2 := hid_blk B_g2 (noW_drew hW)
  clear hW
  (refine take_at 0 (some 22) rfl rfl (by kernel_rfl) (by kernel_rfl) (by kernel_rfl) (fun _ _ _ h => h) (v := ?_) (by kernel_rfl) ?_ (by assumption) ?_; rotate_left; (focus (intro wS hSw; have hX := fun b o (h : b < _) => hSw.cell (p := ⟨b, o, none⟩) h id; go_simp; try with_reducible rfl)); (try simp only [Act.put, List.setIfInBounds_toArray, List.set_cons_zero, List.set_cons_succ]))
  (refine take_at 1 (some 23) rfl rfl (by kernel_rfl) (by kernel_rfl) (by kernel_rfl) (fun _ _ _ h => h) (v := ?_) (by kernel_rfl) ?_ (by assumption) ?_; rotate_left; (focus (intro wS hSw; have hX := fun b o (h : b < _) => hSw.cell (p := ⟨b, o, none⟩) h id; go_simp; try with_reducible rfl)); (try simp only [Act.put, List.setIfInBounds_toArray, List.set_cons_zero, List.set_cons_succ]))
  (refine take_at 3 (some 25) rfl rfl (by kernel_rfl) (by kernel_rfl) (by kernel_rfl) (fun _ _ _ h => h) (v := ?_) (by kernel_rfl) ?_ (by assumption) ?_; rotate_left; (focus (intro wS hSw; have hX := fun b o (h : b < _) => hSw.cell (p := ⟨b, o, none⟩) h id; go_simp; try with_reducible rfl)); (try simp only [Act.put, List.setIfInBounds_toArray, List.set_cons_zero, List.set_cons_succ]))
  (refine take_at 4 (some 26) rfl rfl (by kernel_rfl) (by kernel_rfl) (by kernel_rfl) (fun _ _ _ h => h) (v := ?_) (by kernel_rfl) ?_ (by assumption) ?_; rotate_left; (focus (intro wS hSw; have hX := fun b o (h : b < _) => hSw.cell (p := ⟨b, o, none⟩) h id; go_simp; try with_reducible rfl)); (try simp only [Act.put, List.setIfInBounds_toArray, List.set_cons_zero, List.set_cons_succ]))
  refine wpAnyH_ready (rs := [2]) (by kernel_rfl) (by simp) ?_
  refine AllReadyH.cons rfl (fun K hK => ?_) AllReadyH.nil
  go_simp
  go_at_call 19
  refine (show Calls _ _ _ _ _ from KL.out _).mono ?_
  rintro e x9 ⟨rfl, hp⟩
  have hn := Fp.trans hHeld hp (fun _ _ h => h.elim)
  replace B_g3 := hid_blk B_g3 hp
  replace B_g2 := hid_blk B_g2 hp
  refine k_now hK hn ?_
  clear hK K hp hHeld
  have hHeld := hn
  clear hn
  try simp only [Act.put, List.setIfInBounds_toArray, List.set_cons_zero, List.set_cons_succ]
  refine wpAnyH_ready (rs := [5]) (by kernel_rfl) (by simp) ?_
  refine AllReadyH.cons rfl (fun K hK => ?_) AllReadyH.nil
  go_simp
  go_at_call 19
  refine (show Calls _ _ _ _ _ from KG.out _).mono ?_
  rintro e x10 ⟨rfl, hp⟩
  have hn := Fp.trans hHeld hp (fun _ _ h => h.elim)
  replace B_g3 := hid_blk B_g3 hp
  replace B_g2 := hid_blk B_g2 hp
  refine k_now hK hn ?_
  clear hK K hp hHeld
  have hHeld := hn
  clear hn
  try simp only [Act.put, List.setIfInBounds_toArray, List.set_cons_zero, List.set_cons_succ]
  (refine take_at 6 (some 5) rfl rfl (by kernel_rfl) (by kernel_rfl) (by kernel_rfl) (fun _ _ _ h => h) (v := ?_) (by kernel_rfl) ?_ (by assumption) ?_; rotate_left; (focus (intro wS hSw; skip; go_simp; try with_reducible rfl)); (try simp only [Act.put, List.setIfInBounds_toArray, List.set_cons_zero, List.set_cons_succ]))
  (refine take_at 7 (some 6) rfl rfl (by kernel_rfl) (by kernel_rfl) (by kernel_rfl) (fun _ _ _ h => h) (v := ?_) (by kernel_rfl) ?_ (by assumption) ?_; rotate_left; (focus (intro wS hSw; skip; go_simp; try with_reducible rfl)); (try simp only [Act.put, List.setIfInBounds_toArray, List.set_cons_zero, List.set_cons_succ]))
  refine wpAnyH_done (by kernel_rfl) ?_ _
  clear cg20 cg21 cg22 cg23 cg24 zg2 lg2 cg30 cg31 cg32 cg33 cg34 zg3 lg3
  have hGe := hid_ge HN
  replace HN := hid_now HN hHeld
  clear hHeld hGe
  have cg20 := cell_at B_g2 0 rfl
  have cg21 := cell_at B_g2 1 rfl
  have cg22 := cell_at B_g2 2 rfl
  have cg23 := cell_at B_g2 3 rfl
  have cg24 := cell_at B_g2 4 rfl
  have zg2 := froz_at B_g2
  have lg2 := hid_lt B_g2
  have cg30 := cell_at B_g3 0 rfl
  have cg31 := cell_at B_g3 1 rfl
  have cg32 := cell_at B_g3 2 rfl
  have cg33 := cell_at B_g3 3 rfl
  have cg34 := cell_at B_g3 4 rfl
  have zg3 := froz_at B_g3
  have lg3 := hid_lt B_g3
  go_wp2_with fail
  clear cg20 cg21 cg22 cg23 cg24 zg2 lg2 cg30 cg31 cg32 cg33 cg34 zg3 lg3
  refine (show Calls _ _ _ _ _ from KT.out _ (HT.out.low HN.out).toP.base).mono ?_
  rintro e x11 ⟨rfl, hp⟩
  replace HN := hid_now HN hp
  replace B_g3 := hid_blk B_g3 hp
  replace B_g2 := hid_blk B_g2 hp
  clear hp
  go_wp2_with fail
  refine (show Calls _ _ _ _ _ from KP.out _ (HT.out.low HN.out)).mono ?_
  rintro e x12 ⟨rfl, hp⟩
  replace HN := hid_now HN hp
  replace B_g3 := hid_blk B_g3 hp
  replace B_g2 := hid_blk B_g2 hp
  clear hp
  go_upto_region 7 with fail
  refine wp_gen (fun x13 hW => ?_)
  have l2g3 := hid_lt B_g3
  have l2g2 := hid_lt B_g2
  have hp := new_now hW
  have hB := new_blk hW
  clear hW
  have hGe := hid_ge HN
  replace HN := hid_now HN hp
  replace B_g3 := hid_blk B_g3 hp
  replace B_g2 := hid_blk B_g2 hp
  obtain ⟨g7, hg7⟩ : ∃ g7, g7 = x12.heap.size := ⟨_, rfl⟩
  have G_g7 := Lib.hid (Nat.le_trans hGe (Nat.le_of_eq hg7.symm))
  have n_g3_g7 : ¬ g3 = g7 := by omega
  have n_g7_g3 : ¬ g7 = g3 := by omega
  clear l2g3
  have n_g2_g7 : ¬ g2 = g7 := by omega
  have n_g7_g2 : ¬ g7 = g2 := by omega
  clear l2g2
  rw [← hg7] at hB ⊢
  have B_g7 := hB
  clear hB hGe hg7
  clear hp
  have cg20 := cell_at B_g2 0 rfl
  have cg21 := cell_at B_g2 1 rfl
  have cg22 := cell_at B_g2 2 rfl
  have cg23 := cell_at B_g2 3 rfl
  have cg24 := cell_at B_g2 4 rfl
  have zg2 := froz_at B_g2
  have lg2 := hid_lt B_g2
  go_wp2_with fail
  clear cg20 cg21 cg22 cg23 cg24 zg2 lg2
  refine (show Calls _ _ _ _ _ from KM.out _ (HT.out.low HN.out).toP.base).mono ?_
  rintro e x14 ⟨rfl, hp⟩
  replace HN := hid_now HN hp
  replace B_g3 := hid_blk B_g3 hp
  replace B_g2 := hid_blk B_g2 hp
  replace B_g7 := hid_blk B_g7 hp
  clear hp
  have cg20 := cell_at B_g2 0 rfl
  have cg21 := cell_at B_g2 1 rfl
  have cg22 := cell_at B_g2 2 rfl
  have cg23 := cell_at B_g2 3 rfl
  have cg24 := cell_at B_g2 4 rfl
  have zg2 := froz_at B_g2
  have lg2 := hid_lt B_g2
  go_wp2_with fail
  clear cg20 cg21 cg22 cg23 cg24 zg2 lg2
  refine (show Calls _ _ _ _ _ from KT.out _ (HT.out.low HN.out).toP.base).mono ?_
  rintro e x15 ⟨rfl, hp⟩
  replace HN := hid_now HN hp
  replace B_g3 := hid_blk B_g3 hp
  replace B_g2 := hid_blk B_g2 hp
  replace B_g7 := hid_blk B_g7 hp
  clear hp
  go_wp2_with fail
  refine (show Calls _ _ _ _ _ from watched_ok _ (HT.out.low HN.out)).mono ?_
  rintro e x16 ⟨rfl, hp⟩
  replace HN := hid_now HN hp
  replace B_g3 := hid_blk B_g3 hp
  replace B_g2 := hid_blk B_g2 hp
  replace B_g7 := hid_blk B_g7 hp
  clear hp
  go_wp2_with fail
  go_ret
  exact ⟨rfl, HN.out⟩
set_option maxHeartbeats 8000000 in
set_option maxRecDepth 100000 in
theorem tb_lt01 (k a p b q : Nat) (hk : k < 256) (ha : a < 4294967296) (hp : p < 65536) (hb : b < 4294967296) (hq : q < 65536) (h1 : tupB k p q = false) (k2 a2 p2 b2 q2 : Nat) (hk2 : k2 < 256) (ha2 : a2 < 4294967296) (hp2 : p2 < 65536) (hb2 : b2 < 4294967296) (hq2 : q2 < 65536) (h2 : tupB k2 p2 q2 = true) (hne : ¬ (k = k2 ∧ a = a2 ∧ p = p2 ∧ b = b2 ∧ q = q2)) (hr : tkey k a p b q < tkey k2 a2 p2 b2 q2) (w : World) (ht : TbQ w) : Calls Tryz.prog 7 #[.agg #[.int .u8 (k : Nat), .int .u32 (a : Nat), .int .u16 (p : Nat), .int .u32 (b : Nat), .int .u16 (q : Nat)], .agg #[.int .u8 (k2 : Nat), .int .u32 (a2 : Nat), .int .u16 (p2 : Nat), .int .u32 (b2 : Nat), .int .u16 (q2 : Nat)]] w (Ret1 (.bool true) w) := by
  have KB := Lib.hid (fun W => back_ok k a p b q W)
  have KB2 := Lib.hid (fun W => back_ok k b q a p W)
  have KM := Lib.hid (fun W hW => tup_ok k a p b q hk W hW)
  have KM2 := Lib.hid (fun W hW => tup_ok k b q a p hk W hW)
  have KN := Lib.hid (fun W hW => tup_ok k2 a2 p2 b2 q2 hk2 W hW)
  have KL := Lib.hid (fun W => tless_ok k a p b q k2 a2 p2 b2 q2 ha hp hb hq ha2 hp2 hb2 hq2 W)
  have KG := Lib.hid (fun W => tless_ok k2 a2 p2 b2 q2 k a p b q ha2 hp2 hb2 hq2 ha hp hb hq W)
  have KT := Lib.hid (fun W hW => text_any k a p b q hk ha hp hb hq W hW)
  have KU := Lib.hid (fun W hW => text_any k2 a2 p2 b2 q2 hk2 ha2 hp2 hb2 hq2 W hW)
  have hl := tupX_len k a p b q ha hp hb hq
  have KP := Lib.hid (fun W hW => tup_parse (tupX k a p b q) (by omega) W hW)
  rw [tupX_of k a p b q ha hp hb hq, h1] at KP
  rw [tupB_sym k q p, h1] at KM2
  rw [h1] at KM
  rw [h2] at KN
  rw [decide_eq_true hr] at KL
  rw [decide_eq_false (Nat.lt_asymm hr)] at KG
  have e1 : ∀ W, (binOp .eql 29 (.agg #[.int .u8 (k : Nat), .int .u32 (a : Nat), .int .u16 (p : Nat), .int .u32 (b : Nat), .int .u16 (q : Nat)]) (.agg #[.int .u8 (k2 : Nat), .int .u32 (a2 : Nat), .int .u16 (p2 : Nat), .int .u32 (b2 : Nat), .int .u16 (q2 : Nat)])).run Tryz.prog W = .ok (.bool false) W := fun W => by rw [tup_eq2]; simp [hne]
  have e2 : ∀ W, (binOp .eql 29 (.agg #[.int .u8 (k : Nat), .int .u32 (a : Nat), .int .u16 (p : Nat), .int .u32 (b : Nat), .int .u16 (q : Nat)]) (.agg #[.int .u8 (k : Nat), .int .u32 (a : Nat), .int .u16 (p : Nat), .int .u32 (b : Nat), .int .u16 (q : Nat)])).run Tryz.prog W = .ok (.bool true) W := fun W => by rw [tup_eq2]; simp
  have e3 : ∀ W, (binOp .neq 29 (.agg #[.int .u8 (k : Nat), .int .u32 (a : Nat), .int .u16 (p : Nat), .int .u32 (b : Nat), .int .u16 (q : Nat)]) (.agg #[.int .u8 (k : Nat), .int .u32 (a : Nat), .int .u16 (p : Nat), .int .u32 (b : Nat), .int .u16 (q : Nat)])).run Tryz.prog W = .ok (.bool false) W := fun W => by rw [tup_neq2]; simp
  have hx : tupX k a p b q = [] := if_neg (by rw [h1]; decide)
  rw [hx] at KT KP
  clear hx
  clear hl
  skip
  unfold tupRV at KP
  simp only [if_true, if_false, Bool.false_eq_true] at KP
  clear h1 h2 hne hr
  go_enter Tryz.func7, Tryz.ntmps7
  go_upto_region 1 with fail
  have HN := Lib.hid (Fp.refl (fun _ => False) w)
  have HT := Lib.hid ht
  refine wp_gen (fun x1 hW => ?_)
  obtain ⟨hB, hB2, hp⟩ := new2_blk hW
  clear hW
  have hGe := hid_ge HN
  have hGe2 := Nat.le_succ_of_le hGe
  replace HN := hid_now HN hp
  change w.heap.size ≤ w.heap.size + 1 at hGe2
  obtain ⟨g3, hg3⟩ : ∃ g3, g3 = w.heap.size + 1 := ⟨_, rfl⟩
  have G_g3 := Lib.hid (Nat.le_trans hGe2 (Nat.le_of_eq hg3.symm))
  rw [← hg3] at hB2 ⊢
  have B_g3 := hB2
  clear hB2 hGe2 hg3
  obtain ⟨g2, hg2⟩ : ∃ g2, g2 = w.heap.size := ⟨_, rfl⟩
  have G_g2 := Lib.hid (Nat.le_trans hGe (Nat.le_of_eq hg2.symm))
  rw [← hg2] at hB ⊢
  have B_g2 := hB
  clear hB hGe hg2
  skip
  clear hp
  have cg20 := cell_at B_g2 0 rfl
  have cg21 := cell_at B_g2 1 rfl
  have cg22 := cell_at B_g2 2 rfl
  have cg23 := cell_at B_g2 3 rfl
  have cg24 := cell_at B_g2 4 rfl
  have zg2 := froz_at B_g2
  have lg2 := hid_lt B_g2
  have cg30 := cell_at B_g3 0 rfl
  have cg31 := cell_at B_g3 1 rfl
  have cg32 := cell_at B_g3 2 rfl
  have cg33 := cell_at B_g3 3 rfl
  have cg34 := cell_at B_g3 4 rfl
  have zg3 := froz_at B_g3
  have lg3 := hid_lt B_g3
  refine wp_region_held_drew (S := fun wx => NoW x1 wx) (by kernel_rfl) (Fp.drew (Fp.refl _ _)) (fun hHeld0 => ?_)
  refine any_eq hHeld0 (fun x2 hW hHeld => ?_)
  clear hHeld0
  replace B_g3 := hid_blk B_g3 (noW_drew hW)
  replace B_g2 := hid_blk B_g2 (noW_drew hW)
  clear hW
  (refine take_at 0 (some 9) rfl rfl (by kernel_rfl) (by kernel_rfl) (by kernel_rfl) (fun _ _ _ h => h) (v := ?_) (by kernel_rfl) ?_ (by assumption) ?_; rotate_left; (focus (intro wS hSw; have hX := fun b o (h : b < _) => hSw.cell (p := ⟨b, o, none⟩) h id; go_simp; try with_reducible rfl)); (try simp only [Act.put, List.setIfInBounds_toArray, List.set_cons_zero, List.set_cons_succ]))
  (refine take_at 3 (some 12) rfl rfl (by kernel_rfl) (by kernel_rfl) (by kernel_rfl) (fun _ _ _ h => h) (v := ?_) (by kernel_rfl) ?_ (by assumption) ?_; rotate_left; (focus (intro wS hSw; have hX := fun b o (h : b < _) => hSw.cell (p := ⟨b, o, none⟩) h id; go_simp; try with_reducible rfl)); (try simp only [Act.put, List.setIfInBounds_toArray, List.set_cons_zero, List.set_cons_succ]))
  refine wpAnyH_ready (rs := [1]) (by kernel_rfl) (by simp) ?_
  refine AllReadyH.cons rfl (fun K hK => ?_) AllReadyH.nil
  go_simp
  go_at_call 16
  refine (show Calls _ _ _ _ _ from KB.out _).mono ?_
  rintro e x3 ⟨rfl, hp⟩
  have hn := Fp.trans hHeld hp (fun _ _ h => h.elim)
  replace B_g3 := hid_blk B_g3 hp
  replace B_g2 := hid_blk B_g2 hp
  refine k_now hK hn ?_
  clear hK K hp hHeld
  have hHeld := hn
  clear hn
  try simp only [Act.put, List.setIfInBounds_toArray, List.set_cons_zero, List.set_cons_succ]
  refine wpAnyH_ready (rs := [2]) (by kernel_rfl) (by simp) ?_
  refine AllReadyH.cons rfl (fun K hK => ?_) AllReadyH.nil
  go_simp
  go_at_call 16
  refine (show Calls _ _ _ _ _ from KB2.out _).mono ?_
  rintro e x4 ⟨rfl, hp⟩
  have hn := Fp.trans hHeld hp (fun _ _ h => h.elim)
  replace B_g3 := hid_blk B_g3 hp
  replace B_g2 := hid_blk B_g2 hp
  refine k_now hK hn ?_
  clear hK K hp hHeld
  have hHeld := hn
  clear hn
  try simp only [Act.put, List.setIfInBounds_toArray, List.set_cons_zero, List.set_cons_succ]
  (refine take_at 4 (some 13) rfl rfl (by kernel_rfl) (by kernel_rfl) (by kernel_rfl) (fun _ _ _ h => h) (v := ?_) (by kernel_rfl) ?_ (by assumption) ?_; rotate_left; (focus (intro wS hSw; skip; go_simp; try with_reducible rfl)); (try simp only [Act.put, List.setIfInBounds_toArray, List.set_cons_zero, List.set_cons_succ]))
  (refine take_at 5 (some 14) rfl rfl (by kernel_rfl) (by kernel_rfl) (by kernel_rfl) (fun _ _ _ h => h) (v := ?_) (by kernel_rfl) ?_ (by assumption) ?_; rotate_left; (focus (intro wS hSw; skip; go_simp; try with_reducible rfl)); (try simp only [Act.put, List.setIfInBounds_toArray, List.set_cons_zero, List.set_cons_succ]))
  (refine take_at 6 (some 15) rfl rfl (by kernel_rfl) (by kernel_rfl) (by kernel_rfl) (fun _ _ _ h => h) (v := ?_) (by kernel_rfl) ?_ (by assumption) ?_; rotate_left; (focus (intro wS hSw; have hX := fun b o (h : b < _) => hSw.cell (p := ⟨b, o, none⟩) h id; go_simp; try with_reducible rfl)); (try simp only [Act.put, List.setIfInBounds_toArray, List.set_cons_zero, List.set_cons_succ]))
  (refine take_at 9 (some 18) rfl rfl (by kernel_rfl) (by kernel_rfl) (by kernel_rfl) (fun _ _ _ h => h) (v := ?_) (by kernel_rfl) ?_ (by assumption) ?_; rotate_left; (focus (intro wS hSw; have hX := fun b o (h : b < _) => hSw.cell (p := ⟨b, o, none⟩) h id; go_simp; try with_reducible rfl)); (try simp only [Act.put, List.setIfInBounds_toArray, List.set_cons_zero, List.set_cons_succ]))
  refine wpAnyH_ready (rs := [7]) (by kernel_rfl) (by simp) ?_
  refine AllReadyH.cons rfl (fun K hK => ?_) AllReadyH.nil
  go_simp
  go_at_call 16
  refine (show Calls _ _ _ _ _ from KB.out _).mono ?_
  rintro e x5 ⟨rfl, hp⟩
  have hn := Fp.trans hHeld hp (fun _ _ h => h.elim)
  replace B_g3 := hid_blk B_g3 hp
  replace B_g2 := hid_blk B_g2 hp
  refine k_now hK hn ?_
  clear hK K hp hHeld
  have hHeld := hn
  clear hn
  try simp only [Act.put, List.setIfInBounds_toArray, List.set_cons_zero, List.set_cons_succ]
  refine wpAnyH_ready (rs := [8]) (by kernel_rfl) (by simp) ?_
  refine AllReadyH.cons rfl (fun K hK => ?_) AllReadyH.nil
  go_simp
  go_at_call 12
  refine (show Calls _ _ _ _ _ from KM2.out _ (HT.out.low (HN.out.trans hHeld (fun _ _ h => h.elim))).toP.base).mono ?_
  rintro e x6 ⟨rfl, hp⟩
  have hn := Fp.trans hHeld hp (fun _ _ h => h.elim)
  replace B_g3 := hid_blk B_g3 hp
  replace B_g2 := hid_blk B_g2 hp
  refine k_now hK hn ?_
  clear hK K hp hHeld
  have hHeld := hn
  clear hn
  try simp only [Act.put, List.setIfInBounds_toArray, List.set_cons_zero, List.set_cons_succ]
  refine wpAnyH_ready (rs := [10]) (by kernel_rfl) (by simp) ?_
  refine AllReadyH.cons rfl (fun K hK => ?_) AllReadyH.nil
  go_simp
  go_at_call 12
  refine (show Calls _ _ _ _ _ from KM.out _ (HT.out.low (HN.out.trans hHeld (fun _ _ h => h.elim))).toP.base).mono ?_
  rintro e x7 ⟨rfl, hp⟩
  have hn := Fp.trans hHeld hp (fun _ _ h => h.elim)
  replace B_g3 := hid_blk B_g3 hp
  replace B_g2 := hid_blk B_g2 hp
  refine k_now hK hn ?_
  clear hK K hp hHeld
  have hHeld := hn
  clear hn
  try simp only [Act.put, List.setIfInBounds_toArray, List.set_cons_zero, List.set_cons_succ]
  (refine take_at 11 (some 20) rfl rfl (by kernel_rfl) (by kernel_rfl) (by kernel_rfl) (fun _ _ _ h => h) (v := ?_) (by kernel_rfl) ?_ (by assumption) ?_; rotate_left; (focus (intro wS hSw; skip; go_simp; try with_reducible rfl)); (try simp only [Act.put, List.setIfInBounds_toArray, List.set_cons_zero, List.set_cons_succ]))
  (refine take_at 12 (some 21) rfl rfl (by kernel_rfl) (by kernel_rfl) (by kernel_rfl) (fun _ _ _ h => h) (v := ?_) (by kernel_rfl) ?_ (by assumption) ?_; rotate_left; (focus (intro wS hSw; skip; go_simp; try with_reducible rfl)); (try simp only [Act.put, List.setIfInBounds_toArray, List.set_cons_zero, List.set_cons_succ]))
  refine wpAnyH_done (by kernel_rfl) ?_ _
  clear cg20 cg21 cg22 cg23 cg24 zg2 lg2 cg30 cg31 cg32 cg33 cg34 zg3 lg3
  have hGe := hid_ge HN
  replace HN := hid_now HN hHeld
  clear hHeld hGe
  go_upto_region 3 with fail
  have cg20 := cell_at B_g2 0 rfl
  have cg21 := cell_at B_g2 1 rfl
  have cg22 := cell_at B_g2 2 rfl
  have cg23 := cell_at B_g2 3 rfl
  have cg24 := cell_at B_g2 4 rfl
  have zg2 := froz_at B_g2
  have lg2 := hid_lt B_g2
  have cg30 := cell_at B_g3 0 rfl
  have cg31 := cell_at B_g3 1 rfl
  have cg32 := cell_at B_g3 2 rfl
  have cg33 := cell_at B_g3 3 rfl
  have cg34 := cell_at B_g3 4 rfl
  have zg3 := froz_at B_g3
  have lg3 := hid_lt B_g3
  refine wp_region_held_drew (S := fun wx => NoW x7 wx) (by kernel_rfl) (Fp.drew (Fp.refl _ _)) (fun hHeld0 => ?_)
  refine any_eq hHeld0 (fun x8 hW hHeld => ?_)
  clear hHeld0
  replace B_g3 := hid_blk B_g3 (noW_drew hW)
  replace B_g2 := hid_blk B_g2 (noW_drew hW)
  clear hW
  (refine take_at 0 (some 22) rfl rfl (by kernel_rfl) (by kernel_rfl) (by kernel_rfl) (fun _ _ _ h => h) (v := ?_) (by kernel_rfl) ?_ (by assumption) ?_; rotate_left; (focus (intro wS hSw; have hX := fun b o (h : b < _) => hSw.cell (p := ⟨b, o, none⟩) h id; go_simp; try with_reducible rfl)); (try simp only [Act.put, List.setIfInBounds_toArray, List.set_cons_zero, List.set_cons_succ]))
  (refine take_at 1 (some 23) rfl rfl (by kernel_rfl) (by kernel_rfl) (by kernel_rfl) (fun _ _ _ h => h) (v := ?_) (by kernel_rfl) ?_ (by assumption) ?_; rotate_left; (focus (intro wS hSw; have hX := fun b o (h : b < _) => hSw.cell (p := ⟨b, o, none⟩) h id; go_simp; try with_reducible rfl)); (try simp only [Act.put, List.setIfInBounds_toArray, List.set_cons_zero, List.set_cons_succ]))
  (refine take_at 3 (some 25) rfl rfl (by kernel_rfl) (by kernel_rfl) (by kernel_rfl) (fun _ _ _ h => h) (v := ?_) (by kernel_rfl) ?_ (by assumption) ?_; rotate_left; (focus (intro wS hSw; have hX := fun b o (h : b < _) => hSw.cell (p := ⟨b, o, none⟩) h id; go_simp; try with_reducible rfl)); (try simp only [Act.put, List.setIfInBounds_toArray, List.set_cons_zero, List.set_cons_succ]))
  (refine take_at 4 (some 26) rfl rfl (by kernel_rfl) (by kernel_rfl) (by kernel_rfl) (fun _ _ _ h => h) (v := ?_) (by kernel_rfl) ?_ (by assumption) ?_; rotate_left; (focus (intro wS hSw; have hX := fun b o (h : b < _) => hSw.cell (p := ⟨b, o, none⟩) h id; go_simp; try with_reducible rfl)); (try simp only [Act.put, List.setIfInBounds_toArray, List.set_cons_zero, List.set_cons_succ]))
  refine wpAnyH_ready (rs := [2]) (by kernel_rfl) (by simp) ?_
  refine AllReadyH.cons rfl (fun K hK => ?_) AllReadyH.nil
  go_simp
  go_at_call 19
  refine (show Calls _ _ _ _ _ from KL.out _).mono ?_
  rintro e x9 ⟨rfl, hp⟩
  have hn := Fp.trans hHeld hp (fun _ _ h => h.elim)
  replace B_g3 := hid_blk B_g3 hp
  replace B_g2 := hid_blk B_g2 hp
  refine k_now hK hn ?_
  clear hK K hp hHeld
  have hHeld := hn
  clear hn
  try simp only [Act.put, List.setIfInBounds_toArray, List.set_cons_zero, List.set_cons_succ]
  refine wpAnyH_ready (rs := [5]) (by kernel_rfl) (by simp) ?_
  refine AllReadyH.cons rfl (fun K hK => ?_) AllReadyH.nil
  go_simp
  go_at_call 19
  refine (show Calls _ _ _ _ _ from KG.out _).mono ?_
  rintro e x10 ⟨rfl, hp⟩
  have hn := Fp.trans hHeld hp (fun _ _ h => h.elim)
  replace B_g3 := hid_blk B_g3 hp
  replace B_g2 := hid_blk B_g2 hp
  refine k_now hK hn ?_
  clear hK K hp hHeld
  have hHeld := hn
  clear hn
  try simp only [Act.put, List.setIfInBounds_toArray, List.set_cons_zero, List.set_cons_succ]
  (refine take_at 6 (some 5) rfl rfl (by kernel_rfl) (by kernel_rfl) (by kernel_rfl) (fun _ _ _ h => h) (v := ?_) (by kernel_rfl) ?_ (by assumption) ?_; rotate_left; (focus (intro wS hSw; skip; go_simp; try with_reducible rfl)); (try simp only [Act.put, List.setIfInBounds_toArray, List.set_cons_zero, List.set_cons_succ]))
  (refine take_at 7 (some 6) rfl rfl (by kernel_rfl) (by kernel_rfl) (by kernel_rfl) (fun _ _ _ h => h) (v := ?_) (by kernel_rfl) ?_ (by assumption) ?_; rotate_left; (focus (intro wS hSw; skip; go_simp; try with_reducible rfl)); (try simp only [Act.put, List.setIfInBounds_toArray, List.set_cons_zero, List.set_cons_succ]))
  refine wpAnyH_done (by kernel_rfl) ?_ _
  clear cg20 cg21 cg22 cg23 cg24 zg2 lg2 cg30 cg31 cg32 cg33 cg34 zg3 lg3
  have hGe := hid_ge HN
  replace HN := hid_now HN hHeld
  clear hHeld hGe
  have cg20 := cell_at B_g2 0 rfl
  have cg21 := cell_at B_g2 1 rfl
  have cg22 := cell_at B_g2 2 rfl
  have cg23 := cell_at B_g2 3 rfl
  have cg24 := cell_at B_g2 4 rfl
  have zg2 := froz_at B_g2
  have lg2 := hid_lt B_g2
  have cg30 := cell_at B_g3 0 rfl
  have cg31 := cell_at B_g3 1 rfl
  have cg32 := cell_at B_g3 2 rfl
  have cg33 := cell_at B_g3 3 rfl
  have cg34 := cell_at B_g3 4 rfl
  have zg3 := froz_at B_g3
  have lg3 := hid_lt B_g3
  go_wp2_with fail
  clear cg20 cg21 cg22 cg23 cg24 zg2 lg2 cg30 cg31 cg32 cg33 cg34 zg3 lg3
  refine (show Calls _ _ _ _ _ from KT.out _ (HT.out.low HN.out).toP.base).mono ?_
  rintro e x11 ⟨rfl, hp⟩
  replace HN := hid_now HN hp
  replace B_g3 := hid_blk B_g3 hp
  replace B_g2 := hid_blk B_g2 hp
  clear hp
  go_wp2_with fail
  refine (show Calls _ _ _ _ _ from KP.out _ (HT.out.low HN.out)).mono ?_
  rintro e x12 ⟨rfl, hp⟩
  replace HN := hid_now HN hp
  replace B_g3 := hid_blk B_g3 hp
  replace B_g2 := hid_blk B_g2 hp
  clear hp
  go_upto_region 7 with fail
  refine wp_gen (fun x13 hW => ?_)
  have l2g3 := hid_lt B_g3
  have l2g2 := hid_lt B_g2
  have hp := new_now hW
  have hB := new_blk hW
  clear hW
  have hGe := hid_ge HN
  replace HN := hid_now HN hp
  replace B_g3 := hid_blk B_g3 hp
  replace B_g2 := hid_blk B_g2 hp
  obtain ⟨g7, hg7⟩ : ∃ g7, g7 = x12.heap.size := ⟨_, rfl⟩
  have G_g7 := Lib.hid (Nat.le_trans hGe (Nat.le_of_eq hg7.symm))
  have n_g3_g7 : ¬ g3 = g7 := by omega
  have n_g7_g3 : ¬ g7 = g3 := by omega
  clear l2g3
  have n_g2_g7 : ¬ g2 = g7 := by omega
  have n_g7_g2 : ¬ g7 = g2 := by omega
  clear l2g2
  rw [← hg7] at hB ⊢
  have B_g7 := hB
  clear hB hGe hg7
  clear hp
  have cg20 := cell_at B_g2 0 rfl
  have cg21 := cell_at B_g2 1 rfl
  have cg22 := cell_at B_g2 2 rfl
  have cg23 := cell_at B_g2 3 rfl
  have cg24 := cell_at B_g2 4 rfl
  have zg2 := froz_at B_g2
  have lg2 := hid_lt B_g2
  go_wp2_with fail
  clear cg20 cg21 cg22 cg23 cg24 zg2 lg2
  refine (show Calls _ _ _ _ _ from KM.out _ (HT.out.low HN.out).toP.base).mono ?_
  rintro e x14 ⟨rfl, hp⟩
  replace HN := hid_now HN hp
  replace B_g3 := hid_blk B_g3 hp
  replace B_g2 := hid_blk B_g2 hp
  replace B_g7 := hid_blk B_g7 hp
  clear hp
  have cg20 := cell_at B_g2 0 rfl
  have cg21 := cell_at B_g2 1 rfl
  have cg22 := cell_at B_g2 2 rfl
  have cg23 := cell_at B_g2 3 rfl
  have cg24 := cell_at B_g2 4 rfl
  have zg2 := froz_at B_g2
  have lg2 := hid_lt B_g2
  go_wp2_with fail
  clear cg20 cg21 cg22 cg23 cg24 zg2 lg2
  refine (show Calls _ _ _ _ _ from KT.out _ (HT.out.low HN.out).toP.base).mono ?_
  rintro e x15 ⟨rfl, hp⟩
  replace HN := hid_now HN hp
  replace B_g3 := hid_blk B_g3 hp
  replace B_g2 := hid_blk B_g2 hp
  replace B_g7 := hid_blk B_g7 hp
  clear hp
  go_wp2_with fail
  refine (show Calls _ _ _ _ _ from watched_ok _ (HT.out.low HN.out)).mono ?_
  rintro e x16 ⟨rfl, hp⟩
  replace HN := hid_now HN hp
  replace B_g3 := hid_blk B_g3 hp
  replace B_g2 := hid_blk B_g2 hp
  replace B_g7 := hid_blk B_g7 hp
  clear hp
  go_wp2_with fail
  go_ret
  exact ⟨rfl, HN.out⟩
set_option maxHeartbeats 8000000 in
set_option maxRecDepth 100000 in
theorem tb_lt10 (k a p b q : Nat) (hk : k < 256) (ha : a < 4294967296) (hp : p < 65536) (hb : b < 4294967296) (hq : q < 65536) (h1 : tupB k p q = true) (k2 a2 p2 b2 q2 : Nat) (hk2 : k2 < 256) (ha2 : a2 < 4294967296) (hp2 : p2 < 65536) (hb2 : b2 < 4294967296) (hq2 : q2 < 65536) (h2 : tupB k2 p2 q2 = false) (hne : ¬ (k = k2 ∧ a = a2 ∧ p = p2 ∧ b = b2 ∧ q = q2)) (hr : tkey k a p b q < tkey k2 a2 p2 b2 q2) (w : World) (ht : TbQ w) : Calls Tryz.prog 7 #[.agg #[.int .u8 (k : Nat), .int .u32 (a : Nat), .int .u16 (p : Nat), .int .u32 (b : Nat), .int .u16 (q : Nat)], .agg #[.int .u8 (k2 : Nat), .int .u32 (a2 : Nat), .int .u16 (p2 : Nat), .int .u32 (b2 : Nat), .int .u16 (q2 : Nat)]] w (Ret1 (.bool true) w) := by
  have KB := Lib.hid (fun W => back_ok k a p b q W)
  have KB2 := Lib.hid (fun W => back_ok k b q a p W)
  have KM := Lib.hid (fun W hW => tup_ok k a p b q hk W hW)
  have KM2 := Lib.hid (fun W hW => tup_ok k b q a p hk W hW)
  have KN := Lib.hid (fun W hW => tup_ok k2 a2 p2 b2 q2 hk2 W hW)
  have KL := Lib.hid (fun W => tless_ok k a p b q k2 a2 p2 b2 q2 ha hp hb hq ha2 hp2 hb2 hq2 W)
  have KG := Lib.hid (fun W => tless_ok k2 a2 p2 b2 q2 k a p b q ha2 hp2 hb2 hq2 ha hp hb hq W)
  have KT := Lib.hid (fun W hW => text_any k a p b q hk ha hp hb hq W hW)
  have KU := Lib.hid (fun W hW => text_any k2 a2 p2 b2 q2 hk2 ha2 hp2 hb2 hq2 W hW)
  have hl := tupX_len k a p b q ha hp hb hq
  have KP := Lib.hid (fun W hW => tup_parse (tupX k a p b q) (by omega) W hW)
  rw [tupX_of k a p b q ha hp hb hq, h1] at KP
  rw [tupB_sym k q p, h1] at KM2
  rw [h1] at KM
  rw [h2] at KN
  rw [decide_eq_true hr] at KL
  rw [decide_eq_false (Nat.lt_asymm hr)] at KG
  have e1 : ∀ W, (binOp .eql 29 (.agg #[.int .u8 (k : Nat), .int .u32 (a : Nat), .int .u16 (p : Nat), .int .u32 (b : Nat), .int .u16 (q : Nat)]) (.agg #[.int .u8 (k2 : Nat), .int .u32 (a2 : Nat), .int .u16 (p2 : Nat), .int .u32 (b2 : Nat), .int .u16 (q2 : Nat)])).run Tryz.prog W = .ok (.bool false) W := fun W => by rw [tup_eq2]; simp [hne]
  have e2 : ∀ W, (binOp .eql 29 (.agg #[.int .u8 (k : Nat), .int .u32 (a : Nat), .int .u16 (p : Nat), .int .u32 (b : Nat), .int .u16 (q : Nat)]) (.agg #[.int .u8 (k : Nat), .int .u32 (a : Nat), .int .u16 (p : Nat), .int .u32 (b : Nat), .int .u16 (q : Nat)])).run Tryz.prog W = .ok (.bool true) W := fun W => by rw [tup_eq2]; simp
  have e3 : ∀ W, (binOp .neq 29 (.agg #[.int .u8 (k : Nat), .int .u32 (a : Nat), .int .u16 (p : Nat), .int .u32 (b : Nat), .int .u16 (q : Nat)]) (.agg #[.int .u8 (k : Nat), .int .u32 (a : Nat), .int .u16 (p : Nat), .int .u32 (b : Nat), .int .u16 (q : Nat)])).run Tryz.prog W = .ok (.bool false) W := fun W => by rw [tup_neq2]; simp
  clear hl
  generalize tupX k a p b q = tx at *
  unfold tupRV at KP
  simp only [if_true, if_false, Bool.false_eq_true] at KP
  generalize tupX k2 a2 p2 b2 q2 = tx2 at *
  clear h1 h2 hne hr
  go_enter Tryz.func7, Tryz.ntmps7
  go_upto_region 1 with fail
  have HN := Lib.hid (Fp.refl (fun _ => False) w)
  have HT := Lib.hid ht
  refine wp_gen (fun x1 hW => ?_)
  obtain ⟨hB, hB2, hp⟩ := new2_blk hW
  clear hW
  have hGe := hid_ge HN
  have hGe2 := Nat.le_succ_of_le hGe
  replace HN := hid_now HN hp
  change w.heap.size ≤ w.heap.size + 1 at hGe2
  obtain ⟨g3, hg3⟩ : ∃ g3, g3 = w.heap.size + 1 := ⟨_, rfl⟩
  have G_g3 := Lib.hid (Nat.le_trans hGe2 (Nat.le_of_eq hg3.symm))
  rw [← hg3] at hB2 ⊢
  have B_g3 := hB2
  clear hB2 hGe2 hg3
  obtain ⟨g2, hg2⟩ : ∃ g2, g2 = w.heap.size := ⟨_, rfl⟩
  have G_g2 := Lib.hid (Nat.le_trans hGe (Nat.le_of_eq hg2.symm))
  rw [← hg2] at hB ⊢
  have B_g2 := hB
  clear hB hGe hg2
  skip
  clear hp
  have cg20 := cell_at B_g2 0 rfl
  have cg21 := cell_at B_g2 1 rfl
  have cg22 := cell_at B_g2 2 rfl
  have cg23 := cell_at B_g2 3 rfl
  have cg24 := cell_at B_g2 4 rfl
  have zg2 := froz_at B_g2
  have lg2 := hid_lt B_g2
  have cg30 := cell_at B_g3 0 rfl
  have cg31 := cell_at B_g3 1 rfl
  have cg32 := cell_at B_g3 2 rfl
  have cg33 := cell_at B_g3 3 rfl
  have cg34 := cell_at B_g3 4 rfl
  have zg3 := froz_at B_g3
  have lg3 := hid_lt B_g3
  refine wp_region_held_drew (S := fun wx => NoW x1 wx) (by kernel_rfl) (Fp.drew (Fp.refl _ _)) (fun hHeld0 => ?_)
  refine any_eq hHeld0 (fun x2 hW hHeld => ?_)
  clear hHeld0
  replace B_g3 := hid_blk B_g3 (noW_drew hW)
  replace B_g2 := hid_blk B_g2 (noW_drew hW)
  clear hW
  (refine take_at 0 (some 9) rfl rfl (by kernel_rfl) (by kernel_rfl) (by kernel_rfl) (fun _ _ _ h => h) (v := ?_) (by kernel_rfl) ?_ (by assumption) ?_; rotate_left; (focus (intro wS hSw; have hX := fun b o (h : b < _) => hSw.cell (p := ⟨b, o, none⟩) h id; go_simp; try with_reducible rfl)); (try simp only [Act.put, List.setIfInBounds_toArray, List.set_cons_zero, List.set_cons_succ]))
  (refine take_at 3 (some 12) rfl rfl (by kernel_rfl) (by kernel_rfl) (by kernel_rfl) (fun _ _ _ h => h) (v := ?_) (by kernel_rfl) ?_ (by assumption) ?_; rotate_left; (focus (intro wS hSw; have hX := fun b o (h : b < _) => hSw.cell (p := ⟨b, o, none⟩) h id; go_simp; try with_reducible rfl)); (try simp only [Act.put, List.setIfInBounds_toArray, List.set_cons_zero, List.set_cons_succ]))
  refine wpAnyH_ready (rs := [1]) (by kernel_rfl) (by simp) ?_
  refine AllReadyH.cons rfl (fun K hK => ?_) AllReadyH.nil
  go_simp
  go_at_call 16
  refine (show Calls _ _ _ _ _ from KB.out _).mono ?_
  rintro e x3 ⟨rfl, hp⟩
  have hn := Fp.trans hHeld hp (fun _ _ h => h.elim)
  replace B_g3 := hid_blk B_g3 hp
  replace B_g2 := hid_blk B_g2 hp
  refine k_now hK hn ?_
  clear hK K hp hHeld
  have hHeld := hn
  clear hn
  try simp only [Act.put, List.setIfInBounds_toArray, List.set_cons_zero, List.set_cons_succ]
  refine wpAnyH_ready (rs := [2]) (by kernel_rfl) (by simp) ?_
  refine AllReadyH.cons rfl (fun K hK => ?_) AllReadyH.nil
  go_simp
  go_at_call 16
  refine (show Calls _ _ _ _ _ from KB2.out _).mono ?_
  rintro e x4 ⟨rfl, hp⟩
  have hn := Fp.trans hHeld hp (fun _ _ h => h.elim)
  replace B_g3 := hid_blk B_g3 hp
  replace B_g2 := hid_blk B_g2 hp
  refine k_now hK hn ?_
  clear hK K hp hHeld
  have hHeld := hn
  clear hn
  try simp only [Act.put, List.setIfInBounds_toArray, List.set_cons_zero, List.set_cons_succ]
  (refine take_at 4 (some 13) rfl rfl (by kernel_rfl) (by kernel_rfl) (by kernel_rfl) (fun _ _ _ h => h) (v := ?_) (by kernel_rfl) ?_ (by assumption) ?_; rotate_left; (focus (intro wS hSw; skip; go_simp; try with_reducible rfl)); (try simp only [Act.put, List.setIfInBounds_toArray, List.set_cons_zero, List.set_cons_succ]))
  (refine take_at 5 (some 14) rfl rfl (by kernel_rfl) (by kernel_rfl) (by kernel_rfl) (fun _ _ _ h => h) (v := ?_) (by kernel_rfl) ?_ (by assumption) ?_; rotate_left; (focus (intro wS hSw; skip; go_simp; try with_reducible rfl)); (try simp only [Act.put, List.setIfInBounds_toArray, List.set_cons_zero, List.set_cons_succ]))
  (refine take_at 6 (some 15) rfl rfl (by kernel_rfl) (by kernel_rfl) (by kernel_rfl) (fun _ _ _ h => h) (v := ?_) (by kernel_rfl) ?_ (by assumption) ?_; rotate_left; (focus (intro wS hSw; have hX := fun b o (h : b < _) => hSw.cell (p := ⟨b, o, none⟩) h id; go_simp; try with_reducible rfl)); (try simp only [Act.put, List.setIfInBounds_toArray, List.set_cons_zero, List.set_cons_succ]))
  (refine take_at 9 (some 18) rfl rfl (by kernel_rfl) (by kernel_rfl) (by kernel_rfl) (fun _ _ _ h => h) (v := ?_) (by kernel_rfl) ?_ (by assumption) ?_; rotate_left; (focus (intro wS hSw; have hX := fun b o (h : b < _) => hSw.cell (p := ⟨b, o, none⟩) h id; go_simp; try with_reducible rfl)); (try simp only [Act.put, List.setIfInBounds_toArray, List.set_cons_zero, List.set_cons_succ]))
  refine wpAnyH_ready (rs := [7]) (by kernel_rfl) (by simp) ?_
  refine AllReadyH.cons rfl (fun K hK => ?_) AllReadyH.nil
  go_simp
  go_at_call 16
  refine (show Calls _ _ _ _ _ from KB.out _).mono ?_
  rintro e x5 ⟨rfl, hp⟩
  have hn := Fp.trans hHeld hp (fun _ _ h => h.elim)
  replace B_g3 := hid_blk B_g3 hp
  replace B_g2 := hid_blk B_g2 hp
  refine k_now hK hn ?_
  clear hK K hp hHeld
  have hHeld := hn
  clear hn
  try simp only [Act.put, List.setIfInBounds_toArray, List.set_cons_zero, List.set_cons_succ]
  refine wpAnyH_ready (rs := [8]) (by kernel_rfl) (by simp) ?_
  refine AllReadyH.cons rfl (fun K hK => ?_) AllReadyH.nil
  go_simp
  go_at_call 12
  refine (show Calls _ _ _ _ _ from KM2.out _ (HT.out.low (HN.out.trans hHeld (fun _ _ h => h.elim))).toP.base).mono ?_
  rintro e x6 ⟨rfl, hp⟩
  have hn := Fp.trans hHeld hp (fun _ _ h => h.elim)
  replace B_g3 := hid_blk B_g3 hp
  replace B_g2 := hid_blk B_g2 hp
  refine k_now hK hn ?_
  clear hK K hp hHeld
  have hHeld := hn
  clear hn
  try simp only [Act.put, List.setIfInBounds_toArray, List.set_cons_zero, List.set_cons_succ]
  refine wpAnyH_ready (rs := [10]) (by kernel_rfl) (by simp) ?_
  refine AllReadyH.cons rfl (fun K hK => ?_) AllReadyH.nil
  go_simp
  go_at_call 12
  refine (show Calls _ _ _ _ _ from KM.out _ (HT.out.low (HN.out.trans hHeld (fun _ _ h => h.elim))).toP.base).mono ?_
  rintro e x7 ⟨rfl, hp⟩
  have hn := Fp.trans hHeld hp (fun _ _ h => h.elim)
  replace B_g3 := hid_blk B_g3 hp
  replace B_g2 := hid_blk B_g2 hp
  refine k_now hK hn ?_
  clear hK K hp hHeld
  have hHeld := hn
  clear hn
  try simp only [Act.put, List.setIfInBounds_toArray, List.set_cons_zero, List.set_cons_succ]
  (refine take_at 11 (some 20) rfl rfl (by kernel_rfl) (by kernel_rfl) (by kernel_rfl) (fun _ _ _ h => h) (v := ?_) (by kernel_rfl) ?_ (by assumption) ?_; rotate_left; (focus (intro wS hSw; skip; go_simp; try with_reducible rfl)); (try simp only [Act.put, List.setIfInBounds_toArray, List.set_cons_zero, List.set_cons_succ]))
  (refine take_at 12 (some 21) rfl rfl (by kernel_rfl) (by kernel_rfl) (by kernel_rfl) (fun _ _ _ h => h) (v := ?_) (by kernel_rfl) ?_ (by assumption) ?_; rotate_left; (focus (intro wS hSw; skip; go_simp; try with_reducible rfl)); (try simp only [Act.put, List.setIfInBounds_toArray, List.set_cons_zero, List.set_cons_succ]))
  refine wpAnyH_done (by kernel_rfl) ?_ _
  clear cg20 cg21 cg22 cg23 cg24 zg2 lg2 cg30 cg31 cg32 cg33 cg34 zg3 lg3
  have hGe := hid_ge HN
  replace HN := hid_now HN hHeld
  clear hHeld hGe
  go_upto_region 3 with fail
  have cg20 := cell_at B_g2 0 rfl
  have cg21 := cell_at B_g2 1 rfl
  have cg22 := cell_at B_g2 2 rfl
  have cg23 := cell_at B_g2 3 rfl
  have cg24 := cell_at B_g2 4 rfl
  have zg2 := froz_at B_g2
  have lg2 := hid_lt B_g2
  have cg30 := cell_at B_g3 0 rfl
  have cg31 := cell_at B_g3 1 rfl
  have cg32 := cell_at B_g3 2 rfl
  have cg33 := cell_at B_g3 3 rfl
  have cg34 := cell_at B_g3 4 rfl
  have zg3 := froz_at B_g3
  have lg3 := hid_lt B_g3
  refine wp_region_held_drew (S := fun wx => NoW x7 wx) (by kernel_rfl) (Fp.drew (Fp.refl _ _)) (fun hHeld0 => ?_)
  refine any_eq hHeld0 (fun x8 hW hHeld => ?_)
  clear hHeld0
  replace B_g3 := hid_blk B_g3 (noW_drew hW)
  replace B_g2 := hid_blk B_g2 (noW_drew hW)
  clear hW
  (refine take_at 0 (some 22) rfl rfl (by kernel_rfl) (by kernel_rfl) (by kernel_rfl) (fun _ _ _ h => h) (v := ?_) (by kernel_rfl) ?_ (by assumption) ?_; rotate_left; (focus (intro wS hSw; have hX := fun b o (h : b < _) => hSw.cell (p := ⟨b, o, none⟩) h id; go_simp; try with_reducible rfl)); (try simp only [Act.put, List.setIfInBounds_toArray, List.set_cons_zero, List.set_cons_succ]))
  (refine take_at 1 (some 23) rfl rfl (by kernel_rfl) (by kernel_rfl) (by kernel_rfl) (fun _ _ _ h => h) (v := ?_) (by kernel_rfl) ?_ (by assumption) ?_; rotate_left; (focus (intro wS hSw; have hX := fun b o (h : b < _) => hSw.cell (p := ⟨b, o, none⟩) h id; go_simp; try with_reducible rfl)); (try simp only [Act.put, List.setIfInBounds_toArray, List.set_cons_zero, List.set_cons_succ]))
  (refine take_at 3 (some 25) rfl rfl (by kernel_rfl) (by kernel_rfl) (by kernel_rfl) (fun _ _ _ h => h) (v := ?_) (by kernel_rfl) ?_ (by assumption) ?_; rotate_left; (focus (intro wS hSw; have hX := fun b o (h : b < _) => hSw.cell (p := ⟨b, o, none⟩) h id; go_simp; try with_reducible rfl)); (try simp only [Act.put, List.setIfInBounds_toArray, List.set_cons_zero, List.set_cons_succ]))
  (refine take_at 4 (some 26) rfl rfl (by kernel_rfl) (by kernel_rfl) (by kernel_rfl) (fun _ _ _ h => h) (v := ?_) (by kernel_rfl) ?_ (by assumption) ?_; rotate_left; (focus (intro wS hSw; have hX := fun b o (h : b < _) => hSw.cell (p := ⟨b, o, none⟩) h id; go_simp; try with_reducible rfl)); (try simp only [Act.put, List.setIfInBounds_toArray, List.set_cons_zero, List.set_cons_succ]))
  refine wpAnyH_ready (rs := [2]) (by kernel_rfl) (by simp) ?_
  refine AllReadyH.cons rfl (fun K hK => ?_) AllReadyH.nil
  go_simp
  go_at_call 19
  refine (show Calls _ _ _ _ _ from KL.out _).mono ?_
  rintro e x9 ⟨rfl, hp⟩
  have hn := Fp.trans hHeld hp (fun _ _ h => h.elim)
  replace B_g3 := hid_blk B_g3 hp
  replace B_g2 := hid_blk B_g2 hp
  refine k_now hK hn ?_
  clear hK K hp hHeld
  have hHeld := hn
  clear hn
  try simp only [Act.put, List.setIfInBounds_toArray, List.set_cons_zero, List.set_cons_succ]
  refine wpAnyH_ready (rs := [5]) (by kernel_rfl) (by simp) ?_
  refine AllReadyH.cons rfl (fun K hK => ?_) AllReadyH.nil
  go_simp
  go_at_call 19
  refine (show Calls _ _ _ _ _ from KG.out _).mono ?_
  rintro e x10 ⟨rfl, hp⟩
  have hn := Fp.trans hHeld hp (fun _ _ h => h.elim)
  replace B_g3 := hid_blk B_g3 hp
  replace B_g2 := hid_blk B_g2 hp
  refine k_now hK hn ?_
  clear hK K hp hHeld
  have hHeld := hn
  clear hn
  try simp only [Act.put, List.setIfInBounds_toArray, List.set_cons_zero, List.set_cons_succ]
  (refine take_at 6 (some 5) rfl rfl (by kernel_rfl) (by kernel_rfl) (by kernel_rfl) (fun _ _ _ h => h) (v := ?_) (by kernel_rfl) ?_ (by assumption) ?_; rotate_left; (focus (intro wS hSw; skip; go_simp; try with_reducible rfl)); (try simp only [Act.put, List.setIfInBounds_toArray, List.set_cons_zero, List.set_cons_succ]))
  (refine take_at 7 (some 6) rfl rfl (by kernel_rfl) (by kernel_rfl) (by kernel_rfl) (fun _ _ _ h => h) (v := ?_) (by kernel_rfl) ?_ (by assumption) ?_; rotate_left; (focus (intro wS hSw; skip; go_simp; try with_reducible rfl)); (try simp only [Act.put, List.setIfInBounds_toArray, List.set_cons_zero, List.set_cons_succ]))
  refine wpAnyH_done (by kernel_rfl) ?_ _
  clear cg20 cg21 cg22 cg23 cg24 zg2 lg2 cg30 cg31 cg32 cg33 cg34 zg3 lg3
  have hGe := hid_ge HN
  replace HN := hid_now HN hHeld
  clear hHeld hGe
  have cg20 := cell_at B_g2 0 rfl
  have cg21 := cell_at B_g2 1 rfl
  have cg22 := cell_at B_g2 2 rfl
  have cg23 := cell_at B_g2 3 rfl
  have cg24 := cell_at B_g2 4 rfl
  have zg2 := froz_at B_g2
  have lg2 := hid_lt B_g2
  have cg30 := cell_at B_g3 0 rfl
  have cg31 := cell_at B_g3 1 rfl
  have cg32 := cell_at B_g3 2 rfl
  have cg33 := cell_at B_g3 3 rfl
  have cg34 := cell_at B_g3 4 rfl
  have zg3 := froz_at B_g3
  have lg3 := hid_lt B_g3
  go_wp2_with fail
  clear cg20 cg21 cg22 cg23 cg24 zg2 lg2 cg30 cg31 cg32 cg33 cg34 zg3 lg3
  refine (show Calls _ _ _ _ _ from KT.out _ (HT.out.low HN.out).toP.base).mono ?_
  rintro e x11 ⟨rfl, hp⟩
  replace HN := hid_now HN hp
  replace B_g3 := hid_blk B_g3 hp
  replace B_g2 := hid_blk B_g2 hp
  clear hp
  go_wp2_with fail
  refine (show Calls _ _ _ _ _ from KP.out _ (HT.out.low HN.out)).mono ?_
  rintro e x12 ⟨rfl, hp⟩
  replace HN := hid_now HN hp
  replace B_g3 := hid_blk B_g3 hp
  replace B_g2 := hid_blk B_g2 hp
  clear hp
  go_upto_region 7 with fail
  refine wp_gen (fun x13 hW => ?_)
  have l2g3 := hid_lt B_g3
  have l2g2 := hid_lt B_g2
  have hp := new_now hW
  have hB := new_blk hW
  clear hW
  have hGe := hid_ge HN
  replace HN := hid_now HN hp
  replace B_g3 := hid_blk B_g3 hp
  replace B_g2 := hid_blk B_g2 hp
  obtain ⟨g7, hg7⟩ : ∃ g7, g7 = x12.heap.size := ⟨_, rfl⟩
  have G_g7 := Lib.hid (Nat.le_trans hGe (Nat.le_of_eq hg7.symm))
  have n_g3_g7 : ¬ g3 = g7 := by omega
  have n_g7_g3 : ¬ g7 = g3 := by omega
  clear l2g3
  have n_g2_g7 : ¬ g2 = g7 := by omega
  have n_g7_g2 : ¬ g7 = g2 := by omega
  clear l2g2
  rw [← hg7] at hB ⊢
  have B_g7 := hB
  clear hB hGe hg7
  clear hp
  have cg20 := cell_at B_g2 0 rfl
  have cg21 := cell_at B_g2 1 rfl
  have cg22 := cell_at B_g2 2 rfl
  have cg23 := cell_at B_g2 3 rfl
  have cg24 := cell_at B_g2 4 rfl
  have zg2 := froz_at B_g2
  have lg2 := hid_lt B_g2
  go_wp2_with fail
  clear cg20 cg21 cg22 cg23 cg24 zg2 lg2
  refine (show Calls _ _ _ _ _ from KM.out _ (HT.out.low HN.out).toP.base).mono ?_
  rintro e x14 ⟨rfl, hp⟩
  replace HN := hid_now HN hp
  replace B_g3 := hid_blk B_g3 hp
  replace B_g2 := hid_blk B_g2 hp
  replace B_g7 := hid_blk B_g7 hp
  clear hp
  go_upto_region 9 with fail
  have cg20 := cell_at B_g2 0 rfl
  have cg21 := cell_at B_g2 1 rfl
  have cg22 := cell_at B_g2 2 rfl
  have cg23 := cell_at B_g2 3 rfl
  have cg24 := cell_at B_g2 4 rfl
  have zg2 := froz_at B_g2
  have lg2 := hid_lt B_g2
  have cg30 := cell_at B_g3 0 rfl
  have cg31 := cell_at B_g3 1 rfl
  have cg32 := cell_at B_g3 2 rfl
  have cg33 := cell_at B_g3 3 rfl
  have cg34 := cell_at B_g3 4 rfl
  have zg3 := froz_at B_g3
  have lg3 := hid_lt B_g3
  have cg70 := cell_at B_g7 0 rfl
  have cg71 := cell_at B_g7 1 rfl
  have cg72 := cell_at B_g7 2 rfl
  have cg73 := cell_at B_g7 3 rfl
  have cg74 := cell_at B_g7 4 rfl
  have zg7 := froz_at B_g7
  have lg7 := hid_lt B_g7
  refine wp_region_held_drew (S := fun wx => NoW x14 wx) (by kernel_rfl) (Fp.drew (Fp.refl _ _)) (fun hHeld0 => ?_)
  refine any_eq hHeld0 (fun x15 hW hHeld => ?_)
  clear hHeld0
  replace B_g3 := hid_blk B_g3 (noW_drew hW)
  replace B_g2 := hid_blk B_g2 (noW_drew hW)
  replace B_g7 := hid_blk B_g7 (noW_drew hW)
  clear hW
  (refine take_at 0 (some 63) rfl rfl (by kernel_rfl) (by kernel_rfl) (by kernel_rfl) (fun _ _ _ h => h) (v := ?_) (by kernel_rfl) ?_ (by assumption) ?_; rotate_left; (focus (intro wS hSw; have hX := fun b o (h : b < _) => hSw.cell (p := ⟨b, o, none⟩) h id; go_simp; try with_reducible rfl)); (try simp only [Act.put, List.setIfInBounds_toArray, List.set_cons_zero, List.set_cons_succ]))
  (refine take_at 1 (some 64) rfl rfl (by kernel_rfl) (by kernel_rfl) (by kernel_rfl) (fun _ _ _ h => h) (v := ?_) (by kernel_rfl) ?_ (by assumption) ?_; rotate_left; (focus (intro wS hSw; have hX := fun b o (h : b < _) => hSw.cell (p := ⟨b, o, none⟩) h id; go_simp; try with_reducible rfl)); (try simp only [Act.put, List.setIfInBounds_toArray, List.set_cons_zero, List.set_cons_succ]))
  (refine take_at 2 (some 65) rfl rfl (by kernel_rfl) (by kernel_rfl) (by kernel_rfl) (fun _ _ _ h => h) (v := ?_) (by kernel_rfl) ?_ (by assumption) ?_; rotate_left; (focus (intro wS hSw; skip; go_simp; try with_reducible rfl)); (try simp only [Act.put, List.setIfInBounds_toArray, List.set_cons_zero, List.set_cons_succ]))
  (refine take_at 3 (some 66) rfl rfl (by kernel_rfl) (by kernel_rfl) (by kernel_rfl) (fun _ _ _ h => h) (v := ?_) (by kernel_rfl) ?_ (by assumption) ?_; rotate_left; (focus (intro wS hSw; skip; go_simp; try with_reducible rfl)); (try simp only [Act.put, List.setIfInBounds_toArray, List.set_cons_zero, List.set_cons_succ]))
  (refine take_at 4 (some 67) rfl rfl (by kernel_rfl) (by kernel_rfl) (by kernel_rfl) (fun _ _ _ h => h) (v := ?_) (by kernel_rfl) ?_ (by assumption) ?_; rotate_left; (focus (intro wS hSw; skip; go_simp; try with_reducible rfl)); (try simp only [Act.put, List.setIfInBounds_toArray, List.set_cons_zero, List.set_cons_succ]))
  (refine take_at 5 (some 68) rfl rfl (by kernel_rfl) (by kernel_rfl) (by kernel_rfl) (fun _ _ _ h => h) (v := ?_) (by kernel_rfl) ?_ (by assumption) ?_; rotate_left; (focus (intro wS hSw; skip; go_simp; try with_reducible rfl)); (try simp only [Act.put, List.setIfInBounds_toArray, List.set_cons_zero, List.set_cons_succ]))
  (refine take_at 6 (some 69) rfl rfl (by kernel_rfl) (by kernel_rfl) (by kernel_rfl) (fun _ _ _ h => h) (v := ?_) (by kernel_rfl) ?_ (by assumption) ?_; rotate_left; (focus (intro wS hSw; skip; go_simp; try with_reducible rfl)); (try simp only [Act.put, List.setIfInBounds_toArray, List.set_cons_zero, List.set_cons_succ]))
  (refine take_at 7 (some 70) rfl rfl (by kernel_rfl) (by kernel_rfl) (by kernel_rfl) (fun _ _ _ h => h) (v := ?_) (by kernel_rfl) ?_ (by assumption) ?_; rotate_left; (focus (intro wS hSw; skip; go_simp; try with_reducible rfl)); (try simp only [Act.put, List.setIfInBounds_toArray, List.set_cons_zero, List.set_cons_succ]))
  (refine take_at 8 (some 71) rfl rfl (by kernel_rfl) (by kernel_rfl) (by kernel_rfl) (fun _ _ _ h => h) (v := ?_) (by kernel_rfl) ?_ (by assumption) ?_; rotate_left; (focus (intro wS hSw; have hX := fun b o (h : b < _) => hSw.cell (p := ⟨b, o, none⟩) h id; go_simp; try with_reducible rfl)); (try simp only [Act.put, List.setIfInBounds_toArray, List.set_cons_zero, List.set_cons_succ]))
  refine wpAnyH_ready (rs := [9]) (by kernel_rfl) (by simp) ?_
  refine AllReadyH.cons rfl (fun K hK => ?_) AllReadyH.nil
  go_simp
  go_at_call 12
  refine (show Calls _ _ _ _ _ from KN.out _ (HT.out.low (HN.out.trans hHeld (fun _ _ h => h.elim))).toP.base).mono ?_
  rintro e x16 ⟨rfl, hp⟩
  have hn := Fp.trans hHeld hp (fun _ _ h => h.elim)
  replace B_g3 := hid_blk B_g3 hp
  replace B_g2 := hid_blk B_g2 hp
  replace B_g7 := hid_blk B_g7 hp
  refine k_now hK hn ?_
  clear hK K hp hHeld
  have hHeld := hn
  clear hn
  try simp only [Act.put, List.setIfInBounds_toArray, List.set_cons_zero, List.set_cons_succ]
  (refine take_at 10 (some 73) rfl rfl (by kernel_rfl) (by kernel_rfl) (by kernel_rfl) (fun _ _ _ h => h) (v := ?_) (by kernel_rfl) ?_ (by assumption) ?_; rotate_left; (focus (intro wS hSw; skip; go_simp; try with_reducible rfl)); (try simp only [Act.put, List.setIfInBounds_toArray, List.set_cons_zero, List.set_cons_succ]))
  (refine take_at 11 (some 74) rfl rfl (by kernel_rfl) (by kernel_rfl) (by kernel_rfl) (fun _ _ _ h => h) (v := ?_) (by kernel_rfl) ?_ (by assumption) ?_; rotate_left; (focus (intro wS hSw; skip; go_simp; try with_reducible rfl)); (try simp only [Act.put, List.setIfInBounds_toArray, List.set_cons_zero, List.set_cons_succ]))
  (refine drop_at 12 (some 75) rfl rfl (by kernel_rfl) (by kernel_rfl) (by kernel_rfl) (fun _ _ _ h => h) (by kernel_rfl) (by assumption) ?_; (try simp only [Act.put, List.setIfInBounds_toArray, List.set_cons_zero, List.set_cons_succ]))
  (refine drop_at 13 (some 76) rfl rfl (by kernel_rfl) (by kernel_rfl) (by kernel_rfl) (fun _ _ _ h => h) (by kernel_rfl) (by assumption) ?_; (try simp only [Act.put, List.setIfInBounds_toArray, List.set_cons_zero, List.set_cons_succ]))
  (refine drop_at 14 (some 77) rfl rfl (by kernel_rfl) (by kernel_rfl) (by kernel_rfl) (fun _ _ _ h => h) (by kernel_rfl) (by assumption) ?_; (try simp only [Act.put, List.setIfInBounds_toArray, List.set_cons_zero, List.set_cons_succ]))
  (refine drop_at 15 (some 78) rfl rfl (by kernel_rfl) (by kernel_rfl) (by kernel_rfl) (fun _ _ _ h => h) (by kernel_rfl) (by assumption) ?_; (try simp only [Act.put, List.setIfInBounds_toArray, List.set_cons_zero, List.set_cons_succ]))
  (refine drop_at 16 (some 79) rfl rfl (by kernel_rfl) (by kernel_rfl) (by kernel_rfl) (fun _ _ _ h => h) (by kernel_rfl) (by assumption) ?_; (try simp only [Act.put, List.setIfInBounds_toArray, List.set_cons_zero, List.set_cons_succ]))
  (refine drop_at 17 (some 80) rfl rfl (by kernel_rfl) (by kernel_rfl) (by kernel_rfl) (fun _ _ _ h => h) (by kernel_rfl) (by assumption) ?_; (try simp only [Act.put, List.setIfInBounds_toArray, List.set_cons_zero, List.set_cons_succ]))
  (refine drop_at 18 (some 81) rfl rfl (by kernel_rfl) (by kernel_rfl) (by kernel_rfl) (fun _ _ _ h => h) (by kernel_rfl) (by assumption) ?_; (try simp only [Act.put, List.setIfInBounds_toArray, List.set_cons_zero, List.set_cons_succ]))
  (refine drop_at 19 (some 82) rfl rfl (by kernel_rfl) (by kernel_rfl) (by kernel_rfl) (fun _ _ _ h => h) (by kernel_rfl) (by assumption) ?_; (try simp only [Act.put, List.setIfInBounds_toArray, List.set_cons_zero, List.set_cons_succ]))
  (refine drop_at 20 (some 83) rfl rfl (by kernel_rfl) (by kernel_rfl) (by kernel_rfl) (fun _ _ _ h => h) (by kernel_rfl) (by assumption) ?_; (try simp only [Act.put, List.setIfInBounds_toArray, List.set_cons_zero, List.set_cons_succ]))
  (refine take_at 21 (some 84) rfl rfl (by kernel_rfl) (by kernel_rfl) (by kernel_rfl) (fun _ _ _ h => h) (v := ?_) (by kernel_rfl) ?_ (by assumption) ?_; rotate_left; (focus (intro wS hSw; skip; go_simp; try with_reducible rfl)); (try simp only [Act.put, List.setIfInBounds_toArray, List.set_cons_zero, List.set_cons_succ]))
  (refine take_at 22 (some 85) rfl rfl (by kernel_rfl) (by kernel_rfl) (by kernel_rfl) (fun _ _ _ h => h) (v := ?_) (by kernel_rfl) ?_ (by assumption) ?_; rotate_left; (focus (intro wS hSw; skip; go_simp; try with_reducible rfl)); (try simp only [Act.put, List.setIfInBounds_toArray, List.set_cons_zero, List.set_cons_succ]))
  (refine take_at 23 (some 86) rfl rfl (by kernel_rfl) (by kernel_rfl) (by kernel_rfl) (fun _ _ _ h => h) (v := ?_) (by kernel_rfl) ?_ (by assumption) ?_; rotate_left; (focus (intro wS hSw; skip; go_simp; try with_reducible rfl)); (try simp only [Act.put, List.setIfInBounds_toArray, List.set_cons_zero, List.set_cons_succ]))
  refine wpAnyH_ready (rs := [24]) (by kernel_rfl) (by simp) ?_
  refine AllReadyH.cons rfl (fun K hK => ?_) AllReadyH.nil
  go_simp
  go_at_call 9
  refine (show Calls _ _ _ _ _ from watched_ok _ (HT.out.low (HN.out.trans hHeld (fun _ _ h => h.elim)))).mono ?_
  rintro e x17 ⟨rfl, hp⟩
  have hn := Fp.trans hHeld hp (fun _ _ h => h.elim)
  replace B_g3 := hid_blk B_g3 hp
  replace B_g2 := hid_blk B_g2 hp
  replace B_g7 := hid_blk B_g7 hp
  refine k_now hK hn ?_
  clear hK K hp hHeld
  have hHeld := hn
  clear hn
  try simp only [Act.put, List.setIfInBounds_toArray, List.set_cons_zero, List.set_cons_succ]
  (refine take_at 25 (some 88) rfl rfl (by kernel_rfl) (by kernel_rfl) (by kernel_rfl) (fun _ _ _ h => h) (v := ?_) (by kernel_rfl) ?_ (by assumption) ?_; rotate_left; (focus (intro wS hSw; skip; go_simp; try with_reducible rfl)); (try simp only [Act.put, List.setIfInBounds_toArray, List.set_cons_zero, List.set_cons_succ]))
  (refine take_at 26 (some 4) rfl rfl (by kernel_rfl) (by kernel_rfl) (by kernel_rfl) (fun _ _ _ h => h) (v := ?_) (by kernel_rfl) ?_ (by assumption) ?_; rotate_left; (focus (intro wS hSw; skip; go_simp; try with_reducible rfl)); (try simp only [Act.put, List.setIfInBounds_toArray, List.set_cons_zero, List.set_cons_succ]))
  refine wpAnyH_done (by kernel_rfl) ?_ _
  clear cg20 cg21 cg22 cg23 cg24 zg2 lg2 cg30 cg31 cg32 cg33 cg34 zg3 lg3 cg70 cg71 cg72 cg73 cg74 zg7 lg7
  have hGe := hid_ge HN
  replace HN := hid_now HN hHeld
  clear hHeld hGe
  go_wp2_with fail
  go_ret
  exact ⟨rfl, HN.out⟩
set_option maxHeartbeats 8000000 in
set_option maxRecDepth 100000 in
theorem tb_lt11 (k a p b q : Nat) (hk : k < 256) (ha : a < 4294967296) (hp : p < 65536) (hb : b < 4294967296) (hq : q < 65536) (h1 : tupB k p q = true) (k2 a2 p2 b2 q2 : Nat) (hk2 : k2 < 256) (ha2 : a2 < 4294967296) (hp2 : p2 < 65536) (hb2 : b2 < 4294967296) (hq2 : q2 < 65536) (h2 : tupB k2 p2 q2 = true) (hne : ¬ (k = k2 ∧ a = a2 ∧ p = p2 ∧ b = b2 ∧ q = q2)) (hr : tkey k a p b q < tkey k2 a2 p2 b2 q2) (w : World) (ht : TbQ w) : Calls Tryz.prog 7 #[.agg #[.int .u8 (k : Nat), .int .u32 (a : Nat), .int .u16 (p : Nat), .int .u32 (b : Nat), .int .u16 (q : Nat)], .agg #[.int .u8 (k2 : Nat), .int .u32 (a2 : Nat), .int .u16 (p2 : Nat), .int .u32 (b2 : Nat), .int .u16 (q2 : Nat)]] w (Ret1 (.bool true) w) := by
  have KB := Lib.hid (fun W => back_ok k a p b q W)
  have KB2 := Lib.hid (fun W => back_ok k b q a p W)
  have KM := Lib.hid (fun W hW => tup_ok k a p b q hk W hW)
  have KM2 := Lib.hid (fun W hW => tup_ok k b q a p hk W hW)
  have KN := Lib.hid (fun W hW => tup_ok k2 a2 p2 b2 q2 hk2 W hW)
  have KL := Lib.hid (fun W => tless_ok k a p b q k2 a2 p2 b2 q2 ha hp hb hq ha2 hp2 hb2 hq2 W)
  have KG := Lib.hid (fun W => tless_ok k2 a2 p2 b2 q2 k a p b q ha2 hp2 hb2 hq2 ha hp hb hq W)
  have KT := Lib.hid (fun W hW => text_any k a p b q hk ha hp hb hq W hW)
  have KU := Lib.hid (fun W hW => text_any k2 a2 p2 b2 q2 hk2 ha2 hp2 hb2 hq2 W hW)
  have hl := tupX_len k a p b q ha hp hb hq
  have KP := Lib.hid (fun W hW => tup_parse (tupX k a p b q) (by omega) W hW)
  rw [tupX_of k a p b q ha hp hb hq, h1] at KP
  rw [tupB_sym k q p, h1] at KM2
  rw [h1] at KM
  rw [h2] at KN
  rw [decide_eq_true hr] at KL
  rw [decide_eq_false (Nat.lt_asymm hr)] at KG
  have e1 : ∀ W, (binOp .eql 29 (.agg #[.int .u8 (k : Nat), .int .u32 (a : Nat), .int .u16 (p : Nat), .int .u32 (b : Nat), .int .u16 (q : Nat)]) (.agg #[.int .u8 (k2 : Nat), .int .u32 (a2 : Nat), .int .u16 (p2 : Nat), .int .u32 (b2 : Nat), .int .u16 (q2 : Nat)])).run Tryz.prog W = .ok (.bool false) W := fun W => by rw [tup_eq2]; simp [hne]
  have e2 : ∀ W, (binOp .eql 29 (.agg #[.int .u8 (k : Nat), .int .u32 (a : Nat), .int .u16 (p : Nat), .int .u32 (b : Nat), .int .u16 (q : Nat)]) (.agg #[.int .u8 (k : Nat), .int .u32 (a : Nat), .int .u16 (p : Nat), .int .u32 (b : Nat), .int .u16 (q : Nat)])).run Tryz.prog W = .ok (.bool true) W := fun W => by rw [tup_eq2]; simp
  have e3 : ∀ W, (binOp .neq 29 (.agg #[.int .u8 (k : Nat), .int .u32 (a : Nat), .int .u16 (p : Nat), .int .u32 (b : Nat), .int .u16 (q : Nat)]) (.agg #[.int .u8 (k : Nat), .int .u32 (a : Nat), .int .u16 (p : Nat), .int .u32 (b : Nat), .int .u16 (q : Nat)])).run Tryz.prog W = .ok (.bool false) W := fun W => by rw [tup_neq2]; simp
  have s0 : (tupX k a p b q == tupX k2 a2 p2 b2 q2) = false := beq_eq_false_iff_ne.2 fun e => hne (tupX_inj ha hp hb hq ha2 hp2 hb2 hq2 h1 h2 e)
  clear hl
  generalize tupX k a p b q = tx at *
  unfold tupRV at KP
  simp only [if_true, if_false, Bool.false_eq_true] at KP
  generalize tupX k2 a2 p2 b2 q2 = tx2 at *
  clear h1 h2 hne hr
  go_enter Tryz.func7, Tryz.ntmps7
  go_upto_region 1 with fail
  have HN := Lib.hid (Fp.refl (fun _ => False) w)
  have HT := Lib.hid ht
  refine wp_gen (fun x1 hW => ?_)
  obtain ⟨hB, hB2, hp⟩ := new2_blk hW
  clear hW
  have hGe := hid_ge HN
  have hGe2 := Nat.le_succ_of_le hGe
  replace HN := hid_now HN hp
  change w.heap.size ≤ w.heap.size + 1 at hGe2
  obtain ⟨g3, hg3⟩ : ∃ g3, g3 = w.heap.size + 1 := ⟨_, rfl⟩
  have G_g3 := Lib.hid (Nat.le_trans hGe2 (Nat.le_of_eq hg3.symm))
  rw [← hg3] at hB2 ⊢
  have B_g3 := hB2
  clear hB2 hGe2 hg3
  obtain ⟨g2, hg2⟩ : ∃ g2, g2 = w.heap.size := ⟨_, rfl⟩
  have G_g2 := Lib.hid (Nat.le_trans hGe (Nat.le_of_eq hg2.symm))
  rw [← hg2] at hB ⊢
  have B_g2 := hB
  clear hB hGe hg2
  skip
  clear hp
  have cg20 := cell_at B_g2 0 rfl
  have cg21 := cell_at B_g2 1 rfl
  have cg22 := cell_at B_g2 2 rfl
  have cg23 := cell_at B_g2 3 rfl
  have cg24 := cell_at B_g2 4 rfl
  have zg2 := froz_at B_g2
  have lg2 := hid_lt B_g2
  have cg30 := cell_at B_g3 0 rfl
  have cg31 := cell_at B_g3 1 rfl
  have cg32 := cell_at B_g3 2 rfl
  have cg33 := cell_at B_g3 3 rfl
  have cg34 := cell_at B_g3 4 rfl
  have zg3 := froz_at B_g3
  have lg3 := hid_lt B_g3
  refine wp_region_held_drew (S := fun wx => NoW x1 wx) (by kernel_rfl) (Fp.drew (Fp.refl _ _)) (fun hHeld0 => ?_)
  refine any_eq hHeld0 (fun x2 hW hHeld => ?_)
  clear hHeld0
  replace B_g3 := hid_blk B_g3 (noW_drew hW)
  replace B_g2 := hid_blk B_g2 (noW_drew hW)
  clear hW
  (refine take_at 0 (some 9) rfl rfl (by kernel_rfl) (by kernel_rfl) (by kernel_rfl) (fun _ _ _ h => h) (v := ?_) (by kernel_rfl) ?_ (by assumption) ?_; rotate_left; (focus (intro wS hSw; have hX := fun b o (h : b < _) => hSw.cell (p := ⟨b, o, none⟩) h id; go_simp; try with_reducible rfl)); (try simp only [Act.put, List.setIfInBounds_toArray, List.set_cons_zero, List.set_cons_succ]))
  (refine take_at 3 (some 12) rfl rfl (by kernel_rfl) (by kernel_rfl) (by kernel_rfl) (fun _ _ _ h => h) (v := ?_) (by kernel_rfl) ?_ (by assumption) ?_; rotate_left; (focus (intro wS hSw; have hX := fun b o (h : b < _) => hSw.cell (p := ⟨b, o, none⟩) h id; go_simp; try with_reducible rfl)); (try simp only [Act.put, List.setIfInBounds_toArray, List.set_cons_zero, List.set_cons_succ]))
  refine wpAnyH_ready (rs := [1]) (by kernel_rfl) (by simp) ?_
  refine AllReadyH.cons rfl (fun K hK => ?_) AllReadyH.nil
  go_simp
  go_at_call 16
  refine (show Calls _ _ _ _ _ from KB.out _).mono ?_
  rintro e x3 ⟨rfl, hp⟩
  have hn := Fp.trans hHeld hp (fun _ _ h => h.elim)
  replace B_g3 := hid_blk B_g3 hp
  replace B_g2 := hid_blk B_g2 hp
  refine k_now hK hn ?_
  clear hK K hp hHeld
  have hHeld := hn
  clear hn
  try simp only [Act.put, List.setIfInBounds_toArray, List.set_cons_zero, List.set_cons_succ]
  refine wpAnyH_ready (rs := [2]) (by kernel_rfl) (by simp) ?_
  refine AllReadyH.cons rfl (fun K hK => ?_) AllReadyH.nil
  go_simp
  go_at_call 16
  refine (show Calls _ _ _ _ _ from KB2.out _).mono ?_
  rintro e x4 ⟨rfl, hp⟩
  have hn := Fp.trans hHeld hp (fun _ _ h => h.elim)
  replace B_g3 := hid_blk B_g3 hp
  replace B_g2 := hid_blk B_g2 hp
  refine k_now hK hn ?_
  clear hK K hp hHeld
  have hHeld := hn
  clear hn
  try simp only [Act.put, List.setIfInBounds_toArray, List.set_cons_zero, List.set_cons_succ]
  (refine take_at 4 (some 13) rfl rfl (by kernel_rfl) (by kernel_rfl) (by kernel_rfl) (fun _ _ _ h => h) (v := ?_) (by kernel_rfl) ?_ (by assumption) ?_; rotate_left; (focus (intro wS hSw; skip; go_simp; try with_reducible rfl)); (try simp only [Act.put, List.setIfInBounds_toArray, List.set_cons_zero, List.set_cons_succ]))
  (refine take_at 5 (some 14) rfl rfl (by kernel_rfl) (by kernel_rfl) (by kernel_rfl) (fun _ _ _ h => h) (v := ?_) (by kernel_rfl) ?_ (by assumption) ?_; rotate_left; (focus (intro wS hSw; skip; go_simp; try with_reducible rfl)); (try simp only [Act.put, List.setIfInBounds_toArray, List.set_cons_zero, List.set_cons_succ]))
  (refine take_at 6 (some 15) rfl rfl (by kernel_rfl) (by kernel_rfl) (by kernel_rfl) (fun _ _ _ h => h) (v := ?_) (by kernel_rfl) ?_ (by assumption) ?_; rotate_left; (focus (intro wS hSw; have hX := fun b o (h : b < _) => hSw.cell (p := ⟨b, o, none⟩) h id; go_simp; try with_reducible rfl)); (try simp only [Act.put, List.setIfInBounds_toArray, List.set_cons_zero, List.set_cons_succ]))
  (refine take_at 9 (some 18) rfl rfl (by kernel_rfl) (by kernel_rfl) (by kernel_rfl) (fun _ _ _ h => h) (v := ?_) (by kernel_rfl) ?_ (by assumption) ?_; rotate_left; (focus (intro wS hSw; have hX := fun b o (h : b < _) => hSw.cell (p := ⟨b, o, none⟩) h id; go_simp; try with_reducible rfl)); (try simp only [Act.put, List.setIfInBounds_toArray, List.set_cons_zero, List.set_cons_succ]))
  refine wpAnyH_ready (rs := [7]) (by kernel_rfl) (by simp) ?_
  refine AllReadyH.cons rfl (fun K hK => ?_) AllReadyH.nil
  go_simp
  go_at_call 16
  refine (show Calls _ _ _ _ _ from KB.out _).mono ?_
  rintro e x5 ⟨rfl, hp⟩
  have hn := Fp.trans hHeld hp (fun _ _ h => h.elim)
  replace B_g3 := hid_blk B_g3 hp
  replace B_g2 := hid_blk B_g2 hp
  refine k_now hK hn ?_
  clear hK K hp hHeld
  have hHeld := hn
  clear hn
  try simp only [Act.put, List.setIfInBounds_toArray, List.set_cons_zero, List.set_cons_succ]
  refine wpAnyH_ready (rs := [8]) (by kernel_rfl) (by simp) ?_
  refine AllReadyH.cons rfl (fun K hK => ?_) AllReadyH.nil
  go_simp
  go_at_call 12
  refine (show Calls _ _ _ _ _ from KM2.out _ (HT.out.low (HN.out.trans hHeld (fun _ _ h => h.elim))).toP.base).mono ?_
  rintro e x6 ⟨rfl, hp⟩
  have hn := Fp.trans hHeld hp (fun _ _ h => h.elim)
  replace B_g3 := hid_blk B_g3 hp
  replace B_g2 := hid_blk B_g2 hp
  refine k_now hK hn ?_
  clear hK K hp hHeld
  have hHeld := hn
  clear hn
  try simp only [Act.put, List.setIfInBounds_toArray, List.set_cons_zero, List.set_cons_succ]
  refine wpAnyH_ready (rs := [10]) (by kernel_rfl) (by simp) ?_
  refine AllReadyH.cons rfl (fun K hK => ?_) AllReadyH.nil
  go_simp
  go_at_call 12
  refine (show Calls _ _ _ _ _ from KM.out _ (HT.out.low (HN.out.trans hHeld (fun _ _ h => h.elim))).toP.base).mono ?_
  rintro e x7 ⟨rfl, hp⟩
  have hn := Fp.trans hHeld hp (fun _ _ h => h.elim)
  replace B_g3 := hid_blk B_g3 hp
  replace B_g2 := hid_blk B_g2 hp
  refine k_now hK hn ?_
  clear hK K hp hHeld
  have hHeld := hn
  clear hn
  try simp only [Act.put, List.setIfInBounds_toArray, List.set_cons_zero, List.set_cons_succ]
  (refine take_at 11 (some 20) rfl rfl (by kernel_rfl) (by kernel_rfl) (by kernel_rfl) (fun _ _ _ h => h) (v := ?_) (by kernel_rfl) ?_ (by assumption) ?_; rotate_left; (focus (intro wS hSw; skip; go_simp; try with_reducible rfl)); (try simp only [Act.put, List.setIfInBounds_toArray, List.set_cons_zero, List.set_cons_succ]))
  (refine take_at 12 (some 21) rfl rfl (by kernel_rfl) (by kernel_rfl) (by kernel_rfl) (fun _ _ _ h => h) (v := ?_) (by kernel_rfl) ?_ (by assumption) ?_; rotate_left; (focus (intro wS hSw; skip; go_simp; try with_reducible rfl)); (try simp only [Act.put, List.setIfInBounds_toArray, List.set_cons_zero, List.set_cons_succ]))
  refine wpAnyH_done (by kernel_rfl) ?_ _
  clear cg20 cg21 cg22 cg23 cg24 zg2 lg2 cg30 cg31 cg32 cg33 cg34 zg3 lg3
  have hGe := hid_ge HN
  replace HN := hid_now HN hHeld
  clear hHeld hGe
  go_upto_region 3 with fail
  have cg20 := cell_at B_g2 0 rfl
  have cg21 := cell_at B_g2 1 rfl
  have cg22 := cell_at B_g2 2 rfl
  have cg23 := cell_at B_g2 3 rfl
  have cg24 := cell_at B_g2 4 rfl
  have zg2 := froz_at B_g2
  have lg2 := hid_lt B_g2
  have cg30 := cell_at B_g3 0 rfl
  have cg31 := cell_at B_g3 1 rfl
  have cg32 := cell_at B_g3 2 rfl
  have cg33 := cell_at B_g3 3 rfl
  have cg34 := cell_at B_g3 4 rfl
  have zg3 := froz_at B_g3
  have lg3 := hid_lt B_g3
  refine wp_region_held_drew (S := fun wx => NoW x7 wx) (by kernel_rfl) (Fp.drew (Fp.refl _ _)) (fun hHeld0 => ?_)
  refine any_eq hHeld0 (fun x8 hW hHeld => ?_)
  clear hHeld0
  replace B_g3 := hid_blk B_g3 (noW_drew hW)
  replace B_g2 := hid_blk B_g2 (noW_drew hW)
  clear hW
  (refine take_at 0 (some 22) rfl rfl (by kernel_rfl) (by kernel_rfl) (by kernel_rfl) (fun _ _ _ h => h) (v := ?_) (by kernel_rfl) ?_ (by assumption) ?_; rotate_left; (focus (intro wS hSw; have hX := fun b o (h : b < _) => hSw.cell (p := ⟨b, o, none⟩) h id; go_simp; try with_reducible rfl)); (try simp only [Act.put, List.setIfInBounds_toArray, List.set_cons_zero, List.set_cons_succ]))
  (refine take_at 1 (some 23) rfl rfl (by kernel_rfl) (by kernel_rfl) (by kernel_rfl) (fun _ _ _ h => h) (v := ?_) (by kernel_rfl) ?_ (by assumption) ?_; rotate_left; (focus (intro wS hSw; have hX := fun b o (h : b < _) => hSw.cell (p := ⟨b, o, none⟩) h id; go_simp; try with_reducible rfl)); (try simp only [Act.put, List.setIfInBounds_toArray, List.set_cons_zero, List.set_cons_succ]))
  (refine take_at 3 (some 25) rfl rfl (by kernel_rfl) (by kernel_rfl) (by kernel_rfl) (fun _ _ _ h => h) (v := ?_) (by kernel_rfl) ?_ (by assumption) ?_; rotate_left; (focus (intro wS hSw; have hX := fun b o (h : b < _) => hSw.cell (p := ⟨b, o, none⟩) h id; go_simp; try with_reducible rfl)); (try simp only [Act.put, List.setIfInBounds_toArray, List.set_cons_zero, List.set_cons_succ]))
  (refine take_at 4 (some 26) rfl rfl (by kernel_rfl) (by kernel_rfl) (by kernel_rfl) (fun _ _ _ h => h) (v := ?_) (by kernel_rfl) ?_ (by assumption) ?_; rotate_left; (focus (intro wS hSw; have hX := fun b o (h : b < _) => hSw.cell (p := ⟨b, o, none⟩) h id; go_simp; try with_reducible rfl)); (try simp only [Act.put, List.setIfInBounds_toArray, List.set_cons_zero, List.set_cons_succ]))
  refine wpAnyH_ready (rs := [2]) (by kernel_rfl) (by simp) ?_
  refine AllReadyH.cons rfl (fun K hK => ?_) AllReadyH.nil
  go_simp
  go_at_call 19
  refine (show Calls _ _ _ _ _ from KL.out _).mono ?_
  rintro e x9 ⟨rfl, hp⟩
  have hn := Fp.trans hHeld hp (fun _ _ h => h.elim)
  replace B_g3 := hid_blk B_g3 hp
  replace B_g2 := hid_blk B_g2 hp
  refine k_now hK hn ?_
  clear hK K hp hHeld
  have hHeld := hn
  clear hn
  try simp only [Act.put, List.setIfInBounds_toArray, List.set_cons_zero, List.set_cons_succ]
  refine wpAnyH_ready (rs := [5]) (by kernel_rfl) (by simp) ?_
  refine AllReadyH.cons rfl (fun K hK => ?_) AllReadyH.nil
  go_simp
  go_at_call 19
  refine (show Calls _ _ _ _ _ from KG.out _).mono ?_
  rintro e x10 ⟨rfl, hp⟩
  have hn := Fp.trans hHeld hp (fun _ _ h => h.elim)
  replace B_g3 := hid_blk B_g3 hp
  replace B_g2 := hid_blk B_g2 hp
  refine k_now hK hn ?_
  clear hK K hp hHeld
  have hHeld := hn
  clear hn
  try simp only [Act.put, List.setIfInBounds_toArray, List.set_cons_zero, List.set_cons_succ]
  (refine take_at 6 (some 5) rfl rfl (by kernel_rfl) (by kernel_rfl) (by kernel_rfl) (fun _ _ _ h => h) (v := ?_) (by kernel_rfl) ?_ (by assumption) ?_; rotate_left; (focus (intro wS hSw; skip; go_simp; try with_reducible rfl)); (try simp only [Act.put, List.setIfInBounds_toArray, List.set_cons_zero, List.set_cons_succ]))
  (refine take_at 7 (some 6) rfl rfl (by kernel_rfl) (by kernel_rfl) (by kernel_rfl) (fun _ _ _ h => h) (v := ?_) (by kernel_rfl) ?_ (by assumption) ?_; rotate_left; (focus (intro wS hSw; skip; go_simp; try with_reducible rfl)); (try simp only [Act.put, List.setIfInBounds_toArray, List.set_cons_zero, List.set_cons_succ]))
  refine wpAnyH_done (by kernel_rfl) ?_ _
  clear cg20 cg21 cg22 cg23 cg24 zg2 lg2 cg30 cg31 cg32 cg33 cg34 zg3 lg3
  have hGe := hid_ge HN
  replace HN := hid_now HN hHeld
  clear hHeld hGe
  have cg20 := cell_at B_g2 0 rfl
  have cg21 := cell_at B_g2 1 rfl
  have cg22 := cell_at B_g2 2 rfl
  have cg23 := cell_at B_g2 3 rfl
  have cg24 := cell_at B_g2 4 rfl
  have zg2 := froz_at B_g2
  have lg2 := hid_lt B_g2
  have cg30 := cell_at B_g3 0 rfl
  have cg31 := cell_at B_g3 1 rfl
  have cg32 := cell_at B_g3 2 rfl
  have cg33 := cell_at B_g3 3 rfl
  have cg34 := cell_at B_g3 4 rfl
  have zg3 := froz_at B_g3
  have lg3 := hid_lt B_g3
  go_wp2_with fail
  clear cg20 cg21 cg22 cg23 cg24 zg2 lg2 cg30 cg31 cg32 cg33 cg34 zg3 lg3
  refine (show Calls _ _ _ _ _ from KT.out _ (HT.out.low HN.out).toP.base).mono ?_
  rintro e x11 ⟨rfl, hp⟩
  replace HN := hid_now HN hp
  replace B_g3 := hid_blk B_g3 hp
  replace B_g2 := hid_blk B_g2 hp
  clear hp
  go_wp2_with fail
  refine (show Calls _ _ _ _ _ from KP.out _ (HT.out.low HN.out)).mono ?_
  rintro e x12 ⟨rfl, hp⟩
  replace HN := hid_now HN hp
  replace B_g3 := hid_blk B_g3 hp
  replace B_g2 := hid_blk B_g2 hp
  clear hp
  go_upto_region 7 with fail
  refine wp_gen (fun x13 hW => ?_)
  have l2g3 := hid_lt B_g3
  have l2g2 := hid_lt B_g2
  have hp := new_now hW
  have hB := new_blk hW
  clear hW
  have hGe := hid_ge HN
  replace HN := hid_now HN hp
  replace B_g3 := hid_blk B_g3 hp
  replace B_g2 := hid_blk B_g2 hp
  obtain ⟨g7, hg7⟩ : ∃ g7, g7 = x12.heap.size := ⟨_, rfl⟩
  have G_g7 := Lib.hid (Nat.le_trans hGe (Nat.le_of_eq hg7.symm))
  have n_g3_g7 : ¬ g3 = g7 := by omega
  have n_g7_g3 : ¬ g7 = g3 := by omega
  clear l2g3
  have n_g2_g7 : ¬ g2 = g7 := by omega
  have n_g7_g2 : ¬ g7 = g2 := by omega
  clear l2g2
  rw [← hg7] at hB ⊢
  have B_g7 := hB
  clear hB hGe hg7
  clear hp
  have cg20 := cell_at B_g2 0 rfl
  have cg21 := cell_at B_g2 1 rfl
  have cg22 := cell_at B_g2 2 rfl
  have cg23 := cell_at B_g2 3 rfl
  have cg24 := cell_at B_g2 4 rfl
  have zg2 := froz_at B_g2
  have lg2 := hid_lt B_g2
  go_wp2_with fail
  clear cg20 cg21 cg22 cg23 cg24 zg2 lg2
  refine (show Calls _ _ _ _ _ from KM.out _ (HT.out.low HN.out).toP.base).mono ?_
  rintro e x14 ⟨rfl, hp⟩
  replace HN := hid_now HN hp
  replace B_g3 := hid_blk B_g3 hp
  replace B_g2 := hid_blk B_g2 hp
  replace B_g7 := hid_blk B_g7 hp
  clear hp
  go_upto_region 9 with fail
  have cg20 := cell_at B_g2 0 rfl
  have cg21 := cell_at B_g2 1 rfl
  have cg22 := cell_at B_g2 2 rfl
  have cg23 := cell_at B_g2 3 rfl
  have cg24 := cell_at B_g2 4 rfl
  have zg2 := froz_at B_g2
  have lg2 := hid_lt B_g2
  have cg30 := cell_at B_g3 0 rfl
  have cg31 := cell_at B_g3 1 rfl
  have cg32 := cell_at B_g3 2 rfl
  have cg33 := cell_at B_g3 3 rfl
  have cg34 := cell_at B_g3 4 rfl
  have zg3 := froz_at B_g3
  have lg3 := hid_lt B_g3
  have cg70 := cell_at B_g7 0 rfl
  have cg71 := cell_at B_g7 1 rfl
  have cg72 := cell_at B_g7 2 rfl
  have cg73 := cell_at B_g7 3 rfl
  have cg74 := cell_at B_g7 4 rfl
  have zg7 := froz_at B_g7
  have lg7 := hid_lt B_g7
  refine wp_region_held_drew (S := fun wx => NoW x14 wx) (by kernel_rfl) (Fp.drew (Fp.refl _ _)) (fun hHeld0 => ?_)
  refine any_eq hHeld0 (fun x15 hW hHeld => ?_)
  clear hHeld0
  replace B_g3 := hid_blk B_g3 (noW_drew hW)
  replace B_g2 := hid_blk B_g2 (noW_drew hW)
  replace B_g7 := hid_blk B_g7 (noW_drew hW)
  clear hW
  (refine take_at 0 (some 63) rfl rfl (by kernel_rfl) (by kernel_rfl) (by kernel_rfl) (fun _ _ _ h => h) (v := ?_) (by kernel_rfl) ?_ (by assumption) ?_; rotate_left; (focus (intro wS hSw; have hX := fun b o (h : b < _) => hSw.cell (p := ⟨b, o, none⟩) h id; go_simp; try with_reducible rfl)); (try simp only [Act.put, List.setIfInBounds_toArray, List.set_cons_zero, List.set_cons_succ]))
  (refine take_at 1 (some 64) rfl rfl (by kernel_rfl) (by kernel_rfl) (by kernel_rfl) (fun _ _ _ h => h) (v := ?_) (by kernel_rfl) ?_ (by assumption) ?_; rotate_left; (focus (intro wS hSw; have hX := fun b o (h : b < _) => hSw.cell (p := ⟨b, o, none⟩) h id; go_simp; try with_reducible rfl)); (try simp only [Act.put, List.setIfInBounds_toArray, List.set_cons_zero, List.set_cons_succ]))
  (refine take_at 2 (some 65) rfl rfl (by kernel_rfl) (by kernel_rfl) (by kernel_rfl) (fun _ _ _ h => h) (v := ?_) (by kernel_rfl) ?_ (by assumption) ?_; rotate_left; (focus (intro wS hSw; skip; go_simp; try with_reducible rfl)); (try simp only [Act.put, List.setIfInBounds_toArray, List.set_cons_zero, List.set_cons_succ]))
  (refine take_at 3 (some 66) rfl rfl (by kernel_rfl) (by kernel_rfl) (by kernel_rfl) (fun _ _ _ h => h) (v := ?_) (by kernel_rfl) ?_ (by assumption) ?_; rotate_left; (focus (intro wS hSw; skip; go_simp; try with_reducible rfl)); (try simp only [Act.put, List.setIfInBounds_toArray, List.set_cons_zero, List.set_cons_succ]))
  (refine take_at 4 (some 67) rfl rfl (by kernel_rfl) (by kernel_rfl) (by kernel_rfl) (fun _ _ _ h => h) (v := ?_) (by kernel_rfl) ?_ (by assumption) ?_; rotate_left; (focus (intro wS hSw; skip; go_simp; try with_reducible rfl)); (try simp only [Act.put, List.setIfInBounds_toArray, List.set_cons_zero, List.set_cons_succ]))
  (refine take_at 5 (some 68) rfl rfl (by kernel_rfl) (by kernel_rfl) (by kernel_rfl) (fun _ _ _ h => h) (v := ?_) (by kernel_rfl) ?_ (by assumption) ?_; rotate_left; (focus (intro wS hSw; skip; go_simp; try with_reducible rfl)); (try simp only [Act.put, List.setIfInBounds_toArray, List.set_cons_zero, List.set_cons_succ]))
  (refine take_at 6 (some 69) rfl rfl (by kernel_rfl) (by kernel_rfl) (by kernel_rfl) (fun _ _ _ h => h) (v := ?_) (by kernel_rfl) ?_ (by assumption) ?_; rotate_left; (focus (intro wS hSw; skip; go_simp; try with_reducible rfl)); (try simp only [Act.put, List.setIfInBounds_toArray, List.set_cons_zero, List.set_cons_succ]))
  (refine take_at 7 (some 70) rfl rfl (by kernel_rfl) (by kernel_rfl) (by kernel_rfl) (fun _ _ _ h => h) (v := ?_) (by kernel_rfl) ?_ (by assumption) ?_; rotate_left; (focus (intro wS hSw; skip; go_simp; try with_reducible rfl)); (try simp only [Act.put, List.setIfInBounds_toArray, List.set_cons_zero, List.set_cons_succ]))
  (refine take_at 8 (some 71) rfl rfl (by kernel_rfl) (by kernel_rfl) (by kernel_rfl) (fun _ _ _ h => h) (v := ?_) (by kernel_rfl) ?_ (by assumption) ?_; rotate_left; (focus (intro wS hSw; have hX := fun b o (h : b < _) => hSw.cell (p := ⟨b, o, none⟩) h id; go_simp; try with_reducible rfl)); (try simp only [Act.put, List.setIfInBounds_toArray, List.set_cons_zero, List.set_cons_succ]))
  refine wpAnyH_ready (rs := [9]) (by kernel_rfl) (by simp) ?_
  refine AllReadyH.cons rfl (fun K hK => ?_) AllReadyH.nil
  go_simp
  go_at_call 12
  refine (show Calls _ _ _ _ _ from KN.out _ (HT.out.low (HN.out.trans hHeld (fun _ _ h => h.elim))).toP.base).mono ?_
  rintro e x16 ⟨rfl, hp⟩
  have hn := Fp.trans hHeld hp (fun _ _ h => h.elim)
  replace B_g3 := hid_blk B_g3 hp
  replace B_g2 := hid_blk B_g2 hp
  replace B_g7 := hid_blk B_g7 hp
  refine k_now hK hn ?_
  clear hK K hp hHeld
  have hHeld := hn
  clear hn
  try simp only [Act.put, List.setIfInBounds_toArray, List.set_cons_zero, List.set_cons_succ]
  (refine take_at 10 (some 73) rfl rfl (by kernel_rfl) (by kernel_rfl) (by kernel_rfl) (fun _ _ _ h => h) (v := ?_) (by kernel_rfl) ?_ (by assumption) ?_; rotate_left; (focus (intro wS hSw; skip; go_simp; try with_reducible rfl)); (try simp only [Act.put, List.setIfInBounds_toArray, List.set_cons_zero, List.set_cons_succ]))
  (refine take_at 11 (some 74) rfl rfl (by kernel_rfl) (by kernel_rfl) (by kernel_rfl) (fun _ _ _ h => h) (v := ?_) (by kernel_rfl) ?_ (by assumption) ?_; rotate_left; (focus (intro wS hSw; skip; go_simp; try with_reducible rfl)); (try simp only [Act.put, List.setIfInBounds_toArray, List.set_cons_zero, List.set_cons_succ]))
  (refine take_at 12 (some 75) rfl rfl (by kernel_rfl) (by kernel_rfl) (by kernel_rfl) (fun _ _ _ h => h) (v := ?_) (by kernel_rfl) ?_ (by assumption) ?_; rotate_left; (focus (intro wS hSw; have hX := fun b o (h : b < _) => hSw.cell (p := ⟨b, o, none⟩) h id; go_simp; try with_reducible rfl)); (try simp only [Act.put, List.setIfInBounds_toArray, List.set_cons_zero, List.set_cons_succ]))
  (refine take_at 14 (some 77) rfl rfl (by kernel_rfl) (by kernel_rfl) (by kernel_rfl) (fun _ _ _ h => h) (v := ?_) (by kernel_rfl) ?_ (by assumption) ?_; rotate_left; (focus (intro wS hSw; have hX := fun b o (h : b < _) => hSw.cell (p := ⟨b, o, none⟩) h id; go_simp; try with_reducible rfl)); (try simp only [Act.put, List.setIfInBounds_toArray, List.set_cons_zero, List.set_cons_succ]))
  (refine take_at 17 (some 80) rfl rfl (by kernel_rfl) (by kernel_rfl) (by kernel_rfl) (fun _ _ _ h => h) (v := ?_) (by kernel_rfl) ?_ (by assumption) ?_; rotate_left; (focus (intro wS hSw; have hX := fun b o (h : b < _) => hSw.cell (p := ⟨b, o, none⟩) h id; go_simp; try with_reducible rfl)); (try simp only [Act.put, List.setIfInBounds_toArray, List.set_cons_zero, List.set_cons_succ]))
  (refine take_at 18 (some 81) rfl rfl (by kernel_rfl) (by kernel_rfl) (by kernel_rfl) (fun _ _ _ h => h) (v := ?_) (by kernel_rfl) ?_ (by assumption) ?_; rotate_left; (focus (intro wS hSw; have hX := fun b o (h : b < _) => hSw.cell (p := ⟨b, o, none⟩) h id; go_simp; try with_reducible rfl)); (try simp only [Act.put, List.setIfInBounds_toArray, List.set_cons_zero, List.set_cons_succ]))
  (refine take_at 19 (some 82) rfl rfl (by kernel_rfl) (by kernel_rfl) (by kernel_rfl) (fun _ _ _ h => h) (v := ?_) (by kernel_rfl) ?_ (by assumption) ?_; rotate_left; (focus (intro wS hSw; skip; go_simp; try with_reducible rfl)); (try simp only [Act.put, List.setIfInBounds_toArray, List.set_cons_zero, List.set_cons_succ]))
  refine wpAnyH_ready (rs := [13]) (by kernel_rfl) (by simp) ?_
  refine AllReadyH.cons rfl (fun K hK => ?_) AllReadyH.nil
  go_simp
  go_at_call 14
  refine (show Calls _ _ _ _ _ from KT.out _ (HT.out.low (HN.out.trans hHeld (fun _ _ h => h.elim))).toP.base).mono ?_
  rintro e x17 ⟨rfl, hp⟩
  have hn := Fp.trans hHeld hp (fun _ _ h => h.elim)
  replace B_g3 := hid_blk B_g3 hp
  replace B_g2 := hid_blk B_g2 hp
  replace B_g7 := hid_blk B_g7 hp
  refine k_now hK hn ?_
  clear hK K hp hHeld
  have hHeld := hn
  clear hn
  try simp only [Act.put, List.setIfInBounds_toArray, List.set_cons_zero, List.set_cons_succ]
  refine wpAnyH_ready (rs := [15]) (by kernel_rfl) (by simp) ?_
  refine AllReadyH.cons rfl (fun K hK => ?_) AllReadyH.nil
  go_simp
  go_at_call 14
  refine (show Calls _ _ _ _ _ from KU.out _ (HT.out.low (HN.out.trans hHeld (fun _ _ h => h.elim))).toP.base).mono ?_
  rintro e x18 ⟨rfl, hp⟩
  have hn := Fp.trans hHeld hp (fun _ _ h => h.elim)
  replace B_g3 := hid_blk B_g3 hp
  replace B_g2 := hid_blk B_g2 hp
  replace B_g7 := hid_blk B_g7 hp
  refine k_now hK hn ?_
  clear hK K hp hHeld
  have hHeld := hn
  clear hn
  try simp only [Act.put, List.setIfInBounds_toArray, List.set_cons_zero, List.set_cons_succ]
  (refine take_at 16 (some 79) rfl rfl (by kernel_rfl) (by kernel_rfl) (by kernel_rfl) (fun _ _ _ h => h) (v := ?_) (by kernel_rfl) ?_ (by assumption) ?_; rotate_left; (focus (intro wS hSw; skip; go_simp; try with_reducible rfl)); (try simp only [Act.put, List.setIfInBounds_toArray, List.set_cons_zero, List.set_cons_succ]))
  (refine take_at 20 (some 83) rfl rfl (by kernel_rfl) (by kernel_rfl) (by kernel_rfl) (fun _ _ _ h => h) (v := ?_) (by kernel_rfl) ?_ (by assumption) ?_; rotate_left; (focus (intro wS hSw; skip; go_simp; try with_reducible rfl)); (try simp only [Act.put, List.setIfInBounds_toArray, List.set_cons_zero, List.set_cons_succ]))
  (refine take_at 21 (some 84) rfl rfl (by kernel_rfl) (by kernel_rfl) (by kernel_rfl) (fun _ _ _ h => h) (v := ?_) (by kernel_rfl) ?_ (by assumption) ?_; rotate_left; (focus (intro wS hSw; skip; go_simp; try with_reducible rfl)); (try simp only [Act.put, List.setIfInBounds_toArray, List.set_cons_zero, List.set_cons_succ]))
  (refine take_at 22 (some 85) rfl rfl (by kernel_rfl) (by kernel_rfl) (by kernel_rfl) (fun _ _ _ h => h) (v := ?_) (by kernel_rfl) ?_ (by assumption) ?_; rotate_left; (focus (intro wS hSw; skip; go_simp; try with_reducible rfl)); (try simp only [Act.put, List.setIfInBounds_toArray, List.set_cons_zero, List.set_cons_succ]))
  (refine take_at 23 (some 86) rfl rfl (by kernel_rfl) (by kernel_rfl) (by kernel_rfl) (fun _ _ _ h => h) (v := ?_) (by kernel_rfl) ?_ (by assumption) ?_; rotate_left; (focus (intro wS hSw; skip; go_simp; try with_reducible rfl)); (try simp only [Act.put, List.setIfInBounds_toArray, List.set_cons_zero, List.set_cons_succ]))
  refine wpAnyH_ready (rs := [24]) (by kernel_rfl) (by simp) ?_
  refine AllReadyH.cons rfl (fun K hK => ?_) AllReadyH.nil
  go_simp
  go_at_call 9
  refine (show Calls _ _ _ _ _ from watched_ok _ (HT.out.low (HN.out.trans hHeld (fun _ _ h => h.elim)))).mono ?_
  rintro e x19 ⟨rfl, hp⟩
  have hn := Fp.trans hHeld hp (fun _ _ h => h.elim)
  replace B_g3 := hid_blk B_g3 hp
  replace B_g2 := hid_blk B_g2 hp
  replace B_g7 := hid_blk B_g7 hp
  refine k_now hK hn ?_
  clear hK K hp hHeld
  have hHeld := hn
  clear hn
  try simp only [Act.put, List.setIfInBounds_toArray, List.set_cons_zero, List.set_cons_succ]
  (refine take_at 25 (some 88) rfl rfl (by kernel_rfl) (by kernel_rfl) (by kernel_rfl) (fun _ _ _ h => h) (v := ?_) (by kernel_rfl) ?_ (by assumption) ?_; rotate_left; (focus (intro wS hSw; skip; go_simp; try with_reducible rfl)); (try simp only [Act.put, List.setIfInBounds_toArray, List.set_cons_zero, List.set_cons_succ]))
  (refine take_at 26 (some 4) rfl rfl (by kernel_rfl) (by kernel_rfl) (by kernel_rfl) (fun _ _ _ h => h) (v := ?_) (by kernel_rfl) ?_ (by assumption) ?_; rotate_left; (focus (intro wS hSw; skip; go_simp; try with_reducible rfl)); (try simp only [Act.put, List.setIfInBounds_toArray, List.set_cons_zero, List.set_cons_succ]))
  refine wpAnyH_done (by kernel_rfl) ?_ _
  clear cg20 cg21 cg22 cg23 cg24 zg2 lg2 cg30 cg31 cg32 cg33 cg34 zg3 lg3 cg70 cg71 cg72 cg73 cg74 zg7 lg7
  have hGe := hid_ge HN
  replace HN := hid_now HN hHeld
  clear hHeld hGe
  go_wp2_with fail
  go_ret
  exact ⟨rfl, HN.out⟩
set_option maxHeartbeats 8000000 in
set_option maxRecDepth 100000 in
theorem tb_gt00 (k a p b q : Nat) (hk : k < 256) (ha : a < 4294967296) (hp : p < 65536) (hb : b < 4294967296) (hq : q < 65536) (h1 : tupB k p q = false) (k2 a2 p2 b2 q2 : Nat) (hk2 : k2 < 256) (ha2 : a2 < 4294967296) (hp2 : p2 < 65536) (hb2 : b2 < 4294967296) (hq2 : q2 < 65536) (h2 : tupB k2 p2 q2 = false) (hne : ¬ (k = k2 ∧ a = a2 ∧ p = p2 ∧ b = b2 ∧ q = q2)) (hr : tkey k2 a2 p2 b2 q2 < tkey k a p b q) (w : World) (ht : TbQ w) : Calls Tryz.prog 7 #[.agg #[.int .u8 (k : Nat), .int .u32 (a : Nat), .int .u16 (p : Nat), .int .u32 (b : Nat), .int .u16 (q : Nat)], .agg #[.int .u8 (k2 : Nat), .int .u32 (a2 : Nat), .int .u16 (p2 : Nat), .int .u32 (b2 : Nat), .int .u16 (q2 : Nat)]] w (Ret1 (.bool true) w) := by
  have KB := Lib.hid (fun W => back_ok k a p b q W)
  have KB2 := Lib.hid (fun W => back_ok k b q a p W)
  have KM := Lib.hid (fun W hW => tup_ok k a p b q hk W hW)
  have KM2 := Lib.hid (fun W hW => tup_ok k b q a p hk W hW)
  have KN := Lib.hid (fun W hW => tup_ok k2 a2 p2 b2 q2 hk2 W hW)
  have KL := Lib.hid (fun W => tless_ok k a p b q k2 a2 p2 b2 q2 ha hp hb hq ha2 hp2 hb2 hq2 W)
  have KG := Lib.hid (fun W => tless_ok k2 a2 p2 b2 q2 k a p b q ha2 hp2 hb2 hq2 ha hp hb hq W)
  have KT := Lib.hid (fun W hW => text_any k a p b q hk ha hp hb hq W hW)
  have KU := Lib.hid (fun W hW => text_any k2 a2 p2 b2 q2 hk2 ha2 hp2 hb2 hq2 W hW)
  have hl := tupX_len k a p b q ha hp hb hq
  have KP := Lib.hid (fun W hW => tup_parse (tupX k a p b q) (by omega) W hW)
  rw [tupX_of k a p b q ha hp hb hq, h1] at KP
  rw [tupB_sym k q p, h1] at KM2
  rw [h1] at KM
  rw [h2] at KN
  rw [decide_eq_false (Nat.lt_asymm hr)] at KL
  rw [decide_eq_true hr] at KG
  have e1 : ∀ W, (binOp .eql 29 (.agg #[.int .u8 (k : Nat), .int .u32 (a : Nat), .int .u16 (p : Nat), .int .u32 (b : Nat), .int .u16 (q : Nat)]) (.agg #[.int .u8 (k2 : Nat), .int .u32 (a2 : Nat), .int .u16 (p2 : Nat), .int .u32 (b2 : Nat), .int .u16 (q2 : Nat)])).run Tryz.prog W = .ok (.bool false) W := fun W => by rw [tup_eq2]; simp [hne]
  have e2 : ∀ W, (binOp .eql 29 (.agg #[.int .u8 (k : Nat), .int .u32 (a : Nat), .int .u16 (p : Nat), .int .u32 (b : Nat), .int .u16 (q : Nat)]) (.agg #[.int .u8 (k : Nat), .int .u32 (a : Nat), .int .u16 (p : Nat), .int .u32 (b : Nat), .int .u16 (q : Nat)])).run Tryz.prog W = .ok (.bool true) W := fun W => by rw [tup_eq2]; simp
  have e3 : ∀ W, (binOp .neq 29 (.agg #[.int .u8 (k : Nat), .int .u32 (a : Nat), .int .u16 (p : Nat), .int .u32 (b : Nat), .int .u16 (q : Nat)]) (.agg #[.int .u8 (k : Nat), .int .u32 (a : Nat), .int .u16 (p : Nat), .int .u32 (b : Nat), .int .u16 (q : Nat)])).run Tryz.prog W = .ok (.bool false) W := fun W => by rw [tup_neq2]; simp
  have hx : tupX k a p b q = [] := if_neg (by rw [h1]; decide)
  rw [hx] at KT KP
  clear hx
  clear hl
  skip
  unfold tupRV at KP
  simp only [if_true, if_false, Bool.false_eq_true] at KP
  clear h1 h2 hne hr
  go_enter Tryz.func7, Tryz.ntmps7
  go_upto_region 1 with fail
  have HN := Lib.hid (Fp.refl (fun _ => False) w)
  have HT := Lib.hid ht
  refine wp_gen (fun x1 hW => ?_)
  obtain ⟨hB, hB2, hp⟩ := new2_blk hW
  clear hW
  have hGe := hid_ge HN
  have hGe2 := Nat.le_succ_of_le hGe
  replace HN := hid_now HN hp
  change w.heap.size ≤ w.heap.size + 1 at hGe2
  obtain ⟨g3, hg3⟩ : ∃ g3, g3 = w.heap.size + 1 := ⟨_, rfl⟩
  have G_g3 := Lib.hid (Nat.le_trans hGe2 (Nat.le_of_eq hg3.symm))
  rw [← hg3] at hB2 ⊢
  have B_g3 := hB2
  clear hB2 hGe2 hg3
  obtain ⟨g2, hg2⟩ : ∃ g2, g2 = w.heap.size := ⟨_, rfl⟩
  have G_g2 := Lib.hid (Nat.le_trans hGe (Nat.le_of_eq hg2.symm))
  rw [← hg2] at hB ⊢
  have B_g2 := hB
  clear hB hGe hg2
  skip
  clear hp
  have cg20 := cell_at B_g2 0 rfl
  have cg21 := cell_at B_g2 1 rfl
  have cg22 := cell_at B_g2 2 rfl
  have cg23 := cell_at B_g2 3 rfl
  have cg24 := cell_at B_g2 4 rfl
  have zg2 := froz_at B_g2
  have lg2 := hid_lt B_g2
  have cg30 := cell_at B_g3 0 rfl
  have cg31 := cell_at B_g3 1 rfl
  have cg32 := cell_at B_g3 2 rfl
  have cg33 := cell_at B_g3 3 rfl
  have cg34 := cell_at B_g3 4 rfl
  have zg3 := froz_at B_g3
  have lg3 := hid_lt B_g3
  refine wp_region_held_drew (S := fun wx => NoW x1 wx) (by kernel_rfl) (Fp.drew (Fp.refl _ _)) (fun hHeld0 => ?_)
  refine any_eq hHeld0 (fun x2 hW hHeld => ?_)
  clear hHeld0
  replace B_g3 := hid_blk B_g3 (noW_drew hW)
  replace B_g2 := hid_blk B_g2 (noW_drew hW)
  clear hW
  (refine take_at 0 (some 9) rfl rfl (by kernel_rfl) (by kernel_rfl) (by kernel_rfl) (fun _ _ _ h => h) (v := ?_) (by kernel_rfl) ?_ (by assumption) ?_; rotate_left; (focus (intro wS hSw; have hX := fun b o (h : b < _) => hSw.cell (p := ⟨b, o, none⟩) h id; go_simp; try with_reducible rfl)); (try simp only [Act.put, List.setIfInBounds_toArray, List.set_cons_zero, List.set_cons_succ]))
  (refine take_at 3 (some 12) rfl rfl (by kernel_rfl) (by kernel_rfl) (by kernel_rfl) (fun _ _ _ h => h) (v := ?_) (by kernel_rfl) ?_ (by assumption) ?_; rotate_left; (focus (intro wS hSw; have hX := fun b o (h : b < _) => hSw.cell (p := ⟨b, o, none⟩) h id; go_simp; try with_reducible rfl)); (try simp only [Act.put, List.setIfInBounds_toArray, List.set_cons_zero, List.set_cons_succ]))
  refine wpAnyH_ready (rs := [1]) (by kernel_rfl) (by simp) ?_
  refine AllReadyH.cons rfl (fun K hK => ?_) AllReadyH.nil
  go_simp
  go_at_call 16
  refine (show Calls _ _ _ _ _ from KB.out _).mono ?_
  rintro e x3 ⟨rfl, hp⟩
  have hn := Fp.trans hHeld hp (fun _ _ h => h.elim)
  replace B_g3 := hid_blk B_g3 hp
  replace B_g2 := hid_blk B_g2 hp
  refine k_now hK hn ?_
  clear hK K hp hHeld
  have hHeld := hn
  clear hn
  try simp only [Act.put, List.setIfInBounds_toArray, List.set_cons_zero, List.set_cons_succ]
  refine wpAnyH_ready (rs := [2]) (by kernel_rfl) (by simp) ?_
  refine AllReadyH.cons rfl (fun K hK => ?_) AllReadyH.nil
  go_simp
  go_at_call 16
  refine (show Calls _ _ _ _ _ from KB2.out _).mono ?_
  rintro e x4 ⟨rfl, hp⟩
  have hn := Fp.trans hHeld hp (fun _ _ h => h.elim)
  replace B_g3 := hid_blk B_g3 hp
  replace B_g2 := hid_blk B_g2 hp
  refine k_now hK hn ?_
  clear hK K hp hHeld
  have hHeld := hn
  clear hn
  try simp only [Act.put, List.setIfInBounds_toArray, List.set_cons_zero, List.set_cons_succ]
  (refine take_at 4 (some 13) rfl rfl (by kernel_rfl) (by kernel_rfl) (by kernel_rfl) (fun _ _ _ h => h) (v := ?_) (by kernel_rfl) ?_ (by assumption) ?_; rotate_left; (focus (intro wS hSw; skip; go_simp; try with_reducible rfl)); (try simp only [Act.put, List.setIfInBounds_toArray, List.set_cons_zero, List.set_cons_succ]))
  (refine take_at 5 (some 14) rfl rfl (by kernel_rfl) (by kernel_rfl) (by kernel_rfl) (fun _ _ _ h => h) (v := ?_) (by kernel_rfl) ?_ (by assumption) ?_; rotate_left; (focus (intro wS hSw; skip; go_simp; try with_reducible rfl)); (try simp only [Act.put, List.setIfInBounds_toArray, List.set_cons_zero, List.set_cons_succ]))
  (refine take_at 6 (some 15) rfl rfl (by kernel_rfl) (by kernel_rfl) (by kernel_rfl) (fun _ _ _ h => h) (v := ?_) (by kernel_rfl) ?_ (by assumption) ?_; rotate_left; (focus (intro wS hSw; have hX := fun b o (h : b < _) => hSw.cell (p := ⟨b, o, none⟩) h id; go_simp; try with_reducible rfl)); (try simp only [Act.put, List.setIfInBounds_toArray, List.set_cons_zero, List.set_cons_succ]))
  (refine take_at 9 (some 18) rfl rfl (by kernel_rfl) (by kernel_rfl) (by kernel_rfl) (fun _ _ _ h => h) (v := ?_) (by kernel_rfl) ?_ (by assumption) ?_; rotate_left; (focus (intro wS hSw; have hX := fun b o (h : b < _) => hSw.cell (p := ⟨b, o, none⟩) h id; go_simp; try with_reducible rfl)); (try simp only [Act.put, List.setIfInBounds_toArray, List.set_cons_zero, List.set_cons_succ]))
  refine wpAnyH_ready (rs := [7]) (by kernel_rfl) (by simp) ?_
  refine AllReadyH.cons rfl (fun K hK => ?_) AllReadyH.nil
  go_simp
  go_at_call 16
  refine (show Calls _ _ _ _ _ from KB.out _).mono ?_
  rintro e x5 ⟨rfl, hp⟩
  have hn := Fp.trans hHeld hp (fun _ _ h => h.elim)
  replace B_g3 := hid_blk B_g3 hp
  replace B_g2 := hid_blk B_g2 hp
  refine k_now hK hn ?_
  clear hK K hp hHeld
  have hHeld := hn
  clear hn
  try simp only [Act.put, List.setIfInBounds_toArray, List.set_cons_zero, List.set_cons_succ]
  refine wpAnyH_ready (rs := [8]) (by kernel_rfl) (by simp) ?_
  refine AllReadyH.cons rfl (fun K hK => ?_) AllReadyH.nil
  go_simp
  go_at_call 12
  refine (show Calls _ _ _ _ _ from KM2.out _ (HT.out.low (HN.out.trans hHeld (fun _ _ h => h.elim))).toP.base).mono ?_
  rintro e x6 ⟨rfl, hp⟩
  have hn := Fp.trans hHeld hp (fun _ _ h => h.elim)
  replace B_g3 := hid_blk B_g3 hp
  replace B_g2 := hid_blk B_g2 hp
  refine k_now hK hn ?_
  clear hK K hp hHeld
  have hHeld := hn
  clear hn
  try simp only [Act.put, List.setIfInBounds_toArray, List.set_cons_zero, List.set_cons_succ]
  refine wpAnyH_ready (rs := [10]) (by kernel_rfl) (by simp) ?_
  refine AllReadyH.cons rfl (fun K hK => ?_) AllReadyH.nil
  go_simp
  go_at_call 12
  refine (show Calls _ _ _ _ _ from KM.out _ (HT.out.low (HN.out.trans hHeld (fun _ _ h => h.elim))).toP.base).mono ?_
  rintro e x7 ⟨rfl, hp⟩
  have hn := Fp.trans hHeld hp (fun _ _ h => h.elim)
  replace B_g3 := hid_blk B_g3 hp
  replace B_g2 := hid_blk B_g2 hp
  refine k_now hK hn ?_
  clear hK K hp hHeld
  have hHeld := hn
  clear hn
  try simp only [Act.put, List.setIfInBounds_toArray, List.set_cons_zero, List.set_cons_succ]
  (refine take_at 11 (some 20) rfl rfl (by kernel_rfl) (by kernel_rfl) (by kernel_rfl) (fun _ _ _ h => h) (v := ?_) (by kernel_rfl) ?_ (by assumption) ?_; rotate_left; (focus (intro wS hSw; skip; go_simp; try with_reducible rfl)); (try simp only [Act.put, List.setIfInBounds_toArray, List.set_cons_zero, List.set_cons_succ]))
  (refine take_at 12 (some 21) rfl rfl (by kernel_rfl) (by kernel_rfl) (by kernel_rfl) (fun _ _ _ h => h) (v := ?_) (by kernel_rfl) ?_ (by assumption) ?_; rotate_left; (focus (intro wS hSw; skip; go_simp; try with_reducible rfl)); (try simp only [Act.put, List.setIfInBounds_toArray, List.set_cons_zero, List.set_cons_succ]))
  refine wpAnyH_done (by kernel_rfl) ?_ _
  clear cg20 cg21 cg22 cg23 cg24 zg2 lg2 cg30 cg31 cg32 cg33 cg34 zg3 lg3
  have hGe := hid_ge HN
  replace HN := hid_now HN hHeld
  clear hHeld hGe
  go_upto_region 3 with fail
  have cg20 := cell_at B_g2 0 rfl
  have cg21 := cell_at B_g2 1 rfl
  have cg22 := cell_at B_g2 2 rfl
  have cg23 := cell_at B_g2 3 rfl
  have cg24 := cell_at B_g2 4 rfl
  have zg2 := froz_at B_g2
  have lg2 := hid_lt B_g2
  have cg30 := cell_at B_g3 0 rfl
  have cg31 := cell_at B_g3 1 rfl
  have cg32 := cell_at B_g3 2 rfl
  have cg33 := cell_at B_g3 3 rfl
  have cg34 := cell_at B_g3 4 rfl
  have zg3 := froz_at B_g3
  have lg3 := hid_lt B_g3
  refine wp_region_held_drew (S := fun wx => NoW x7 wx) (by kernel_rfl) (Fp.drew (Fp.refl _ _)) (fun hHeld0 => ?_)
  refine any_eq hHeld0 (fun x8 hW hHeld => ?_)
  clear hHeld0
  replace B_g3 := hid_blk B_g3 (noW_drew hW)
  replace B_g2 := hid_blk B_g2 (noW_drew hW)
  clear hW
  (refine take_at 0 (some 22) rfl rfl (by kernel_rfl) (by kernel_rfl) (by kernel_rfl) (fun _ _ _ h => h) (v := ?_) (by kernel_rfl) ?_ (by assumption) ?_; rotate_left; (focus (intro wS hSw; have hX := fun b o (h : b < _) => hSw.cell (p := ⟨b, o, none⟩) h id; go_simp; try with_reducible rfl)); (try simp only [Act.put, List.setIfInBounds_toArray, List.set_cons_zero, List.set_cons_succ]))
  (refine take_at 1 (some 23) rfl rfl (by kernel_rfl) (by kernel_rfl) (by kernel_rfl) (fun _ _ _ h => h) (v := ?_) (by kernel_rfl) ?_ (by assumption) ?_; rotate_left; (focus (intro wS hSw; have hX := fun b o (h : b < _) => hSw.cell (p := ⟨b, o, none⟩) h id; go_simp; try with_reducible rfl)); (try simp only [Act.put, List.setIfInBounds_toArray, List.set_cons_zero, List.set_cons_succ]))
  (refine take_at 3 (some 25) rfl rfl (by kernel_rfl) (by kernel_rfl) (by kernel_rfl) (fun _ _ _ h => h) (v := ?_) (by kernel_rfl) ?_ (by assumption) ?_; rotate_left; (focus (intro wS hSw; have hX := fun b o (h : b < _) => hSw.cell (p := ⟨b, o, none⟩) h id; go_simp; try with_reducible rfl)); (try simp only [Act.put, List.setIfInBounds_toArray, List.set_cons_zero, List.set_cons_succ]))
  (refine take_at 4 (some 26) rfl rfl (by kernel_rfl) (by kernel_rfl) (by kernel_rfl) (fun _ _ _ h => h) (v := ?_) (by kernel_rfl) ?_ (by assumption) ?_; rotate_left; (focus (intro wS hSw; have hX := fun b o (h : b < _) => hSw.cell (p := ⟨b, o, none⟩) h id; go_simp; try with_reducible rfl)); (try simp only [Act.put, List.setIfInBounds_toArray, List.set_cons_zero, List.set_cons_succ]))
  refine wpAnyH_ready (rs := [2]) (by kernel_rfl) (by simp) ?_
  refine AllReadyH.cons rfl (fun K hK => ?_) AllReadyH.nil
  go_simp
  go_at_call 19
  refine (show Calls _ _ _ _ _ from KL.out _).mono ?_
  rintro e x9 ⟨rfl, hp⟩
  have hn := Fp.trans hHeld hp (fun _ _ h => h.elim)
  replace B_g3 := hid_blk B_g3 hp
  replace B_g2 := hid_blk B_g2 hp
  refine k_now hK hn ?_
  clear hK K hp hHeld
  have hHeld := hn
  clear hn
  try simp only [Act.put, List.setIfInBounds_toArray, List.set_cons_zero, List.set_cons_succ]
  refine wpAnyH_ready (rs := [5]) (by kernel_rfl) (by simp) ?_
  refine AllReadyH.cons rfl (fun K hK => ?_) AllReadyH.nil
  go_simp
  go_at_call 19
  refine (show Calls _ _ _ _ _ from KG.out _).mono ?_
  rintro e x10 ⟨rfl, hp⟩
  have hn := Fp.trans hHeld hp (fun _ _ h => h.elim)
  replace B_g3 := hid_blk B_g3 hp
  replace B_g2 := hid_blk B_g2 hp
  refine k_now hK hn ?_
  clear hK K hp hHeld
  have hHeld := hn
  clear hn
  try simp only [Act.put, List.setIfInBounds_toArray, List.set_cons_zero, List.set_cons_succ]
  (refine take_at 6 (some 5) rfl rfl (by kernel_rfl) (by kernel_rfl) (by kernel_rfl) (fun _ _ _ h => h) (v := ?_) (by kernel_rfl) ?_ (by assumption) ?_; rotate_left; (focus (intro wS hSw; skip; go_simp; try with_reducible rfl)); (try simp only [Act.put, List.setIfInBounds_toArray, List.set_cons_zero, List.set_cons_succ]))
  (refine take_at 7 (some 6) rfl rfl (by kernel_rfl) (by kernel_rfl) (by kernel_rfl) (fun _ _ _ h => h) (v := ?_) (by kernel_rfl) ?_ (by assumption) ?_; rotate_left; (focus (intro wS hSw; skip; go_simp; try with_reducible rfl)); (try simp only [Act.put, List.setIfInBounds_toArray, List.set_cons_zero, List.set_cons_succ]))
  refine wpAnyH_done (by kernel_rfl) ?_ _
  clear cg20 cg21 cg22 cg23 cg24 zg2 lg2 cg30 cg31 cg32 cg33 cg34 zg3 lg3
  have hGe := hid_ge HN
  replace HN := hid_now HN hHeld
  clear hHeld hGe
  have cg20 := cell_at B_g2 0 rfl
  have cg21 := cell_at B_g2 1 rfl
  have cg22 := cell_at B_g2 2 rfl
  have cg23 := cell_at B_g2 3 rfl
  have cg24 := cell_at B_g2 4 rfl
  have zg2 := froz_at B_g2
  have lg2 := hid_lt B_g2
  have cg30 := cell_at B_g3 0 rfl
  have cg31 := cell_at B_g3 1 rfl
  have cg32 := cell_at B_g3 2 rfl
  have cg33 := cell_at B_g3 3 rfl
  have cg34 := cell_at B_g3 4 rfl
  have zg3 := froz_at B_g3
  have lg3 := hid_lt B_g3
  go_wp2_with fail
  clear cg20 cg21 cg22 cg23 cg24 zg2 lg2 cg30 cg31 cg32 cg33 cg34 zg3 lg3
  refine (show Calls _ _ _ _ _ from KT.out _ (HT.out.low HN.out).toP.base).mono ?_
  rintro e x11 ⟨rfl, hp⟩
  replace HN := hid_now HN hp
  replace B_g3 := hid_blk B_g3 hp
  replace B_g2 := hid_blk B_g2 hp
  clear hp
  go_wp2_with fail
  refine (show Calls _ _ _ _ _ from KP.out _ (HT.out.low HN.out)).mono ?_
  rintro e x12 ⟨rfl, hp⟩
  replace HN := hid_now HN hp
  replace B_g3 := hid_blk B_g3 hp
  replace B_g2 := hid_blk B_g2 hp
  clear hp
  go_upto_region 7 with fail
  refine wp_gen (fun x13 hW => ?_)
  have l2g3 := hid_lt B_g3
  have l2g2 := hid_lt B_g2
  have hp := new_now hW
  have hB := new_blk hW
  clear hW
  have hGe := hid_ge HN
  replace HN := hid_now HN hp
  replace B_g3 := hid_blk B_g3 hp
  replace B_g2 := hid_blk B_g2 hp
  obtain ⟨g7, hg7⟩ : ∃ g7, g7 = x12.heap.size := ⟨_, rfl⟩
  have G_g7 := Lib.hid (Nat.le_trans hGe (Nat.le_of_eq hg7.symm))
  have n_g3_g7 : ¬ g3 = g7 := by omega
  have n_g7_g3 : ¬ g7 = g3 := by omega
  clear l2g3
  have n_g2_g7 : ¬ g2 = g7 := by omega
  have n_g7_g2 : ¬ g7 = g2 := by omega
  clear l2g2
  rw [← hg7] at hB ⊢
  have B_g7 := hB
  clear hB hGe hg7
  clear hp
  have cg20 := cell_at B_g2 0 rfl
  have cg21 := cell_at B_g2 1 rfl
  have cg22 := cell_at B_g2 2 rfl
  have cg23 := cell_at B_g2 3 rfl
  have cg24 := cell_at B_g2 4 rfl
  have zg2 := froz_at B_g2
  have lg2 := hid_lt B_g2
  go_wp2_with fail
  clear cg20 cg21 cg22 cg23 cg24 zg2 lg2
  refine (show Calls _ _ _ _ _ from KM.out _ (HT.out.low HN.out).toP.base).mono ?_
  rintro e x14 ⟨rfl, hp⟩
  replace HN := hid_now HN hp
  replace B_g3 := hid_blk B_g3 hp
  replace B_g2 := hid_blk B_g2 hp
  replace B_g7 := hid_blk B_g7 hp
  clear hp
  have cg20 := cell_at B_g2 0 rfl
  have cg21 := cell_at B_g2 1 rfl
  have cg22 := cell_at B_g2 2 rfl
  have cg23 := cell_at B_g2 3 rfl
  have cg24 := cell_at B_g2 4 rfl
  have zg2 := froz_at B_g2
  have lg2 := hid_lt B_g2
  go_wp2_with fail
  clear cg20 cg21 cg22 cg23 cg24 zg2 lg2
  refine (show Calls _ _ _ _ _ from KT.out _ (HT.out.low HN.out).toP.base).mono ?_
  rintro e x15 ⟨rfl, hp⟩
  replace HN := hid_now HN hp
  replace B_g3 := hid_blk B_g3 hp
  replace B_g2 := hid_blk B_g2 hp
  replace B_g7 := hid_blk B_g7 hp
  clear hp
  go_wp2_with fail
  refine (show Calls _ _ _ _ _ from watched_ok _ (HT.out.low HN.out)).mono ?_
  rintro e x16 ⟨rfl, hp⟩
  replace HN := hid_now HN hp
  replace B_g3 := hid_blk B_g3 hp
  replace B_g2 := hid_blk B_g2 hp
  replace B_g7 := hid_blk B_g7 hp
  clear hp
  go_wp2_with fail
  go_ret
  exact ⟨rfl, HN.out⟩
set_option maxHeartbeats 8000000 in
set_option maxRecDepth 100000 in
theorem tb_gt01 (k a p b q : Nat) (hk : k < 256) (ha : a < 4294967296) (hp : p < 65536) (hb : b < 4294967296) (hq : q < 65536) (h1 : tupB k p q = false) (k2 a2 p2 b2 q2 : Nat) (hk2 : k2 < 256) (ha2 : a2 < 4294967296) (hp2 : p2 < 65536) (hb2 : b2 < 4294967296) (hq2 : q2 < 65536) (h2 : tupB k2 p2 q2 = true) (hne : ¬ (k = k2 ∧ a = a2 ∧ p = p2 ∧ b = b2 ∧ q = q2)) (hr : tkey k2 a2 p2 b2 q2 < tkey k a p b q) (w : World) (ht : TbQ w) : Calls Tryz.prog 7 #[.agg #[.int .u8 (k : Nat), .int .u32 (a : Nat), .int .u16 (p : Nat), .int .u32 (b : Nat), .int .u16 (q : Nat)], .agg #[.int .u8 (k2 : Nat), .int .u32 (a2 : Nat), .int .u16 (p2 : Nat), .int .u32 (b2 : Nat), .int .u16 (q2 : Nat)]] w (Ret1 (.bool true) w) := by
  have KB := Lib.hid (fun W => back_ok k a p b q W)
  have KB2 := Lib.hid (fun W => back_ok k b q a p W)
  have KM := Lib.hid (fun W hW => tup_ok k a p b q hk W hW)
  have KM2 := Lib.hid (fun W hW => tup_ok k b q a p hk W hW)
  have KN := Lib.hid (fun W hW => tup_ok k2 a2 p2 b2 q2 hk2 W hW)
  have KL := Lib.hid (fun W => tless_ok k a p b q k2 a2 p2 b2 q2 ha hp hb hq ha2 hp2 hb2 hq2 W)
  have KG := Lib.hid (fun W => tless_ok k2 a2 p2 b2 q2 k a p b q ha2 hp2 hb2 hq2 ha hp hb hq W)
  have KT := Lib.hid (fun W hW => text_any k a p b q hk ha hp hb hq W hW)
  have KU := Lib.hid (fun W hW => text_any k2 a2 p2 b2 q2 hk2 ha2 hp2 hb2 hq2 W hW)
  have hl := tupX_len k a p b q ha hp hb hq
  have KP := Lib.hid (fun W hW => tup_parse (tupX k a p b q) (by omega) W hW)
  rw [tupX_of k a p b q ha hp hb hq, h1] at KP
  rw [tupB_sym k q p, h1] at KM2
  rw [h1] at KM
  rw [h2] at KN
  rw [decide_eq_false (Nat.lt_asymm hr)] at KL
  rw [decide_eq_true hr] at KG
  have e1 : ∀ W, (binOp .eql 29 (.agg #[.int .u8 (k : Nat), .int .u32 (a : Nat), .int .u16 (p : Nat), .int .u32 (b : Nat), .int .u16 (q : Nat)]) (.agg #[.int .u8 (k2 : Nat), .int .u32 (a2 : Nat), .int .u16 (p2 : Nat), .int .u32 (b2 : Nat), .int .u16 (q2 : Nat)])).run Tryz.prog W = .ok (.bool false) W := fun W => by rw [tup_eq2]; simp [hne]
  have e2 : ∀ W, (binOp .eql 29 (.agg #[.int .u8 (k : Nat), .int .u32 (a : Nat), .int .u16 (p : Nat), .int .u32 (b : Nat), .int .u16 (q : Nat)]) (.agg #[.int .u8 (k : Nat), .int .u32 (a : Nat), .int .u16 (p : Nat), .int .u32 (b : Nat), .int .u16 (q : Nat)])).run Tryz.prog W = .ok (.bool true) W := fun W => by rw [tup_eq2]; simp
  have e3 : ∀ W, (binOp .neq 29 (.agg #[.int .u8 (k : Nat), .int .u32 (a : Nat), .int .u16 (p : Nat), .int .u32 (b : Nat), .int .u16 (q : Nat)]) (.agg #[.int .u8 (k : Nat), .int .u32 (a : Nat), .int .u16 (p : Nat), .int .u32 (b : Nat), .int .u16 (q : Nat)])).run Tryz.prog W = .ok (.bool false) W := fun W => by rw [tup_neq2]; simp
  have hx : tupX k a p b q = [] := if_neg (by rw [h1]; decide)
  rw [hx] at KT KP
  clear hx
  clear hl
  skip
  unfold tupRV at KP
  simp only [if_true, if_false, Bool.false_eq_true] at KP
  clear h1 h2 hne hr
  go_enter Tryz.func7, Tryz.ntmps7
  go_upto_region 1 with fail
  have HN := Lib.hid (Fp.refl (fun _ => False) w)
  have HT := Lib.hid ht
  refine wp_gen (fun x1 hW => ?_)
  obtain ⟨hB, hB2, hp⟩ := new2_blk hW
  clear hW
  have hGe := hid_ge HN
  have hGe2 := Nat.le_succ_of_le hGe
  replace HN := hid_now HN hp
  change w.heap.size ≤ w.heap.size + 1 at hGe2
  obtain ⟨g3, hg3⟩ : ∃ g3, g3 = w.heap.size + 1 := ⟨_, rfl⟩
  have G_g3 := Lib.hid (Nat.le_trans hGe2 (Nat.le_of_eq hg3.symm))
  rw [← hg3] at hB2 ⊢
  have B_g3 := hB2
  clear hB2 hGe2 hg3
  obtain ⟨g2, hg2⟩ : ∃ g2, g2 = w.heap.size := ⟨_, rfl⟩
  have G_g2 := Lib.hid (Nat.le_trans hGe (Nat.le_of_eq hg2.symm))
  rw [← hg2] at hB ⊢
  have B_g2 := hB
  clear hB hGe hg2
  skip
  clear hp
  have cg20 := cell_at B_g2 0 rfl
  have cg21 := cell_at B_g2 1 rfl
  have cg22 := cell_at B_g2 2 rfl
  have cg23 := cell_at B_g2 3 rfl
  have cg24 := cell_at B_g2 4 rfl
  have zg2 := froz_at B_g2
  have lg2 := hid_lt B_g2
  have cg30 := cell_at B_g3 0 rfl
  have cg31 := cell_at B_g3 1 rfl
  have cg32 := cell_at B_g3 2 rfl
  have cg33 := cell_at B_g3 3 rfl
  have cg34 := cell_at B_g3 4 rfl
  have zg3 := froz_at B_g3
  have lg3 := hid_lt B_g3
  refine wp_region_held_drew (S := fun wx => NoW x1 wx) (by kernel_rfl) (Fp.drew (Fp.refl _ _)) (fun hHeld0 => ?_)
  refine any_eq hHeld0 (fun x2 hW hHeld => ?_)
  clear hHeld0
  replace B_g3 := hid_blk B_g3 (noW_drew hW)
  replace B_g2 := hid_blk B_g2 (noW_drew hW)
  clear hW
  (refine take_at 0 (some 9) rfl rfl (by kernel_rfl) (by kernel_rfl) (by kernel_rfl) (fun _ _ _ h => h) (v := ?_) (by kernel_rfl) ?_ (by assumption) ?_; rotate_left; (focus (intro wS hSw; have hX := fun b o (h : b < _) => hSw.cell (p := ⟨b, o, none⟩) h id; go_simp; try with_reducible rfl)); (try simp only [Act.put, List.setIfInBounds_toArray, List.set_cons_zero, List.set_cons_succ]))
  (refine take_at 3 (some 12) rfl rfl (by kernel_rfl) (by kernel_rfl) (by kernel_rfl) (fun _ _ _ h => h) (v := ?_) (by kernel_rfl) ?_ (by assumption) ?_; rotate_left; (focus (intro wS hSw; have hX := fun b o (h : b < _) => hSw.cell (p := ⟨b, o, none⟩) h id; go_simp; try with_reducible rfl)); (try simp only [Act.put, List.setIfInBounds_toArray, List.set_cons_zero, List.set_cons_succ]))
  refine wpAnyH_ready (rs := [1]) (by kernel_rfl) (by simp) ?_
  refine AllReadyH.cons rfl (fun K hK => ?_) AllReadyH.nil
  go_simp
  go_at_call 16
  refine (show Calls _ _ _ _ _ from KB.out _).mono ?_
  rintro e x3 ⟨rfl, hp⟩
  have hn := Fp.trans hHeld hp (fun _ _ h => h.elim)
  replace B_g3 := hid_blk B_g3 hp
  replace B_g2 := hid_blk B_g2 hp
  refine k_now hK hn ?_
  clear hK K hp hHeld
  have hHeld := hn
  clear hn
  try simp only [Act.put, List.setIfInBounds_toArray, List.set_cons_zero, List.set_cons_succ]
  refine wpAnyH_ready (rs := [2]) (by kernel_rfl) (by simp) ?_
  refine AllReadyH.cons rfl (fun K hK => ?_) AllReadyH.nil
  go_simp
  go_at_call 16
  refine (show Calls _ _ _ _ _ from KB2.out _).mono ?_
  rintro e x4 ⟨rfl, hp⟩
  have hn := Fp.trans hHeld hp (fun _ _ h => h.elim)
  replace B_g3 := hid_blk B_g3 hp
  replace B_g2 := hid_blk B_g2 hp
  refine k_now hK hn ?_
  clear hK K hp hHeld
  have hHeld := hn
  clear hn
  try simp only [Act.put, List.setIfInBounds_toArray, List.set_cons_zero, List.set_cons_succ]
  (refine take_at 4 (some 13) rfl rfl (by kernel_rfl) (by kernel_rfl) (by kernel_rfl) (fun _ _ _ h => h) (v := ?_) (by kernel_rfl) ?_ (by assumption) ?_; rotate_left; (focus (intro wS hSw; skip; go_simp; try with_reducible rfl)); (try simp only [Act.put, List.setIfInBounds_toArray, List.set_cons_zero, List.set_cons_succ]))
  (refine take_at 5 (some 14) rfl rfl (by kernel_rfl) (by kernel_rfl) (by kernel_rfl) (fun _ _ _ h => h) (v := ?_) (by kernel_rfl) ?_ (by assumption) ?_; rotate_left; (focus (intro wS hSw; skip; go_simp; try with_reducible rfl)); (try simp only [Act.put, List.setIfInBounds_toArray, List.set_cons_zero, List.set_cons_succ]))
  (refine take_at 6 (some 15) rfl rfl (by kernel_rfl) (by kernel_rfl) (by kernel_rfl) (fun _ _ _ h => h) (v := ?_) (by kernel_rfl) ?_ (by assumption) ?_; rotate_left; (focus (intro wS hSw; have hX := fun b o (h : b < _) => hSw.cell (p := ⟨b, o, none⟩) h id; go_simp; try with_reducible rfl)); (try simp only [Act.put, List.setIfInBounds_toArray, List.set_cons_zero, List.set_cons_succ]))
  (refine take_at 9 (some 18) rfl rfl (by kernel_rfl) (by kernel_rfl) (by kernel_rfl) (fun _ _ _ h => h) (v := ?_) (by kernel_rfl) ?_ (by assumption) ?_; rotate_left; (focus (intro wS hSw; have hX := fun b o (h : b < _) => hSw.cell (p := ⟨b, o, none⟩) h id; go_simp; try with_reducible rfl)); (try simp only [Act.put, List.setIfInBounds_toArray, List.set_cons_zero, List.set_cons_succ]))
  refine wpAnyH_ready (rs := [7]) (by kernel_rfl) (by simp) ?_
  refine AllReadyH.cons rfl (fun K hK => ?_) AllReadyH.nil
  go_simp
  go_at_call 16
  refine (show Calls _ _ _ _ _ from KB.out _).mono ?_
  rintro e x5 ⟨rfl, hp⟩
  have hn := Fp.trans hHeld hp (fun _ _ h => h.elim)
  replace B_g3 := hid_blk B_g3 hp
  replace B_g2 := hid_blk B_g2 hp
  refine k_now hK hn ?_
  clear hK K hp hHeld
  have hHeld := hn
  clear hn
  try simp only [Act.put, List.setIfInBounds_toArray, List.set_cons_zero, List.set_cons_succ]
  refine wpAnyH_ready (rs := [8]) (by kernel_rfl) (by simp) ?_
  refine AllReadyH.cons rfl (fun K hK => ?_) AllReadyH.nil
  go_simp
  go_at_call 12
  refine (show Calls _ _ _ _ _ from KM2.out _ (HT.out.low (HN.out.trans hHeld (fun _ _ h => h.elim))).toP.base).mono ?_
  rintro e x6 ⟨rfl, hp⟩
  have hn := Fp.trans hHeld hp (fun _ _ h => h.elim)
  replace B_g3 := hid_blk B_g3 hp
  replace B_g2 := hid_blk B_g2 hp
  refine k_now hK hn ?_
  clear hK K hp hHeld
  have hHeld := hn
  clear hn
  try simp only [Act.put, List.setIfInBounds_toArray, List.set_cons_zero, List.set_cons_succ]
  refine wpAnyH_ready (rs := [10]) (by kernel_rfl) (by simp) ?_
  refine AllReadyH.cons rfl (fun K hK => ?_) AllReadyH.nil
  go_simp
  go_at_call 12
  refine (show Calls _ _ _ _ _ from KM.out _ (HT.out.low (HN.out.trans hHeld (fun _ _ h => h.elim))).toP.base).mono ?_
  rintro e x7 ⟨rfl, hp⟩
  have hn := Fp.trans hHeld hp (fun _ _ h => h.elim)
  replace B_g3 := hid_blk B_g3 hp
  replace B_g2 := hid_blk B_g2 hp
  refine k_now hK hn ?_
  clear hK K hp hHeld
  have hHeld := hn
  clear hn
  try simp only [Act.put, List.setIfInBounds_toArray, List.set_cons_zero, List.set_cons_succ]
  (refine take_at 11 (some 20) rfl rfl (by kernel_rfl) (by kernel_rfl) (by kernel_rfl) (fun _ _ _ h => h) (v := ?_) (by kernel_rfl) ?_ (by assumption) ?_; rotate_left; (focus (intro wS hSw; skip; go_simp; try with_reducible rfl)); (try simp only [Act.put, List.setIfInBounds_toArray, List.set_cons_zero, List.set_cons_succ]))
  (refine take_at 12 (some 21) rfl rfl (by kernel_rfl) (by kernel_rfl) (by kernel_rfl) (fun _ _ _ h => h) (v := ?_) (by kernel_rfl) ?_ (by assumption) ?_; rotate_left; (focus (intro wS hSw; skip; go_simp; try with_reducible rfl)); (try simp only [Act.put, List.setIfInBounds_toArray, List.set_cons_zero, List.set_cons_succ]))
  refine wpAnyH_done (by kernel_rfl) ?_ _
  clear cg20 cg21 cg22 cg23 cg24 zg2 lg2 cg30 cg31 cg32 cg33 cg34 zg3 lg3
  have hGe := hid_ge HN
  replace HN := hid_now HN hHeld
  clear hHeld hGe
  go_upto_region 3 with fail
  have cg20 := cell_at B_g2 0 rfl
  have cg21 := cell_at B_g2 1 rfl
  have cg22 := cell_at B_g2 2 rfl
  have cg23 := cell_at B_g2 3 rfl
  have cg24 := cell_at B_g2 4 rfl
  have zg2 := froz_at B_g2
  have lg2 := hid_lt B_g2
  have cg30 := cell_at B_g3 0 rfl
  have cg31 := cell_at B_g3 1 rfl
  have cg32 := cell_at B_g3 2 rfl
  have cg33 := cell_at B_g3 3 rfl
  have cg34 := cell_at B_g3 4 rfl
  have zg3 := froz_at B_g3
  have lg3 := hid_lt B_g3
  refine wp_region_held_drew (S := fun wx => NoW x7 wx) (by kernel_rfl) (Fp.drew (Fp.refl _ _)) (fun hHeld0 => ?_)
  refine any_eq hHeld0 (fun x8 hW hHeld => ?_)
  clear hHeld0
  replace B_g3 := hid_blk B_g3 (noW_drew hW)
  replace B_g2 := hid_blk B_g2 (noW_drew hW)
  clear hW
  (refine take_at 0 (some 22) rfl rfl (by kernel_rfl) (by kernel_rfl) (by kernel_rfl) (fun _ _ _ h => h) (v := ?_) (by kernel_rfl) ?_ (by assumption) ?_; rotate_left; (focus (intro wS hSw; have hX := fun b o (h : b < _) => hSw.cell (p := ⟨b, o, none⟩) h id; go_simp; try with_reducible rfl)); (try simp only [Act.put, List.setIfInBounds_toArray, List.set_cons_zero, List.set_cons_succ]))
  (refine take_at 1 (some 23) rfl rfl (by kernel_rfl) (by kernel_rfl) (by kernel_rfl) (fun _ _ _ h => h) (v := ?_) (by kernel_rfl) ?_ (by assumption) ?_; rotate_left; (focus (intro wS hSw; have hX := fun b o (h : b < _) => hSw.cell (p := ⟨b, o, none⟩) h id; go_simp; try with_reducible rfl)); (try simp only [Act.put, List.setIfInBounds_toArray, List.set_cons_zero, List.set_cons_succ]))
  (refine take_at 3 (some 25) rfl rfl (by kernel_rfl) (by kernel_rfl) (by kernel_rfl) (fun _ _ _ h => h) (v := ?_) (by kernel_rfl) ?_ (by assumption) ?_; rotate_left; (focus (intro wS hSw; have hX := fun b o (h : b < _) => hSw.cell (p := ⟨b, o, none⟩) h id; go_simp; try with_reducible rfl)); (try simp only [Act.put, List.setIfInBounds_toArray, List.set_cons_zero, List.set_cons_succ]))
  (refine take_at 4 (some 26) rfl rfl (by kernel_rfl) (by kernel_rfl) (by kernel_rfl) (fun _ _ _ h => h) (v := ?_) (by kernel_rfl) ?_ (by assumption) ?_; rotate_left; (focus (intro wS hSw; have hX := fun b o (h : b < _) => hSw.cell (p := ⟨b, o, none⟩) h id; go_simp; try with_reducible rfl)); (try simp only [Act.put, List.setIfInBounds_toArray, List.set_cons_zero, List.set_cons_succ]))
  refine wpAnyH_ready (rs := [2]) (by kernel_rfl) (by simp) ?_
  refine AllReadyH.cons rfl (fun K hK => ?_) AllReadyH.nil
  go_simp
  go_at_call 19
  refine (show Calls _ _ _ _ _ from KL.out _).mono ?_
  rintro e x9 ⟨rfl, hp⟩
  have hn := Fp.trans hHeld hp (fun _ _ h => h.elim)
  replace B_g3 := hid_blk B_g3 hp
  replace B_g2 := hid_blk B_g2 hp
  refine k_now hK hn ?_
  clear hK K hp hHeld
  have hHeld := hn
  clear hn
  try simp only [Act.put, List.setIfInBounds_toArray, List.set_cons_zero, List.set_cons_succ]
  refine wpAnyH_ready (rs := [5]) (by kernel_rfl) (by simp) ?_
  refine AllReadyH.cons rfl (fun K hK => ?_) AllReadyH.nil
  go_simp
  go_at_call 19
  refine (show Calls _ _ _ _ _ from KG.out _).mono ?_
  rintro e x10 ⟨rfl, hp⟩
  have hn := Fp.trans hHeld hp (fun _ _ h => h.elim)
  replace B_g3 := hid_blk B_g3 hp
  replace B_g2 := hid_blk B_g2 hp
  refine k_now hK hn ?_
  clear hK K hp hHeld
  have hHeld := hn
  clear hn
  try simp only [Act.put, List.setIfInBounds_toArray, List.set_cons_zero, List.set_cons_succ]
  (refine take_at 6 (some 5) rfl rfl (by kernel_rfl) (by kernel_rfl) (by kernel_rfl) (fun _ _ _ h => h) (v := ?_) (by kernel_rfl) ?_ (by assumption) ?_; rotate_left; (focus (intro wS hSw; skip; go_simp; try with_reducible rfl)); (try simp only [Act.put, List.setIfInBounds_toArray, List.set_cons_zero, List.set_cons_succ]))
  (refine take_at 7 (some 6) rfl rfl (by kernel_rfl) (by kernel_rfl) (by kernel_rfl) (fun _ _ _ h => h) (v := ?_) (by kernel_rfl) ?_ (by assumption) ?_; rotate_left; (focus (intro wS hSw; skip; go_simp; try with_reducible rfl)); (try simp only [Act.put, List.setIfInBounds_toArray, List.set_cons_zero, List.set_cons_succ]))
  refine wpAnyH_done (by kernel_rfl) ?_ _
  clear cg20 cg21 cg22 cg23 cg24 zg2 lg2 cg30 cg31 cg32 cg33 cg34 zg3 lg3
  have hGe := hid_ge HN
  replace HN := hid_now HN hHeld
  clear hHeld hGe
  have cg20 := cell_at B_g2 0 rfl
  have cg21 := cell_at B_g2 1 rfl
  have cg22 := cell_at B_g2 2 rfl
  have cg23 := cell_at B_g2 3 rfl
  have cg24 := cell_at B_g2 4 rfl
  have zg2 := froz_at B_g2
  have lg2 := hid_lt B_g2
  have cg30 := cell_at B_g3 0 rfl
  have cg31 := cell_at B_g3 1 rfl
  have cg32 := cell_at B_g3 2 rfl
  have cg33 := cell_at B_g3 3 rfl
  have cg34 := cell_at B_g3 4 rfl
  have zg3 := froz_at B_g3
  have lg3 := hid_lt B_g3
  go_wp2_with fail
  clear cg20 cg21 cg22 cg23 cg24 zg2 lg2 cg30 cg31 cg32 cg33 cg34 zg3 lg3
  refine (show Calls _ _ _ _ _ from KT.out _ (HT.out.low HN.out).toP.base).mono ?_
  rintro e x11 ⟨rfl, hp⟩
  replace HN := hid_now HN hp
  replace B_g3 := hid_blk B_g3 hp
  replace B_g2 := hid_blk B_g2 hp
  clear hp
  go_wp2_with fail
  refine (show Calls _ _ _ _ _ from KP.out _ (HT.out.low HN.out)).mono ?_
  rintro e x12 ⟨rfl, hp⟩
  replace HN := hid_now HN hp
  replace B_g3 := hid_blk B_g3 hp
  replace B_g2 := hid_blk B_g2 hp
  clear hp
  go_upto_region 7 with fail
  refine wp_gen (fun x13 hW => ?_)
  have l2g3 := hid_lt B_g3
  have l2g2 := hid_lt B_g2
  have hp := new_now hW
  have hB := new_blk hW
  clear hW
  have hGe := hid_ge HN
  replace HN := hid_now HN hp
  replace B_g3 := hid_blk B_g3 hp
  replace B_g2 := hid_blk B_g2 hp
  obtain ⟨g7, hg7⟩ : ∃ g7, g7 = x12.heap.size := ⟨_, rfl⟩
  have G_g7 := Lib.hid (Nat.le_trans hGe (Nat.le_of_eq hg7.symm))
  have n_g3_g7 : ¬ g3 = g7 := by omega
  have n_g7_g3 : ¬ g7 = g3 := by omega
  clear l2g3
  have n_g2_g7 : ¬ g2 = g7 := by omega
  have n_g7_g2 : ¬ g7 = g2 := by omega
  clear l2g2
  rw [← hg7] at hB ⊢
  have B_g7 := hB
  clear hB hGe hg7
  clear hp
  have cg20 := cell_at B_g2 0 rfl
  have cg21 := cell_at B_g2 1 rfl
  have cg22 := cell_at B_g2 2 rfl
  have cg23 := cell_at B_g2 3 rfl
  have cg24 := cell_at B_g2 4 rfl
  have zg2 := froz_at B_g2
  have lg2 := hid_lt B_g2
  go_wp2_with fail
  clear cg20 cg21 cg22 cg23 cg24 zg2 lg2
  refine (show Calls _ _ _ _ _ from KM.out _ (HT.out.low HN.out).toP.base).mono ?_
  rintro e x14 ⟨rfl, hp⟩
  replace HN := hid_now HN hp
  replace B_g3 := hid_blk B_g3 hp
  replace B_g2 := hid_blk B_g2 hp
  replace B_g7 := hid_blk B_g7 hp
  clear hp
  have cg20 := cell_at B_g2 0 rfl
  have cg21 := cell_at B_g2 1 rfl
  have cg22 := cell_at B_g2 2 rfl
  have cg23 := cell_at B_g2 3 rfl
  have cg24 := cell_at B_g2 4 rfl
  have zg2 := froz_at B_g2
  have lg2 := hid_lt B_g2
  go_wp2_with fail
  clear cg20 cg21 cg22 cg23 cg24 zg2 lg2
  refine (show Calls _ _ _ _ _ from KT.out _ (HT.out.low HN.out).toP.base).mono ?_
  rintro e x15 ⟨rfl, hp⟩
  replace HN := hid_now HN hp
  replace B_g3 := hid_blk B_g3 hp
  replace B_g2 := hid_blk B_g2 hp
  replace B_g7 := hid_blk B_g7 hp
  clear hp
  go_wp2_with fail
  refine (show Calls _ _ _ _ _ from watched_ok _ (HT.out.low HN.out)).mono ?_
  rintro e x16 ⟨rfl, hp⟩
  replace HN := hid_now HN hp
  replace B_g3 := hid_blk B_g3 hp
  replace B_g2 := hid_blk B_g2 hp
  replace B_g7 := hid_blk B_g7 hp
  clear hp
  go_wp2_with fail
  go_ret
  exact ⟨rfl, HN.out⟩
set_option maxHeartbeats 8000000 in
set_option maxRecDepth 100000 in
theorem tb_gt10 (k a p b q : Nat) (hk : k < 256) (ha : a < 4294967296) (hp : p < 65536) (hb : b < 4294967296) (hq : q < 65536) (h1 : tupB k p q = true) (k2 a2 p2 b2 q2 : Nat) (hk2 : k2 < 256) (ha2 : a2 < 4294967296) (hp2 : p2 < 65536) (hb2 : b2 < 4294967296) (hq2 : q2 < 65536) (h2 : tupB k2 p2 q2 = false) (hne : ¬ (k = k2 ∧ a = a2 ∧ p = p2 ∧ b = b2 ∧ q = q2)) (hr : tkey k2 a2 p2 b2 q2 < tkey k a p b q) (w : World) (ht : TbQ w) : Calls Tryz.prog 7 #[.agg #[.int .u8 (k : Nat), .int .u32 (a : Nat), .int .u16 (p : Nat), .int .u32 (b : Nat), .int .u16 (q : Nat)], .agg #[.int .u8 (k2 : Nat), .int .u32 (a2 : Nat), .int .u16 (p2 : Nat), .int .u32 (b2 : Nat), .int .u16 (q2 : Nat)]] w (Ret1 (.bool true) w) := by
  have KB := Lib.hid (fun W => back_ok k a p b q W)
  have KB2 := Lib.hid (fun W => back_ok k b q a p W)
  have KM := Lib.hid (fun W hW => tup_ok k a p b q hk W hW)
  have KM2 := Lib.hid (fun W hW => tup_ok k b q a p hk W hW)
  have KN := Lib.hid (fun W hW => tup_ok k2 a2 p2 b2 q2 hk2 W hW)
  have KL := Lib.hid (fun W => tless_ok k a p b q k2 a2 p2 b2 q2 ha hp hb hq ha2 hp2 hb2 hq2 W)
  have KG := Lib.hid (fun W => tless_ok k2 a2 p2 b2 q2 k a p b q ha2 hp2 hb2 hq2 ha hp hb hq W)
  have KT := Lib.hid (fun W hW => text_any k a p b q hk ha hp hb hq W hW)
  have KU := Lib.hid (fun W hW => text_any k2 a2 p2 b2 q2 hk2 ha2 hp2 hb2 hq2 W hW)
  have hl := tupX_len k a p b q ha hp hb hq
  have KP := Lib.hid (fun W hW => tup_parse (tupX k a p b q) (by omega) W hW)
  rw [tupX_of k a p b q ha hp hb hq, h1] at KP
  rw [tupB_sym k q p, h1] at KM2
  rw [h1] at KM
  rw [h2] at KN
  rw [decide_eq_false (Nat.lt_asymm hr)] at KL
  rw [decide_eq_true hr] at KG
  have e1 : ∀ W, (binOp .eql 29 (.agg #[.int .u8 (k : Nat), .int .u32 (a : Nat), .int .u16 (p : Nat), .int .u32 (b : Nat), .int .u16 (q : Nat)]) (.agg #[.int .u8 (k2 : Nat), .int .u32 (a2 : Nat), .int .u16 (p2 : Nat), .int .u32 (b2 : Nat), .int .u16 (q2 : Nat)])).run Tryz.prog W = .ok (.bool false) W := fun W => by rw [tup_eq2]; simp [hne]
  have e2 : ∀ W, (binOp .eql 29 (.agg #[.int .u8 (k : Nat), .int .u32 (a : Nat), .int .u16 (p : Nat), .int .u32 (b : Nat), .int .u16 (q : Nat)]) (.agg #[.int .u8 (k : Nat), .int .u32 (a : Nat), .int .u16 (p : Nat), .int .u32 (b : Nat), .int .u16 (q : Nat)])).run Tryz.prog W = .ok (.bool true) W := fun W => by rw [tup_eq2]; simp
  have e3 : ∀ W, (binOp .neq 29 (.agg #[.int .u8 (k : Nat), .int .u32 (a : Nat), .int .u16 (p : Nat), .int .u32 (b : Nat), .int .u16 (q : Nat)]) (.agg #[.int .u8 (k : Nat), .int .u32 (a : Nat), .int .u16 (p : Nat), .int .u32 (b : Nat), .int .u16 (q : Nat)])).run Tryz.prog W = .ok (.bool false) W := fun W => by rw [tup_neq2]; simp
  clear hl
  generalize tupX k a p b q = tx at *
  unfold tupRV at KP
  simp only [if_true, if_false, Bool.false_eq_true] at KP
  generalize tupX k2 a2 p2 b2 q2 = tx2 at *
  clear h1 h2 hne hr
  go_enter Tryz.func7, Tryz.ntmps7
  go_upto_region 1 with fail
  have HN := Lib.hid (Fp.refl (fun _ => False) w)
  have HT := Lib.hid ht
  refine wp_gen (fun x1 hW => ?_)
  obtain ⟨hB, hB2, hp⟩ := new2_blk hW
  clear hW
  have hGe := hid_ge HN
  have hGe2 := Nat.le_succ_of_le hGe
  replace HN := hid_now HN hp
  change w.heap.size ≤ w.heap.size + 1 at hGe2
  obtain ⟨g3, hg3⟩ : ∃ g3, g3 = w.heap.size + 1 := ⟨_, rfl⟩
  have G_g3 := Lib.hid (Nat.le_trans hGe2 (Nat.le_of_eq hg3.symm))
  rw [← hg3] at hB2 ⊢
  have B_g3 := hB2
  clear hB2 hGe2 hg3
  obtain ⟨g2, hg2⟩ : ∃ g2, g2 = w.heap.size := ⟨_, rfl⟩
  have G_g2 := Lib.hid (Nat.le_trans hGe (Nat.le_of_eq hg2.symm))
  rw [← hg2] at hB ⊢
  have B_g2 := hB
  clear hB hGe hg2
  skip
  clear hp
  have cg20 := cell_at B_g2 0 rfl
  have cg21 := cell_at B_g2 1 rfl
  have cg22 := cell_at B_g2 2 rfl
  have cg23 := cell_at B_g2 3 rfl
  have cg24 := cell_at B_g2 4 rfl
  have zg2 := froz_at B_g2
  have lg2 := hid_lt B_g2
  have cg30 := cell_at B_g3 0 rfl
  have cg31 := cell_at B_g3 1 rfl
  have cg32 := cell_at B_g3 2 rfl
  have cg33 := cell_at B_g3 3 rfl
  have cg34 := cell_at B_g3 4 rfl
  have zg3 := froz_at B_g3
  have lg3 := hid_lt B_g3
  refine wp_region_held_drew (S := fun wx => NoW x1 wx) (by kernel_rfl) (Fp.drew (Fp.refl _ _)) (fun hHeld0 => ?_)
  refine any_eq hHeld0 (fun x2 hW hHeld => ?_)
  clear hHeld0
  replace B_g3 := hid_blk B_g3 (noW_drew hW)
  replace B_g2 := hid_blk B_g2 (noW_drew hW)
  clear hW
  (refine take_at 0 (some 9) rfl rfl (by kernel_rfl) (by kernel_rfl) (by kernel_rfl) (fun _ _ _ h => h) (v := ?_) (by kernel_rfl) ?_ (by assumption) ?_; rotate_left; (focus (intro wS hSw; have hX := fun b o (h : b < _) => hSw.cell (p := ⟨b, o, none⟩) h id; go_simp; try with_reducible rfl)); (try simp only [Act.put, List.setIfInBounds_toArray, List.set_cons_zero, List.set_cons_succ]))
  (refine take_at 3 (some 12) rfl rfl (by kernel_rfl) (by kernel_rfl) (by kernel_rfl) (fun _ _ _ h => h) (v := ?_) (by kernel_rfl) ?_ (by assumption) ?_; rotate_left; (focus (intro wS hSw; have hX := fun b o (h : b < _) => hSw.cell (p := ⟨b, o, none⟩) h id; go_simp; try with_reducible rfl)); (try simp only [Act.put, List.setIfInBounds_toArray, List.set_cons_zero, List.set_cons_succ]))
  refine wpAnyH_ready (rs := [1]) (by kernel_rfl) (by simp) ?_
  refine AllReadyH.cons rfl (fun K hK => ?_) AllReadyH.nil
  go_simp
  go_at_call 16
  refine (show Calls _ _ _ _ _ from KB.out _).mono ?_
  rintro e x3 ⟨rfl, hp⟩
  have hn := Fp.trans hHeld hp (fun _ _ h => h.elim)
  replace B_g3 := hid_blk B_g3 hp
  replace B_g2 := hid_blk B_g2 hp
  refine k_now hK hn ?_
  clear hK K hp hHeld
  have hHeld := hn
  clear hn
  try simp only [Act.put, List.setIfInBounds_toArray, List.set_cons_zero, List.set_cons_succ]
  refine wpAnyH_ready (rs := [2]) (by kernel_rfl) (by simp) ?_
  refine AllReadyH.cons rfl (fun K hK => ?_) AllReadyH.nil
  go_simp
  go_at_call 16
  refine (show Calls _ _ _ _ _ from KB2.out _).mono ?_
  rintro e x4 ⟨rfl, hp⟩
  have hn := Fp.trans hHeld hp (fun _ _ h => h.elim)
  replace B_g3 := hid_blk B_g3 hp
  replace B_g2 := hid_blk B_g2 hp
  refine k_now hK hn ?_
  clear hK K hp hHeld
  have hHeld := hn
  clear hn
  try simp only [Act.put, List.setIfInBounds_toArray, List.set_cons_zero, List.set_cons_succ]
  (refine take_at 4 (some 13) rfl rfl (by kernel_rfl) (by kernel_rfl) (by kernel_rfl) (fun _ _ _ h => h) (v := ?_) (by kernel_rfl) ?_ (by assumption) ?_; rotate_left; (focus (intro wS hSw; skip; go_simp; try with_reducible rfl)); (try simp only [Act.put, List.setIfInBounds_toArray, List.set_cons_zero, List.set_cons_succ]))
  (refine take_at 5 (some 14) rfl rfl (by kernel_rfl) (by kernel_rfl) (by kernel_rfl) (fun _ _ _ h => h) (v := ?_) (by kernel_rfl) ?_ (by assumption) ?_; rotate_left; (focus (intro wS hSw; skip; go_simp; try with_reducible rfl)); (try simp only [Act.put, List.setIfInBounds_toArray, List.set_cons_zero, List.set_cons_succ]))
  (refine take_at 6 (some 15) rfl rfl (by kernel_rfl) (by kernel_rfl) (by kernel_rfl) (fun _ _ _ h => h) (v := ?_) (by kernel_rfl) ?_ (by assumption) ?_; rotate_left; (focus (intro wS hSw; have hX := fun b o (h : b < _) => hSw.cell (p := ⟨b, o, none⟩) h id; go_simp; try with_reducible rfl)); (try simp only [Act.put, List.setIfInBounds_toArray, List.set_cons_zero, List.set_cons_succ]))
  (refine take_at 9 (some 18) rfl rfl (by kernel_rfl) (by kernel_rfl) (by kernel_rfl) (fun _ _ _ h => h) (v := ?_) (by kernel_rfl) ?_ (by assumption) ?_; rotate_left; (focus (intro wS hSw; have hX := fun b o (h : b < _) => hSw.cell (p := ⟨b, o, none⟩) h id; go_simp; try with_reducible rfl)); (try simp only [Act.put, List.setIfInBounds_toArray, List.set_cons_zero, List.set_cons_succ]))
  refine wpAnyH_ready (rs := [7]) (by kernel_rfl) (by simp) ?_
  refine AllReadyH.cons rfl (fun K hK => ?_) AllReadyH.nil
  go_simp
  go_at_call 16
  refine (show Calls _ _ _ _ _ from KB.out _).mono ?_
  rintro e x5 ⟨rfl, hp⟩
  have hn := Fp.trans hHeld hp (fun _ _ h => h.elim)
  replace B_g3 := hid_blk B_g3 hp
  replace B_g2 := hid_blk B_g2 hp
  refine k_now hK hn ?_
  clear hK K hp hHeld
  have hHeld := hn
  clear hn
  try simp only [Act.put, List.setIfInBounds_toArray, List.set_cons_zero, List.set_cons_succ]
  refine wpAnyH_ready (rs := [8]) (by kernel_rfl) (by simp) ?_
  refine AllReadyH.cons rfl (fun K hK => ?_) AllReadyH.nil
  go_simp
  go_at_call 12
  refine (show Calls _ _ _ _ _ from KM2.out _ (HT.out.low (HN.out.trans hHeld (fun _ _ h => h.elim))).toP.base).mono ?_
  rintro e x6 ⟨rfl, hp⟩
  have hn := Fp.trans hHeld hp (fun _ _ h => h.elim)
  replace B_g3 := hid_blk B_g3 hp
  replace B_g2 := hid_blk B_g2 hp
  refine k_now hK hn ?_
  clear hK K hp hHeld
  have hHeld := hn
  clear hn
  try simp only [Act.put, List.setIfInBounds_toArray, List.set_cons_zero, List.set_cons_succ]
  refine wpAnyH_ready (rs := [10]) (by kernel_rfl) (by simp) ?_
  refine AllReadyH.cons rfl (fun K hK => ?_) AllReadyH.nil
  go_simp
  go_at_call 12
  refine (show Calls _ _ _ _ _ from KM.out _ (HT.out.low (HN.out.trans hHeld (fun _ _ h => h.elim))).toP.base).mono ?_
  rintro e x7 ⟨rfl, hp⟩
  have hn := Fp.trans hHeld hp (fun _ _ h => h.elim)
  replace B_g3 := hid_blk B_g3 hp
  replace B_g2 := hid_blk B_g2 hp
  refine k_now hK hn ?_
  clear hK K hp hHeld
  have hHeld := hn
  clear hn
  try simp only [Act.put, List.setIfInBounds_toArray, List.set_cons_zero, List.set_cons_succ]
  (refine take_at 11 (some 20) rfl rfl (by kernel_rfl) (by kernel_rfl) (by kernel_rfl) (fun _ _ _ h => h) (v := ?_) (by kernel_rfl) ?_ (by assumption) ?_; rotate_left; (focus (intro wS hSw; skip; go_simp; try with_reducible rfl)); (try simp only [Act.put, List.setIfInBounds_toArray, List.set_cons_zero, List.set_cons_succ]))
  (refine take_at 12 (some 21) rfl rfl (by kernel_rfl) (by kernel_rfl) (by kernel_rfl) (fun _ _ _ h => h) (v := ?_) (by kernel_rfl) ?_ (by assumption) ?_; rotate_left; (focus (intro wS hSw; skip; go_simp; try with_reducible rfl)); (try simp only [Act.put, List.setIfInBounds_toArray, List.set_cons_zero, List.set_cons_succ]))
  refine wpAnyH_done (by kernel_rfl) ?_ _
  clear cg20 cg21 cg22 cg23 cg24 zg2 lg2 cg30 cg31 cg32 cg33 cg34 zg3 lg3
  have hGe := hid_ge HN
  replace HN := hid_now HN hHeld
  clear hHeld hGe
  go_upto_region 3 with fail
  have cg20 := cell_at B_g2 0 rfl
  have cg21 := cell_at B_g2 1 rfl
  have cg22 := cell_at B_g2 2 rfl
  have cg23 := cell_at B_g2 3 rfl
  have cg24 := cell_at B_g2 4 rfl
  have zg2 := froz_at B_g2
  have lg2 := hid_lt B_g2
  have cg30 := cell_at B_g3 0 rfl
  have cg31 := cell_at B_g3 1 rfl
  have cg32 := cell_at B_g3 2 rfl
  have cg33 := cell_at B_g3 3 rfl
  have cg34 := cell_at B_g3 4 rfl
  have zg3 := froz_at B_g3
  have lg3 := hid_lt B_g3
  refine wp_region_held_drew (S := fun wx => NoW x7 wx) (by kernel_rfl) (Fp.drew (Fp.refl _ _)) (fun hHeld0 => ?_)
  refine any_eq hHeld0 (fun x8 hW hHeld => ?_)
  clear hHeld0
  replace B_g3 := hid_blk B_g3 (noW_drew hW)
  replace B_g2 := hid_blk B_g2 (noW_drew hW)
  clear hW
  (refine take_at 0 (some 22) rfl rfl (by kernel_rfl) (by kernel_rfl) (by kernel_rfl) (fun _ _ _ h => h) (v := ?_) (by kernel_rfl) ?_ (by assumption) ?_; rotate_left; (focus (intro wS hSw; have hX := fun b o (h : b < _) => hSw.cell (p := ⟨b, o, none⟩) h id; go_simp; try with_reducible rfl)); (try simp only [Act.put, List.setIfInBounds_toArray, List.set_cons_zero, List.set_cons_succ]))
  (refine take_at 1 (some 23) rfl rfl (by kernel_rfl) (by kernel_rfl) (by kernel_rfl) (fun _ _ _ h => h) (v := ?_) (by kernel_rfl) ?_ (by assumption) ?_; rotate_left; (focus (intro wS hSw; have hX := fun b o (h : b < _) => hSw.cell (p := ⟨b, o, none⟩) h id; go_simp; try with_reducible rfl)); (try simp only [Act.put, List.setIfInBounds_toArray, List.set_cons_zero, List.set_cons_succ]))
  (refine take_at 3 (some 25) rfl rfl (by kernel_rfl) (by kernel_rfl) (by kernel_rfl) (fun _ _ _ h => h) (v := ?_) (by kernel_rfl) ?_ (by assumption) ?_; rotate_left; (focus (intro wS hSw; have hX := fun b o (h : b < _) => hSw.cell (p := ⟨b, o, none⟩) h id; go_simp; try with_reducible rfl)); (try simp only [Act.put, List.setIfInBounds_toArray, List.set_cons_zero, List.set_cons_succ]))
  (refine take_at 4 (some 26) rfl rfl (by kernel_rfl) (by kernel_rfl) (by kernel_rfl) (fun _ _ _ h => h) (v := ?_) (by kernel_rfl) ?_ (by assumption) ?_; rotate_left; (focus (intro wS hSw; have hX := fun b o (h : b < _) => hSw.cell (p := ⟨b, o, none⟩) h id; go_simp; try with_reducible rfl)); (try simp only [Act.put, List.setIfInBounds_toArray, List.set_cons_zero, List.set_cons_succ]))
  refine wpAnyH_ready (rs := [2]) (by kernel_rfl) (by simp) ?_
  refine AllReadyH.cons rfl (fun K hK => ?_) AllReadyH.nil
  go_simp
  go_at_call 19
  refine (show Calls _ _ _ _ _ from KL.out _).mono ?_
  rintro e x9 ⟨rfl, hp⟩
  have hn := Fp.trans hHeld hp (fun _ _ h => h.elim)
  replace B_g3 := hid_blk B_g3 hp
  replace B_g2 := hid_blk B_g2 hp
  refine k_now hK hn ?_
  clear hK K hp hHeld
  have hHeld := hn
  clear hn
  try simp only [Act.put, List.setIfInBounds_toArray, List.set_cons_zero, List.set_cons_succ]
  refine wpAnyH_ready (rs := [5]) (by kernel_rfl) (by simp) ?_
  refine AllReadyH.cons rfl (fun K hK => ?_) AllReadyH.nil
  go_simp
  go_at_call 19
  refine (show Calls _ _ _ _ _ from KG.out _).mono ?_
  rintro e x10 ⟨rfl, hp⟩
  have hn := Fp.trans hHeld hp (fun _ _ h => h.elim)
  replace B_g3 := hid_blk B_g3 hp
  replace B_g2 := hid_blk B_g2 hp
  refine k_now hK hn ?_
  clear hK K hp hHeld
  have hHeld := hn
  clear hn
  try simp only [Act.put, List.setIfInBounds_toArray, List.set_cons_zero, List.set_cons_succ]
  (refine take_at 6 (some 5) rfl rfl (by kernel_rfl) (by kernel_rfl) (by kernel_rfl) (fun _ _ _ h => h) (v := ?_) (by kernel_rfl) ?_ (by assumption) ?_; rotate_left; (focus (intro wS hSw; skip; go_simp; try with_reducible rfl)); (try simp only [Act.put, List.setIfInBounds_toArray, List.set_cons_zero, List.set_cons_succ]))
  (refine take_at 7 (some 6) rfl rfl (by kernel_rfl) (by kernel_rfl) (by kernel_rfl) (fun _ _ _ h => h) (v := ?_) (by kernel_rfl) ?_ (by assumption) ?_; rotate_left; (focus (intro wS hSw; skip; go_simp; try with_reducible rfl)); (try simp only [Act.put, List.setIfInBounds_toArray, List.set_cons_zero, List.set_cons_succ]))
  refine wpAnyH_done (by kernel_rfl) ?_ _
  clear cg20 cg21 cg22 cg23 cg24 zg2 lg2 cg30 cg31 cg32 cg33 cg34 zg3 lg3
  have hGe := hid_ge HN
  replace HN := hid_now HN hHeld
  clear hHeld hGe
  have cg20 := cell_at B_g2 0 rfl
  have cg21 := cell_at B_g2 1 rfl
  have cg22 := cell_at B_g2 2 rfl
  have cg23 := cell_at B_g2 3 rfl
  have cg24 := cell_at B_g2 4 rfl
  have zg2 := froz_at B_g2
  have lg2 := hid_lt B_g2
  have cg30 := cell_at B_g3 0 rfl
  have cg31 := cell_at B_g3 1 rfl
  have cg32 := cell_at B_g3 2 rfl
  have cg33 := cell_at B_g3 3 rfl
  have cg34 := cell_at B_g3 4 rfl
  have zg3 := froz_at B_g3
  have lg3 := hid_lt B_g3
  go_wp2_with fail
  clear cg20 cg21 cg22 cg23 cg24 zg2 lg2 cg30 cg31 cg32 cg33 cg34 zg3 lg3
  refine (show Calls _ _ _ _ _ from KT.out _ (HT.out.low HN.out).toP.base).mono ?_
  rintro e x11 ⟨rfl, hp⟩
  replace HN := hid_now HN hp
  replace B_g3 := hid_blk B_g3 hp
  replace B_g2 := hid_blk B_g2 hp
  clear hp
  go_wp2_with fail
  refine (show Calls _ _ _ _ _ from KP.out _ (HT.out.low HN.out)).mono ?_
  rintro e x12 ⟨rfl, hp⟩
  replace HN := hid_now HN hp
  replace B_g3 := hid_blk B_g3 hp
  replace B_g2 := hid_blk B_g2 hp
  clear hp
  go_upto_region 7 with fail
  refine wp_gen (fun x13 hW => ?_)
  have l2g3 := hid_lt B_g3
  have l2g2 := hid_lt B_g2
  have hp := new_now hW
  have hB := new_blk hW
  clear hW
  have hGe := hid_ge HN
  replace HN := hid_now HN hp
  replace B_g3 := hid_blk B_g3 hp
  replace B_g2 := hid_blk B_g2 hp
  obtain ⟨g7, hg7⟩ : ∃ g7, g7 = x12.heap.size := ⟨_, rfl⟩
  have G_g7 := Lib.hid (Nat.le_trans hGe (Nat.le_of_eq hg7.symm))
  have n_g3_g7 : ¬ g3 = g7 := by omega
  have n_g7_g3 : ¬ g7 = g3 := by omega
  clear l2g3
  have n_g2_g7 : ¬ g2 = g7 := by omega
  have n_g7_g2 : ¬ g7 = g2 := by omega
  clear l2g2
  rw [← hg7] at hB ⊢
  have B_g7 := hB
  clear hB hGe hg7
  clear hp
  have cg20 := cell_at B_g2 0 rfl
  have cg21 := cell_at B_g2 1 rfl
  have cg22 := cell_at B_g2 2 rfl
  have cg23 := cell_at B_g2 3 rfl
  have cg24 := cell_at B_g2 4 rfl
  have zg2 := froz_at B_g2
  have lg2 := hid_lt B_g2
  go_wp2_with fail
  clear cg20 cg21 cg22 cg23 cg24 zg2 lg2
  refine (show Calls _ _ _ _ _ from KM.out _ (HT.out.low HN.out).toP.base).mono ?_
  rintro e x14 ⟨rfl, hp⟩
  replace HN := hid_now HN hp
  replace B_g3 := hid_blk B_g3 hp
  replace B_g2 := hid_blk B_g2 hp
  replace B_g7 := hid_blk B_g7 hp
  clear hp
  go_upto_region 9 with fail
  have cg20 := cell_at B_g2 0 rfl
  have cg21 := cell_at B_g2 1 rfl
  have cg22 := cell_at B_g2 2 rfl
  have cg23 := cell_at B_g2 3 rfl
  have cg24 := cell_at B_g2 4 rfl
  have zg2 := froz_at B_g2
  have lg2 := hid_lt B_g2
  have cg30 := cell_at B_g3 0 rfl
  have cg31 := cell_at B_g3 1 rfl
  have cg32 := cell_at B_g3 2 rfl
  have cg33 := cell_at B_g3 3 rfl
  have cg34 := cell_at B_g3 4 rfl
  have zg3 := froz_at B_g3
  have lg3 := hid_lt B_g3
  have cg70 := cell_at B_g7 0 rfl
  have cg71 := cell_at B_g7 1 rfl
  have cg72 := cell_at B_g7 2 rfl
  have cg73 := cell_at B_g7 3 rfl
  have cg74 := cell_at B_g7 4 rfl
  have zg7 := froz_at B_g7
  have lg7 := hid_lt B_g7
  refine wp_region_held_drew (S := fun wx => NoW x14 wx) (by kernel_rfl) (Fp.drew (Fp.refl _ _)) (fun hHeld0 => ?_)
  refine any_eq hHeld0 (fun x15 hW hHeld => ?_)
  clear hHeld0
  replace B_g3 := hid_blk B_g3 (noW_drew hW)
  replace B_g2 := hid_blk B_g2 (noW_drew hW)
  replace B_g7 := hid_blk B_g7 (noW_drew hW)
  clear hW
  (refine take_at 0 (some 63) rfl rfl (by kernel_rfl) (by kernel_rfl) (by kernel_rfl) (fun _ _ _ h => h) (v := ?_) (by kernel_rfl) ?_ (by assumption) ?_; rotate_left; (focus (intro wS hSw; have hX := fun b o (h : b < _) => hSw.cell (p := ⟨b, o, none⟩) h id; go_simp; try with_reducible rfl)); (try simp only [Act.put, List.setIfInBounds_toArray, List.set_cons_zero, List.set_cons_succ]))
  (refine take_at 1 (some 64) rfl rfl (by kernel_rfl) (by kernel_rfl) (by kernel_rfl) (fun _ _ _ h => h) (v := ?_) (by kernel_rfl) ?_ (by assumption) ?_; rotate_left; (focus (intro wS hSw; have hX := fun b o (h : b < _) => hSw.cell (p := ⟨b, o, none⟩) h id; go_simp; try with_reducible rfl)); (try simp only [Act.put, List.setIfInBounds_toArray, List.set_cons_zero, List.set_cons_succ]))
  (refine take_at 2 (some 65) rfl rfl (by kernel_rfl) (by kernel_rfl) (by kernel_rfl) (fun _ _ _ h => h) (v := ?_) (by kernel_rfl) ?_ (by assumption) ?_; rotate_left; (focus (intro wS hSw; skip; go_simp; try with_reducible rfl)); (try simp only [Act.put, List.setIfInBounds_toArray, List.set_cons_zero, List.set_cons_succ]))
  (refine take_at 3 (some 66) rfl rfl (by kernel_rfl) (by kernel_rfl) (by kernel_rfl) (fun _ _ _ h => h) (v := ?_) (by kernel_rfl) ?_ (by assumption) ?_; rotate_left; (focus (intro wS hSw; skip; go_simp; try with_reducible rfl)); (try simp only [Act.put, List.setIfInBounds_toArray, List.set_cons_zero, List.set_cons_succ]))
  (refine take_at 4 (some 67) rfl rfl (by kernel_rfl) (by kernel_rfl) (by kernel_rfl) (fun _ _ _ h => h) (v := ?_) (by kernel_rfl) ?_ (by assumption) ?_; rotate_left; (focus (intro wS hSw; skip; go_simp; try with_reducible rfl)); (try simp only [Act.put, List.setIfInBounds_toArray, List.set_cons_zero, List.set_cons_succ]))
  (refine take_at 5 (some 68) rfl rfl (by kernel_rfl) (by kernel_rfl) (by kernel_rfl) (fun _ _ _ h => h) (v := ?_) (by kernel_rfl) ?_ (by assumption) ?_; rotate_left; (focus (intro wS hSw; skip; go_simp; try with_reducible rfl)); (try simp only [Act.put, List.setIfInBounds_toArray, List.set_cons_zero, List.set_cons_succ]))
  (refine take_at 6 (some 69) rfl rfl (by kernel_rfl) (by kernel_rfl) (by kernel_rfl) (fun _ _ _ h => h) (v := ?_) (by kernel_rfl) ?_ (by assumption) ?_; rotate_left; (focus (intro wS hSw; skip; go_simp; try with_reducible rfl)); (try simp only [Act.put, List.setIfInBounds_toArray, List.set_cons_zero, List.set_cons_succ]))
  (refine take_at 7 (some 70) rfl rfl (by kernel_rfl) (by kernel_rfl) (by kernel_rfl) (fun _ _ _ h => h) (v := ?_) (by kernel_rfl) ?_ (by assumption) ?_; rotate_left; (focus (intro wS hSw; skip; go_simp; try with_reducible rfl)); (try simp only [Act.put, List.setIfInBounds_toArray, List.set_cons_zero, List.set_cons_succ]))
  (refine take_at 8 (some 71) rfl rfl (by kernel_rfl) (by kernel_rfl) (by kernel_rfl) (fun _ _ _ h => h) (v := ?_) (by kernel_rfl) ?_ (by assumption) ?_; rotate_left; (focus (intro wS hSw; have hX := fun b o (h : b < _) => hSw.cell (p := ⟨b, o, none⟩) h id; go_simp; try with_reducible rfl)); (try simp only [Act.put, List.setIfInBounds_toArray, List.set_cons_zero, List.set_cons_succ]))
  refine wpAnyH_ready (rs := [9]) (by kernel_rfl) (by simp) ?_
  refine AllReadyH.cons rfl (fun K hK => ?_) AllReadyH.nil
  go_simp
  go_at_call 12
  refine (show Calls _ _ _ _ _ from KN.out _ (HT.out.low (HN.out.trans hHeld (fun _ _ h => h.elim))).toP.base).mono ?_
  rintro e x16 ⟨rfl, hp⟩
  have hn := Fp.trans hHeld hp (fun _ _ h => h.elim)
  replace B_g3 := hid_blk B_g3 hp
  replace B_g2 := hid_blk B_g2 hp
  replace B_g7 := hid_blk B_g7 hp
  refine k_now hK hn ?_
  clear hK K hp hHeld
  have hHeld := hn
  clear hn
  try simp only [Act.put, List.setIfInBounds_toArray, List.set_cons_zero, List.set_cons_succ]
  (refine take_at 10 (some 73) rfl rfl (by kernel_rfl) (by kernel_rfl) (by kernel_rfl) (fun _ _ _ h => h) (v := ?_) (by kernel_rfl) ?_ (by assumption) ?_; rotate_left; (focus (intro wS hSw; skip; go_simp; try with_reducible rfl)); (try simp only [Act.put, List.setIfInBounds_toArray, List.set_cons_zero, List.set_cons_succ]))
  (refine take_at 11 (some 74) rfl rfl (by kernel_rfl) (by kernel_rfl) (by kernel_rfl) (fun _ _ _ h => h) (v := ?_) (by kernel_rfl) ?_ (by assumption) ?_; rotate_left; (focus (intro wS hSw; skip; go_simp; try with_reducible rfl)); (try simp only [Act.put, List.setIfInBounds_toArray, List.set_cons_zero, List.set_cons_succ]))
  (refine drop_at 12 (some 75) rfl rfl (by kernel_rfl) (by kernel_rfl) (by kernel_rfl) (fun _ _ _ h => h) (by kernel_rfl) (by assumption) ?_; (try simp only [Act.put, List.setIfInBounds_toArray, List.set_cons_zero, List.set_cons_succ]))
  (refine drop_at 13 (some 76) rfl rfl (by kernel_rfl) (by kernel_rfl) (by kernel_rfl) (fun _ _ _ h => h) (by kernel_rfl) (by assumption) ?_; (try simp only [Act.put, List.setIfInBounds_toArray, List.set_cons_zero, List.set_cons_succ]))
  (refine drop_at 14 (some 77) rfl rfl (by kernel_rfl) (by kernel_rfl) (by kernel_rfl) (fun _ _ _ h => h) (by kernel_rfl) (by assumption) ?_; (try simp only [Act.put, List.setIfInBounds_toArray, List.set_cons_zero, List.set_cons_succ]))
  (refine drop_at 15 (some 78) rfl rfl (by kernel_rfl) (by kernel_rfl) (by kernel_rfl) (fun _ _ _ h => h) (by kernel_rfl) (by assumption) ?_; (try simp only [Act.put, List.setIfInBounds_toArray, List.set_cons_zero, List.set_cons_succ]))
  (refine drop_at 16 (some 79) rfl rfl (by kernel_rfl) (by kernel_rfl) (by kernel_rfl) (fun _ _ _ h => h) (by kernel_rfl) (by assumption) ?_; (try simp only [Act.put, List.setIfInBounds_toArray, List.set_cons_zero, List.set_cons_succ]))
  (refine drop_at 17 (some 80) rfl rfl (by kernel_rfl) (by kernel_rfl) (by kernel_rfl) (fun _ _ _ h => h) (by kernel_rfl) (by assumption) ?_; (try simp only [Act.put, List.setIfInBounds_toArray, List.set_cons_zero, List.set_cons_succ]))
  (refine drop_at 18 (some 81) rfl rfl (by kernel_rfl) (by kernel_rfl) (by kernel_rfl) (fun _ _ _ h => h) (by kernel_rfl) (by assumption) ?_; (try simp only [Act.put, List.setIfInBounds_toArray, List.set_cons_zero, List.set_cons_succ]))
  (refine drop_at 19 (some 82) rfl rfl (by kernel_rfl) (by kernel_rfl) (by kernel_rfl) (fun _ _ _ h => h) (by kernel_rfl) (by assumption) ?_; (try simp only [Act.put, List.setIfInBounds_toArray, List.set_cons_zero, List.set_cons_succ]))
  (refine drop_at 20 (some 83) rfl rfl (by kernel_rfl) (by kernel_rfl) (by kernel_rfl) (fun _ _ _ h => h) (by kernel_rfl) (by assumption) ?_; (try simp only [Act.put, List.setIfInBounds_toArray, List.set_cons_zero, List.set_cons_succ]))
  (refine take_at 21 (some 84) rfl rfl (by kernel_rfl) (by kernel_rfl) (by kernel_rfl) (fun _ _ _ h => h) (v := ?_) (by kernel_rfl) ?_ (by assumption) ?_; rotate_left; (focus (intro wS hSw; skip; go_simp; try with_reducible rfl)); (try simp only [Act.put, List.setIfInBounds_toArray, List.set_cons_zero, List.set_cons_succ]))
  (refine take_at 22 (some 85) rfl rfl (by kernel_rfl) (by kernel_rfl) (by kernel_rfl) (fun _ _ _ h => h) (v := ?_) (by kernel_rfl) ?_ (by assumption) ?_; rotate_left; (focus (intro wS hSw; skip; go_simp; try with_reducible rfl)); (try simp only [Act.put, List.setIfInBounds_toArray, List.set_cons_zero, List.set_cons_succ]))
  (refine take_at 23 (some 86) rfl rfl (by kernel_rfl) (by kernel_rfl) (by kernel_rfl) (fun _ _ _ h => h) (v := ?_) (by kernel_rfl) ?_ (by assumption) ?_; rotate_left; (focus (intro wS hSw; skip; go_simp; try with_reducible rfl)); (try simp only [Act.put, List.setIfInBounds_toArray, List.set_cons_zero, List.set_cons_succ]))
  refine wpAnyH_ready (rs := [24]) (by kernel_rfl) (by simp) ?_
  refine AllReadyH.cons rfl (fun K hK => ?_) AllReadyH.nil
  go_simp
  go_at_call 9
  refine (show Calls _ _ _ _ _ from watched_ok _ (HT.out.low (HN.out.trans hHeld (fun _ _ h => h.elim)))).mono ?_
  rintro e x17 ⟨rfl, hp⟩
  have hn := Fp.trans hHeld hp (fun _ _ h => h.elim)
  replace B_g3 := hid_blk B_g3 hp
  replace B_g2 := hid_blk B_g2 hp
  replace B_g7 := hid_blk B_g7 hp
  refine k_now hK hn ?_
  clear hK K hp hHeld
  have hHeld := hn
  clear hn
  try simp only [Act.put, List.setIfInBounds_toArray, List.set_cons_zero, List.set_cons_succ]
  (refine take_at 25 (some 88) rfl rfl (by kernel_rfl) (by kernel_rfl) (by kernel_rfl) (fun _ _ _ h => h) (v := ?_) (by kernel_rfl) ?_ (by assumption) ?_; rotate_left; (focus (intro wS hSw; skip; go_simp; try with_reducible rfl)); (try simp only [Act.put, List.setIfInBounds_toArray, List.set_cons_zero, List.set_cons_succ]))
  (refine take_at 26 (some 4) rfl rfl (by kernel_rfl) (by kernel_rfl) (by kernel_rfl) (fun _ _ _ h => h) (v := ?_) (by kernel_rfl) ?_ (by assumption) ?_; rotate_left; (focus (intro wS hSw; skip; go_simp; try with_reducible rfl)); (try simp only [Act.put, List.setIfInBounds_toArray, List.set_cons_zero, List.set_cons_succ]))
  refine wpAnyH_done (by kernel_rfl) ?_ _
  clear cg20 cg21 cg22 cg23 cg24 zg2 lg2 cg30 cg31 cg32 cg33 cg34 zg3 lg3 cg70 cg71 cg72 cg73 cg74 zg7 lg7
  have hGe := hid_ge HN
  replace HN := hid_now HN hHeld
  clear hHeld hGe
  go_wp2_with fail
  go_ret
  exact ⟨rfl, HN.out⟩
set_option maxHeartbeats 8000000 in
set_option maxRecDepth 100000 in
theorem tb_gt11 (k a p b q : Nat) (hk : k < 256) (ha : a < 4294967296) (hp : p < 65536) (hb : b < 4294967296) (hq : q < 65536) (h1 : tupB k p q = true) (k2 a2 p2 b2 q2 : Nat) (hk2 : k2 < 256) (ha2 : a2 < 4294967296) (hp2 : p2 < 65536) (hb2 : b2 < 4294967296) (hq2 : q2 < 65536) (h2 : tupB k2 p2 q2 = true) (hne : ¬ (k = k2 ∧ a = a2 ∧ p = p2 ∧ b = b2 ∧ q = q2)) (hr : tkey k2 a2 p2 b2 q2 < tkey k a p b q) (w : World) (ht : TbQ w) : Calls Tryz.prog 7 #[.agg #[.int .u8 (k : Nat), .int .u32 (a : Nat), .int .u16 (p : Nat), .int .u32 (b : Nat), .int .u16 (q : Nat)], .agg #[.int .u8 (k2 : Nat), .int .u32 (a2 : Nat), .int .u16 (p2 : Nat), .int .u32 (b2 : Nat), .int .u16 (q2 : Nat)]] w (Ret1 (.bool true) w) := by
  have KB := Lib.hid (fun W => back_ok k a p b q W)
  have KB2 := Lib.hid (fun W => back_ok k b q a p W)
  have KM := Lib.hid (fun W hW => tup_ok k a p b q hk W hW)
  have KM2 := Lib.hid (fun W hW => tup_ok k b q a p hk W hW)
  have KN := Lib.hid (fun W hW => tup_ok k2 a2 p2 b2 q2 hk2 W hW)
  have KL := Lib.hid (fun W => tless_ok k a p b q k2 a2 p2 b2 q2 ha hp hb hq ha2 hp2 hb2 hq2 W)
  have KG := Lib.hid (fun W => tless_ok k2 a2 p2 b2 q2 k a p b q ha2 hp2 hb2 hq2 ha hp hb hq W)
  have KT := Lib.hid (fun W hW => text_any k a p b q hk ha hp hb hq W hW)
  have KU := Lib.hid (fun W hW => text_any k2 a2 p2 b2 q2 hk2 ha2 hp2 hb2 hq2 W hW)
  have hl := tupX_len k a p b q ha hp hb hq
  have KP := Lib.hid (fun W hW => tup_parse (tupX k a p b q) (by omega) W hW)
  rw [tupX_of k a p b q ha hp hb hq, h1] at KP
  rw [tupB_sym k q p, h1] at KM2
  rw [h1] at KM
  rw [h2] at KN
  rw [decide_eq_false (Nat.lt_asymm hr)] at KL
  rw [decide_eq_true hr] at KG
  have e1 : ∀ W, (binOp .eql 29 (.agg #[.int .u8 (k : Nat), .int .u32 (a : Nat), .int .u16 (p : Nat), .int .u32 (b : Nat), .int .u16 (q : Nat)]) (.agg #[.int .u8 (k2 : Nat), .int .u32 (a2 : Nat), .int .u16 (p2 : Nat), .int .u32 (b2 : Nat), .int .u16 (q2 : Nat)])).run Tryz.prog W = .ok (.bool false) W := fun W => by rw [tup_eq2]; simp [hne]
  have e2 : ∀ W, (binOp .eql 29 (.agg #[.int .u8 (k : Nat), .int .u32 (a : Nat), .int .u16 (p : Nat), .int .u32 (b : Nat), .int .u16 (q : Nat)]) (.agg #[.int .u8 (k : Nat), .int .u32 (a : Nat), .int .u16 (p : Nat), .int .u32 (b : Nat), .int .u16 (q : Nat)])).run Tryz.prog W = .ok (.bool true) W := fun W => by rw [tup_eq2]; simp
  have e3 : ∀ W, (binOp .neq 29 (.agg #[.int .u8 (k : Nat), .int .u32 (a : Nat), .int .u16 (p : Nat), .int .u32 (b : Nat), .int .u16 (q : Nat)]) (.agg #[.int .u8 (k : Nat), .int .u32 (a : Nat), .int .u16 (p : Nat), .int .u32 (b : Nat), .int .u16 (q : Nat)])).run Tryz.prog W = .ok (.bool false) W := fun W => by rw [tup_neq2]; simp
  have s0 : (tupX k a p b q == tupX k2 a2 p2 b2 q2) = false := beq_eq_false_iff_ne.2 fun e => hne (tupX_inj ha hp hb hq ha2 hp2 hb2 hq2 h1 h2 e)
  clear hl
  generalize tupX k a p b q = tx at *
  unfold tupRV at KP
  simp only [if_true, if_false, Bool.false_eq_true] at KP
  generalize tupX k2 a2 p2 b2 q2 = tx2 at *
  clear h1 h2 hne hr
  go_enter Tryz.func7, Tryz.ntmps7
  go_upto_region 1 with fail
  have HN := Lib.hid (Fp.refl (fun _ => False) w)
  have HT := Lib.hid ht
  refine wp_gen (fun x1 hW => ?_)
  obtain ⟨hB, hB2, hp⟩ := new2_blk hW
  clear hW
  have hGe := hid_ge HN
  have hGe2 := Nat.le_succ_of_le hGe
  replace HN := hid_now HN hp
  change w.heap.size ≤ w.heap.size + 1 at hGe2
  obtain ⟨g3, hg3⟩ : ∃ g3, g3 = w.heap.size + 1 := ⟨_, rfl⟩
  have G_g3 := Lib.hid (Nat.le_trans hGe2 (Nat.le_of_eq hg3.symm))
  rw [← hg3] at hB2 ⊢
  have B_g3 := hB2
  clear hB2 hGe2 hg3
  obtain ⟨g2, hg2⟩ : ∃ g2, g2 = w.heap.size := ⟨_, rfl⟩
  have G_g2 := Lib.hid (Nat.le_trans hGe (Nat.le_of_eq hg2.symm))
  rw [← hg2] at hB ⊢
  have B_g2 := hB
  clear hB hGe hg2
  skip
  clear hp
  have cg20 := cell_at B_g2 0 rfl
  have cg21 := cell_at B_g2 1 rfl
  have cg22 := cell_at B_g2 2 rfl
  have cg23 := cell_at B_g2 3 rfl
  have cg24 := cell_at B_g2 4 rfl
  have zg2 := froz_at B_g2
  have lg2 := hid_lt B_g2
  have cg30 := cell_at B_g3 0 rfl
  have cg31 := cell_at B_g3 1 rfl
  have cg32 := cell_at B_g3 2 rfl
  have cg33 := cell_at B_g3 3 rfl
  have cg34 := cell_at B_g3 4 rfl
  have zg3 := froz_at B_g3
  have lg3 := hid_lt B_g3
  refine wp_region_held_drew (S := fun wx => NoW x1 wx) (by kernel_rfl) (Fp.drew (Fp.refl _ _)) (fun hHeld0 => ?_)
  refine any_eq hHeld0 (fun x2 hW hHeld => ?_)
  clear hHeld0
  replace B_g3 := hid_blk B_g3 (noW_drew hW)
  replace B_g2 := hid_blk B_g2 (noW_drew hW)
  clear hW
  (refine take_at 0 (some 9) rfl rfl (by kernel_rfl) (by kernel_rfl) (by kernel_rfl) (fun _ _ _ h => h) (v := ?_) (by kernel_rfl) ?_ (by assumption) ?_; rotate_left; (focus (intro wS hSw; have hX := fun b o (h : b < _) => hSw.cell (p := ⟨b, o, none⟩) h id; go_simp; try with_reducible rfl)); (try simp only [Act.put, List.setIfInBounds_toArray, List.set_cons_zero, List.set_cons_succ]))
  (refine take_at 3 (some 12) rfl rfl (by kernel_rfl) (by kernel_rfl) (by kernel_rfl) (fun _ _ _ h => h) (v := ?_) (by kernel_rfl) ?_ (by assumption) ?_; rotate_left; (focus (intro wS hSw; have hX := fun b o (h : b < _) => hSw.cell (p := ⟨b, o, none⟩) h id; go_simp; try with_reducible rfl)); (try simp only [Act.put, List.setIfInBounds_toArray, List.set_cons_zero, List.set_cons_succ]))
  refine wpAnyH_ready (rs := [1]) (by kernel_rfl) (by simp) ?_
  refine AllReadyH.cons rfl (fun K hK => ?_) AllReadyH.nil
  go_simp
  go_at_call 16
  refine (show Calls _ _ _ _ _ from KB.out _).mono ?_
  rintro e x3 ⟨rfl, hp⟩
  have hn := Fp.trans hHeld hp (fun _ _ h => h.elim)
  replace B_g3 := hid_blk B_g3 hp
  replace B_g2 := hid_blk B_g2 hp
  refine k_now hK hn ?_
  clear hK K hp hHeld
  have hHeld := hn
  clear hn
  try simp only [Act.put, List.setIfInBounds_toArray, List.set_cons_zero, List.set_cons_succ]
  refine wpAnyH_ready (rs := [2]) (by kernel_rfl) (by simp) ?_
  refine AllReadyH.cons rfl (fun K hK => ?_) AllReadyH.nil
  go_simp
  go_at_call 16
  refine (show Calls _ _ _ _ _ from KB2.out _).mono ?_
  rintro e x4 ⟨rfl, hp⟩
  have hn := Fp.trans hHeld hp (fun _ _ h => h.elim)
  replace B_g3 := hid_blk B_g3 hp
  replace B_g2 := hid_blk B_g2 hp
  refine k_now hK hn ?_
  clear hK K hp hHeld
  have hHeld := hn
  clear hn
  try simp only [Act.put, List.setIfInBounds_toArray, List.set_cons_zero, List.set_cons_succ]
  (refine take_at 4 (some 13) rfl rfl (by kernel_rfl) (by kernel_rfl) (by kernel_rfl) (fun _ _ _ h => h) (v := ?_) (by kernel_rfl) ?_ (by assumption) ?_; rotate_left; (focus (intro wS hSw; skip; go_simp; try with_reducible rfl)); (try simp only [Act.put, List.setIfInBounds_toArray, List.set_cons_zero, List.set_cons_succ]))
  (refine take_at 5 (some 14) rfl rfl (by kernel_rfl) (by kernel_rfl) (by kernel_rfl) (fun _ _ _ h => h) (v := ?_) (by kernel_rfl) ?_ (by assumption) ?_; rotate_left; (focus (intro wS hSw; skip; go_simp; try with_reducible rfl)); (try simp only [Act.put, List.setIfInBounds_toArray, List.set_cons_zero, List.set_cons_succ]))
  (refine take_at 6 (some 15) rfl rfl (by kernel_rfl) (by kernel_rfl) (by kernel_rfl) (fun _ _ _ h => h) (v := ?_) (by kernel_rfl) ?_ (by assumption) ?_; rotate_left; (focus (intro wS hSw; have hX := fun b o (h : b < _) => hSw.cell (p := ⟨b, o, none⟩) h id; go_simp; try with_reducible rfl)); (try simp only [Act.put, List.setIfInBounds_toArray, List.set_cons_zero, List.set_cons_succ]))
  (refine take_at 9 (some 18) rfl rfl (by kernel_rfl) (by kernel_rfl) (by kernel_rfl) (fun _ _ _ h => h) (v := ?_) (by kernel_rfl) ?_ (by assumption) ?_; rotate_left; (focus (intro wS hSw; have hX := fun b o (h : b < _) => hSw.cell (p := ⟨b, o, none⟩) h id; go_simp; try with_reducible rfl)); (try simp only [Act.put, List.setIfInBounds_toArray, List.set_cons_zero, List.set_cons_succ]))
  refine wpAnyH_ready (rs := [7]) (by kernel_rfl) (by simp) ?_
  refine AllReadyH.cons rfl (fun K hK => ?_) AllReadyH.nil
  go_simp
  go_at_call 16
  refine (show Calls _ _ _ _ _ from KB.out _).mono ?_
  rintro e x5 ⟨rfl, hp⟩
  have hn := Fp.trans hHeld hp (fun _ _ h => h.elim)
  replace B_g3 := hid_blk B_g3 hp
  replace B_g2 := hid_blk B_g2 hp
  refine k_now hK hn ?_
  clear hK K hp hHeld
  have hHeld := hn
  clear hn
  try simp only [Act.put, List.setIfInBounds_toArray, List.set_cons_zero, List.set_cons_succ]
  refine wpAnyH_ready (rs := [8]) (by kernel_rfl) (by simp) ?_
  refine AllReadyH.cons rfl (fun K hK => ?_) AllReadyH.nil
  go_simp
  go_at_call 12
  refine (show Calls _ _ _ _ _ from KM2.out _ (HT.out.low (HN.out.trans hHeld (fun _ _ h => h.elim))).toP.base).mono ?_
  rintro e x6 ⟨rfl, hp⟩
  have hn := Fp.trans hHeld hp (fun _ _ h => h.elim)
  replace B_g3 := hid_blk B_g3 hp
  replace B_g2 := hid_blk B_g2 hp
  refine k_now hK hn ?_
  clear hK K hp hHeld
  have hHeld := hn
  clear hn
  try simp only [Act.put, List.setIfInBounds_toArray, List.set_cons_zero, List.set_cons_succ]
  refine wpAnyH_ready (rs := [10]) (by kernel_rfl) (by simp) ?_
  refine AllReadyH.cons rfl (fun K hK => ?_) AllReadyH.nil
  go_simp
  go_at_call 12
  refine (show Calls _ _ _ _ _ from KM.out _ (HT.out.low (HN.out.trans hHeld (fun _ _ h => h.elim))).toP.base).mono ?_
  rintro e x7 ⟨rfl, hp⟩
  have hn := Fp.trans hHeld hp (fun _ _ h => h.elim)
  replace B_g3 := hid_blk B_g3 hp
  replace B_g2 := hid_blk B_g2 hp
  refine k_now hK hn ?_
  clear hK K hp hHeld
  have hHeld := hn
  clear hn
  try simp only [Act.put, List.setIfInBounds_toArray, List.set_cons_zero, List.set_cons_succ]
  (refine take_at 11 (some 20) rfl rfl (by kernel_rfl) (by kernel_rfl) (by kernel_rfl) (fun _ _ _ h => h) (v := ?_) (by kernel_rfl) ?_ (by assumption) ?_; rotate_left; (focus (intro wS hSw; skip; go_simp; try with_reducible rfl)); (try simp only [Act.put, List.setIfInBounds_toArray, List.set_cons_zero, List.set_cons_succ]))
  (refine take_at 12 (some 21) rfl rfl (by kernel_rfl) (by kernel_rfl) (by kernel_rfl) (fun _ _ _ h => h) (v := ?_) (by kernel_rfl) ?_ (by assumption) ?_; rotate_left; (focus (intro wS hSw; skip; go_simp; try with_reducible rfl)); (try simp only [Act.put, List.setIfInBounds_toArray, List.set_cons_zero, List.set_cons_succ]))
  refine wpAnyH_done (by kernel_rfl) ?_ _
  clear cg20 cg21 cg22 cg23 cg24 zg2 lg2 cg30 cg31 cg32 cg33 cg34 zg3 lg3
  have hGe := hid_ge HN
  replace HN := hid_now HN hHeld
  clear hHeld hGe
  go_upto_region 3 with fail
  have cg20 := cell_at B_g2 0 rfl
  have cg21 := cell_at B_g2 1 rfl
  have cg22 := cell_at B_g2 2 rfl
  have cg23 := cell_at B_g2 3 rfl
  have cg24 := cell_at B_g2 4 rfl
  have zg2 := froz_at B_g2
  have lg2 := hid_lt B_g2
  have cg30 := cell_at B_g3 0 rfl
  have cg31 := cell_at B_g3 1 rfl
  have cg32 := cell_at B_g3 2 rfl
  have cg33 := cell_at B_g3 3 rfl
  have cg34 := cell_at B_g3 4 rfl
  have zg3 := froz_at B_g3
  have lg3 := hid_lt B_g3
  refine wp_region_held_drew (S := fun wx => NoW x7 wx) (by kernel_rfl) (Fp.drew (Fp.refl _ _)) (fun hHeld0 => ?_)
  refine any_eq hHeld0 (fun x8 hW hHeld => ?_)
  clear hHeld0
  replace B_g3 := hid_blk B_g3 (noW_drew hW)
  replace B_g2 := hid_blk B_g2 (noW_drew hW)
  clear hW
  (refine take_at 0 (some 22) rfl rfl (by kernel_rfl) (by kernel_rfl) (by kernel_rfl) (fun _ _ _ h => h) (v := ?_) (by kernel_rfl) ?_ (by assumption) ?_; rotate_left; (focus (intro wS hSw; have hX := fun b o (h : b < _) => hSw.cell (p := ⟨b, o, none⟩) h id; go_simp; try with_reducible rfl)); (try simp only [Act.put, List.setIfInBounds_toArray, List.set_cons_zero, List.set_cons_succ]))
  (refine take_at 1 (some 23) rfl rfl (by kernel_rfl) (by kernel_rfl) (by kernel_rfl) (fun _ _ _ h => h) (v := ?_) (by kernel_rfl) ?_ (by assumption) ?_; rotate_left; (focus (intro wS hSw; have hX := fun b o (h : b < _) => hSw.cell (p := ⟨b, o, none⟩) h id; go_simp; try with_reducible rfl)); (try simp only [Act.put, List.setIfInBounds_toArray, List.set_cons_zero, List.set_cons_succ]))
  (refine take_at 3 (some 25) rfl rfl (by kernel_rfl) (by kernel_rfl) (by kernel_rfl) (fun _ _ _ h => h) (v := ?_) (by kernel_rfl) ?_ (by assumption) ?_; rotate_left; (focus (intro wS hSw; have hX := fun b o (h : b < _) => hSw.cell (p := ⟨b, o, none⟩) h id; go_simp; try with_reducible rfl)); (try simp only [Act.put, List.setIfInBounds_toArray, List.set_cons_zero, List.set_cons_succ]))
  (refine take_at 4 (some 26) rfl rfl (by kernel_rfl) (by kernel_rfl) (by kernel_rfl) (fun _ _ _ h => h) (v := ?_) (by kernel_rfl) ?_ (by assumption) ?_; rotate_left; (focus (intro wS hSw; have hX := fun b o (h : b < _) => hSw.cell (p := ⟨b, o, none⟩) h id; go_simp; try with_reducible rfl)); (try simp only [Act.put, List.setIfInBounds_toArray, List.set_cons_zero, List.set_cons_succ]))
  refine wpAnyH_ready (rs := [2]) (by kernel_rfl) (by simp) ?_
  refine AllReadyH.cons rfl (fun K hK => ?_) AllReadyH.nil
  go_simp
  go_at_call 19
  refine (show Calls _ _ _ _ _ from KL.out _).mono ?_
  rintro e x9 ⟨rfl, hp⟩
  have hn := Fp.trans hHeld hp (fun _ _ h => h.elim)
  replace B_g3 := hid_blk B_g3 hp
  replace B_g2 := hid_blk B_g2 hp
  refine k_now hK hn ?_
  clear hK K hp hHeld
  have hHeld := hn
  clear hn
  try simp only [Act.put, List.setIfInBounds_toArray, List.set_cons_zero, List.set_cons_succ]
  refine wpAnyH_ready (rs := [5]) (by kernel_rfl) (by simp) ?_
  refine AllReadyH.cons rfl (fun K hK => ?_) AllReadyH.nil
  go_simp
  go_at_call 19
  refine (show Calls _ _ _ _ _ from KG.out _).mono ?_
  rintro e x10 ⟨rfl, hp⟩
  have hn := Fp.trans hHeld hp (fun _ _ h => h.elim)
  replace B_g3 := hid_blk B_g3 hp
  replace B_g2 := hid_blk B_g2 hp
  refine k_now hK hn ?_
  clear hK K hp hHeld
  have hHeld := hn
  clear hn
  try simp only [Act.put, List.setIfInBounds_toArray, List.set_cons_zero, List.set_cons_succ]
  (refine take_at 6 (some 5) rfl rfl (by kernel_rfl) (by kernel_rfl) (by kernel_rfl) (fun _ _ _ h => h) (v := ?_) (by kernel_rfl) ?_ (by assumption) ?_; rotate_left; (focus (intro wS hSw; skip; go_simp; try with_reducible rfl)); (try simp only [Act.put, List.setIfInBounds_toArray, List.set_cons_zero, List.set_cons_succ]))
  (refine take_at 7 (some 6) rfl rfl (by kernel_rfl) (by kernel_rfl) (by kernel_rfl) (fun _ _ _ h => h) (v := ?_) (by kernel_rfl) ?_ (by assumption) ?_; rotate_left; (focus (intro wS hSw; skip; go_simp; try with_reducible rfl)); (try simp only [Act.put, List.setIfInBounds_toArray, List.set_cons_zero, List.set_cons_succ]))
  refine wpAnyH_done (by kernel_rfl) ?_ _
  clear cg20 cg21 cg22 cg23 cg24 zg2 lg2 cg30 cg31 cg32 cg33 cg34 zg3 lg3
  have hGe := hid_ge HN
  replace HN := hid_now HN hHeld
  clear hHeld hGe
  have cg20 := cell_at B_g2 0 rfl
  have cg21 := cell_at B_g2 1 rfl
  have cg22 := cell_at B_g2 2 rfl
  have cg23 := cell_at B_g2 3 rfl
  have cg24 := cell_at B_g2 4 rfl
  have zg2 := froz_at B_g2
  have lg2 := hid_lt B_g2
  have cg30 := cell_at B_g3 0 rfl
  have cg31 := cell_at B_g3 1 rfl
  have cg32 := cell_at B_g3 2 rfl
  have cg33 := cell_at B_g3 3 rfl
  have cg34 := cell_at B_g3 4 rfl
  have zg3 := froz_at B_g3
  have lg3 := hid_lt B_g3
  go_wp2_with fail
  clear cg20 cg21 cg22 cg23 cg24 zg2 lg2 cg30 cg31 cg32 cg33 cg34 zg3 lg3
  refine (show Calls _ _ _ _ _ from KT.out _ (HT.out.low HN.out).toP.base).mono ?_
  rintro e x11 ⟨rfl, hp⟩
  replace HN := hid_now HN hp
  replace B_g3 := hid_blk B_g3 hp
  replace B_g2 := hid_blk B_g2 hp
  clear hp
  go_wp2_with fail
  refine (show Calls _ _ _ _ _ from KP.out _ (HT.out.low HN.out)).mono ?_
  rintro e x12 ⟨rfl, hp⟩
  replace HN := hid_now HN hp
  replace B_g3 := hid_blk B_g3 hp
  replace B_g2 := hid_blk B_g2 hp
  clear hp
  go_upto_region 7 with fail
  refine wp_gen (fun x13 hW => ?_)
  have l2g3 := hid_lt B_g3
  have l2g2 := hid_lt B_g2
  have hp := new_now hW
  have hB := new_blk hW
  clear hW
  have hGe := hid_ge HN
  replace HN := hid_now HN hp
  replace B_g3 := hid_blk B_g3 hp
  replace B_g2 := hid_blk B_g2 hp
  obtain ⟨g7, hg7⟩ : ∃ g7, g7 = x12.heap.size := ⟨_, rfl⟩
  have G_g7 := Lib.hid (Nat.le_trans hGe (Nat.le_of_eq hg7.symm))
  have n_g3_g7 : ¬ g3 = g7 := by omega
  have n_g7_g3 : ¬ g7 = g3 := by omega
  clear l2g3
  have n_g2_g7 : ¬ g2 = g7 := by omega
  have n_g7_g2 : ¬ g7 = g2 := by omega
  clear l2g2
  rw [← hg7] at hB ⊢
  have B_g7 := hB
  clear hB hGe hg7
  clear hp
  have cg20 := cell_at B_g2 0 rfl
  have cg21 := cell_at B_g2 1 rfl
  have cg22 := cell_at B_g2 2 rfl
  have cg23 := cell_at B_g2 3 rfl
  have cg24 := cell_at B_g2 4 rfl
  have zg2 := froz_at B_g2
  have lg2 := hid_lt B_g2
  go_wp2_with fail
  clear cg20 cg21 cg22 cg23 cg24 zg2 lg2
  refine (show Calls _ _ _ _ _ from KM.out _ (HT.out.low HN.out).toP.base).mono ?_
  rintro e x14 ⟨rfl, hp⟩
  replace HN := hid_now HN hp
  replace B_g3 := hid_blk B_g3 hp
  replace B_g2 := hid_blk B_g2 hp
  replace B_g7 := hid_blk B_g7 hp
  clear hp
  go_upto_region 9 with fail
  have cg20 := cell_at B_g2 0 rfl
  have cg21 := cell_at B_g2 1 rfl
  have cg22 := cell_at B_g2 2 rfl
  have cg23 := cell_at B_g2 3 rfl
  have cg24 := cell_at B_g2 4 rfl
  have zg2 := froz_at B_g2
  have lg2 := hid_lt B_g2
  have cg30 := cell_at B_g3 0 rfl
  have cg31 := cell_at B_g3 1 rfl
  have cg32 := cell_at B_g3 2 rfl
  have cg33 := cell_at B_g3 3 rfl
  have cg34 := cell_at B_g3 4 rfl
  have zg3 := froz_at B_g3
  have lg3 := hid_lt B_g3
  have cg70 := cell_at B_g7 0 rfl
  have cg71 := cell_at B_g7 1 rfl
  have cg72 := cell_at B_g7 2 rfl
  have cg73 := cell_at B_g7 3 rfl
  have cg74 := cell_at B_g7 4 rfl
  have zg7 := froz_at B_g7
  have lg7 := hid_lt B_g7
  refine wp_region_held_drew (S := fun wx => NoW x14 wx) (by kernel_rfl) (Fp.drew (Fp.refl _ _)) (fun hHeld0 => ?_)
  refine any_eq hHeld0 (fun x15 hW hHeld => ?_)
  clear hHeld0
  replace B_g3 := hid_blk B_g3 (noW_drew hW)
  replace B_g2 := hid_blk B_g2 (noW_drew hW)
  replace B_g7 := hid_blk B_g7 (noW_drew hW)
  clear hW
  (refine take_at 0 (some 63) rfl rfl (by kernel_rfl) (by kernel_rfl) (by kernel_rfl) (fun _ _ _ h => h) (v := ?_) (by kernel_rfl) ?_ (by assumption) ?_; rotate_left; (focus (intro wS hSw; have hX := fun b o (h : b < _) => hSw.cell (p := ⟨b, o, none⟩) h id; go_simp; try with_reducible rfl)); (try simp only [Act.put, List.setIfInBounds_toArray, List.set_cons_zero, List.set_cons_succ]))
  (refine take_at 1 (some 64) rfl rfl (by kernel_rfl) (by kernel_rfl) (by kernel_rfl) (fun _ _ _ h => h) (v := ?_) (by kernel_rfl) ?_ (by assumption) ?_; rotate_left; (focus (intro wS hSw; have hX := fun b o (h : b < _) => hSw.cell (p := ⟨b, o, none⟩) h id; go_simp; try with_reducible rfl)); (try simp only [Act.put, List.setIfInBounds_toArray, List.set_cons_zero, List.set_cons_succ]))
  (refine take_at 2 (some 65) rfl rfl (by kernel_rfl) (by kernel_rfl) (by kernel_rfl) (fun _ _ _ h => h) (v := ?_) (by kernel_rfl) ?_ (by assumption) ?_; rotate_left; (focus (intro wS hSw; skip; go_simp; try with_reducible rfl)); (try simp only [Act.put, List.setIfInBounds_toArray, List.set_cons_zero, List.set_cons_succ]))
  (refine take_at 3 (some 66) rfl rfl (by kernel_rfl) (by kernel_rfl) (by kernel_rfl) (fun _ _ _ h => h) (v := ?_) (by kernel_rfl) ?_ (by assumption) ?_; rotate_left; (focus (intro wS hSw; skip; go_simp; try with_reducible rfl)); (try simp only [Act.put, List.setIfInBounds_toArray, List.set_cons_zero, List.set_cons_succ]))
  (refine take_at 4 (some 67) rfl rfl (by kernel_rfl) (by kernel_rfl) (by kernel_rfl) (fun _ _ _ h => h) (v := ?_) (by kernel_rfl) ?_ (by assumption) ?_; rotate_left; (focus (intro wS hSw; skip; go_simp; try with_reducible rfl)); (try simp only [Act.put, List.setIfInBounds_toArray, List.set_cons_zero, List.set_cons_succ]))
  (refine take_at 5 (some 68) rfl rfl (by kernel_rfl) (by kernel_rfl) (by kernel_rfl) (fun _ _ _ h => h) (v := ?_) (by kernel_rfl) ?_ (by assumption) ?_; rotate_left; (focus (intro wS hSw; skip; go_simp; try with_reducible rfl)); (try simp only [Act.put, List.setIfInBounds_toArray, List.set_cons_zero, List.set_cons_succ]))
  (refine take_at 6 (some 69) rfl rfl (by kernel_rfl) (by kernel_rfl) (by kernel_rfl) (fun _ _ _ h => h) (v := ?_) (by kernel_rfl) ?_ (by assumption) ?_; rotate_left; (focus (intro wS hSw; skip; go_simp; try with_reducible rfl)); (try simp only [Act.put, List.setIfInBounds_toArray, List.set_cons_zero, List.set_cons_succ]))
  (refine take_at 7 (some 70) rfl rfl (by kernel_rfl) (by kernel_rfl) (by kernel_rfl) (fun _ _ _ h => h) (v := ?_) (by kernel_rfl) ?_ (by assumption) ?_; rotate_left; (focus (intro wS hSw; skip; go_simp; try with_reducible rfl)); (try simp only [Act.put, List.setIfInBounds_toArray, List.set_cons_zero, List.set_cons_succ]))
  (refine take_at 8 (some 71) rfl rfl (by kernel_rfl) (by kernel_rfl) (by kernel_rfl) (fun _ _ _ h => h) (v := ?_) (by kernel_rfl) ?_ (by assumption) ?_; rotate_left; (focus (intro wS hSw; have hX := fun b o (h : b < _) => hSw.cell (p := ⟨b, o, none⟩) h id; go_simp; try with_reducible rfl)); (try simp only [Act.put, List.setIfInBounds_toArray, List.set_cons_zero, List.set_cons_succ]))
  refine wpAnyH_ready (rs := [9]) (by kernel_rfl) (by simp) ?_
  refine AllReadyH.cons rfl (fun K hK => ?_) AllReadyH.nil
  go_simp
  go_at_call 12
  refine (show Calls _ _ _ _ _ from KN.out _ (HT.out.low (HN.out.trans hHeld (fun _ _ h => h.elim))).toP.base).mono ?_
  rintro e x16 ⟨rfl, hp⟩
  have hn := Fp.trans hHeld hp (fun _ _ h => h.elim)
  replace B_g3 := hid_blk B_g3 hp
  replace B_g2 := hid_blk B_g2 hp
  replace B_g7 := hid_blk B_g7 hp
  refine k_now hK hn ?_
  clear hK K hp hHeld
  have hHeld := hn
  clear hn
  try simp only [Act.put, List.setIfInBounds_toArray, List.set_cons_zero, List.set_cons_succ]
  (refine take_at 10 (some 73) rfl rfl (by kernel_rfl) (by kernel_rfl) (by kernel_rfl) (fun _ _ _ h => h) (v := ?_) (by kernel_rfl) ?_ (by assumption) ?_; rotate_left; (focus (intro wS hSw; skip; go_simp; try with_reducible rfl)); (try simp only [Act.put, List.setIfInBounds_toArray, List.set_cons_zero, List.set_cons_succ]))
  (refine take_at 11 (some 74) rfl rfl (by kernel_rfl) (by kernel_rfl) (by kernel_rfl) (fun _ _ _ h => h) (v := ?_) (by kernel_rfl) ?_ (by assumption) ?_; rotate_left; (focus (intro wS hSw; skip; go_simp; try with_reducible rfl)); (try simp only [Act.put, List.setIfInBounds_toArray, List.set_cons_zero, List.set_cons_succ]))
  (refine take_at 12 (some 75) rfl rfl (by kernel_rfl) (by kernel_rfl) (by kernel_rfl) (fun _ _ _ h => h) (v := ?_) (by kernel_rfl) ?_ (by assumption) ?_; rotate_left; (focus (intro wS hSw; have hX := fun b o (h : b < _) => hSw.cell (p := ⟨b, o, none⟩) h id; go_simp; try with_reducible rfl)); (try simp only [Act.put, List.setIfInBounds_toArray, List.set_cons_zero, List.set_cons_succ]))
  (refine take_at 14 (some 77) rfl rfl (by kernel_rfl) (by kernel_rfl) (by kernel_rfl) (fun _ _ _ h => h) (v := ?_) (by kernel_rfl) ?_ (by assumption) ?_; rotate_left; (focus (intro wS hSw; have hX := fun b o (h : b < _) => hSw.cell (p := ⟨b, o, none⟩) h id; go_simp; try with_reducible rfl)); (try simp only [Act.put, List.setIfInBounds_toArray, List.set_cons_zero, List.set_cons_succ]))
  (refine take_at 17 (some 80) rfl rfl (by kernel_rfl) (by kernel_rfl) (by kernel_rfl) (fun _ _ _ h => h) (v := ?_) (by kernel_rfl) ?_ (by assumption) ?_; rotate_left; (focus (intro wS hSw; have hX := fun b o (h : b < _) => hSw.cell (p := ⟨b, o, none⟩) h id; go_simp; try with_reducible rfl)); (try simp only [Act.put, List.setIfInBounds_toArray, List.set_cons_zero, List.set_cons_succ]))
  (refine take_at 18 (some 81) rfl rfl (by kernel_rfl) (by kernel_rfl) (by kernel_rfl) (fun _ _ _ h => h) (v := ?_) (by kernel_rfl) ?_ (by assumption) ?_; rotate_left; (focus (intro wS hSw; have hX := fun b o (h : b < _) => hSw.cell (p := ⟨b, o, none⟩) h id; go_simp; try with_reducible rfl)); (try simp only [Act.put, List.setIfInBounds_toArray, List.set_cons_zero, List.set_cons_succ]))
  (refine take_at 19 (some 82) rfl rfl (by kernel_rfl) (by kernel_rfl) (by kernel_rfl) (fun _ _ _ h => h) (v := ?_) (by kernel_rfl) ?_ (by assumption) ?_; rotate_left; (focus (intro wS hSw; skip; go_simp; try with_reducible rfl)); (try simp only [Act.put, List.setIfInBounds_toArray, List.set_cons_zero, List.set_cons_succ]))
  refine wpAnyH_ready (rs := [13]) (by kernel_rfl) (by simp) ?_
  refine AllReadyH.cons rfl (fun K hK => ?_) AllReadyH.nil
  go_simp
  go_at_call 14
  refine (show Calls _ _ _ _ _ from KT.out _ (HT.out.low (HN.out.trans hHeld (fun _ _ h => h.elim))).toP.base).mono ?_
  rintro e x17 ⟨rfl, hp⟩
  have hn := Fp.trans hHeld hp (fun _ _ h => h.elim)
  replace B_g3 := hid_blk B_g3 hp
  replace B_g2 := hid_blk B_g2 hp
  replace B_g7 := hid_blk B_g7 hp
  refine k_now hK hn ?_
  clear hK K hp hHeld
  have hHeld := hn
  clear hn
  try simp only [Act.put, List.setIfInBounds_toArray, List.set_cons_zero, List.set_cons_succ]
  refine wpAnyH_ready (rs := [15]) (by kernel_rfl) (by simp) ?_
  refine AllReadyH.cons rfl (fun K hK => ?_) AllReadyH.nil
  go_simp
  go_at_call 14
  refine (show Calls _ _ _ _ _ from KU.out _ (HT.out.low (HN.out.trans hHeld (fun _ _ h => h.elim))).toP.base).mono ?_
  rintro e x18 ⟨rfl, hp⟩
  have hn := Fp.trans hHeld hp (fun _ _ h => h.elim)
  replace B_g3 := hid_blk B_g3 hp
  replace B_g2 := hid_blk B_g2 hp
  replace B_g7 := hid_blk B_g7 hp
  refine k_now hK hn ?_
  clear hK K hp hHeld
  have hHeld := hn
  clear hn
  try simp only [Act.put, List.setIfInBounds_toArray, List.set_cons_zero, List.set_cons_succ]
  (refine take_at 16 (some 79) rfl rfl (by kernel_rfl) (by kernel_rfl) (by kernel_rfl) (fun _ _ _ h => h) (v := ?_) (by kernel_rfl) ?_ (by assumption) ?_; rotate_left; (focus (intro wS hSw; skip; go_simp; try with_reducible rfl)); (try simp only [Act.put, List.setIfInBounds_toArray, List.set_cons_zero, List.set_cons_succ]))
  (refine take_at 20 (some 83) rfl rfl (by kernel_rfl) (by kernel_rfl) (by kernel_rfl) (fun _ _ _ h => h) (v := ?_) (by kernel_rfl) ?_ (by assumption) ?_; rotate_left; (focus (intro wS hSw; skip; go_simp; try with_reducible rfl)); (try simp only [Act.put, List.setIfInBounds_toArray, List.set_cons_zero, List.set_cons_succ]))
  (refine take_at 21 (some 84) rfl rfl (by kernel_rfl) (by kernel_rfl) (by kernel_rfl) (fun _ _ _ h => h) (v := ?_) (by kernel_rfl) ?_ (by assumption) ?_; rotate_left; (focus (intro wS hSw; skip; go_simp; try with_reducible rfl)); (try simp only [Act.put, List.setIfInBounds_toArray, List.set_cons_zero, List.set_cons_succ]))
  (refine take_at 22 (some 85) rfl rfl (by kernel_rfl) (by kernel_rfl) (by kernel_rfl) (fun _ _ _ h => h) (v := ?_) (by kernel_rfl) ?_ (by assumption) ?_; rotate_left; (focus (intro wS hSw; skip; go_simp; try with_reducible rfl)); (try simp only [Act.put, List.setIfInBounds_toArray, List.set_cons_zero, List.set_cons_succ]))
  (refine take_at 23 (some 86) rfl rfl (by kernel_rfl) (by kernel_rfl) (by kernel_rfl) (fun _ _ _ h => h) (v := ?_) (by kernel_rfl) ?_ (by assumption) ?_; rotate_left; (focus (intro wS hSw; skip; go_simp; try with_reducible rfl)); (try simp only [Act.put, List.setIfInBounds_toArray, List.set_cons_zero, List.set_cons_succ]))
  refine wpAnyH_ready (rs := [24]) (by kernel_rfl) (by simp) ?_
  refine AllReadyH.cons rfl (fun K hK => ?_) AllReadyH.nil
  go_simp
  go_at_call 9
  refine (show Calls _ _ _ _ _ from watched_ok _ (HT.out.low (HN.out.trans hHeld (fun _ _ h => h.elim)))).mono ?_
  rintro e x19 ⟨rfl, hp⟩
  have hn := Fp.trans hHeld hp (fun _ _ h => h.elim)
  replace B_g3 := hid_blk B_g3 hp
  replace B_g2 := hid_blk B_g2 hp
  replace B_g7 := hid_blk B_g7 hp
  refine k_now hK hn ?_
  clear hK K hp hHeld
  have hHeld := hn
  clear hn
  try simp only [Act.put, List.setIfInBounds_toArray, List.set_cons_zero, List.set_cons_succ]
  (refine take_at 25 (some 88) rfl rfl (by kernel_rfl) (by kernel_rfl) (by kernel_rfl) (fun _ _ _ h => h) (v := ?_) (by kernel_rfl) ?_ (by assumption) ?_; rotate_left; (focus (intro wS hSw; skip; go_simp; try with_reducible rfl)); (try simp only [Act.put, List.setIfInBounds_toArray, List.set_cons_zero, List.set_cons_succ]))
  (refine take_at 26 (some 4) rfl rfl (by kernel_rfl) (by kernel_rfl) (by kernel_rfl) (fun _ _ _ h => h) (v := ?_) (by kernel_rfl) ?_ (by assumption) ?_; rotate_left; (focus (intro wS hSw; skip; go_simp; try with_reducible rfl)); (try simp only [Act.put, List.setIfInBounds_toArray, List.set_cons_zero, List.set_cons_succ]))
  refine wpAnyH_done (by kernel_rfl) ?_ _
  clear cg20 cg21 cg22 cg23 cg24 zg2 lg2 cg30 cg31 cg32 cg33 cg34 zg3 lg3 cg70 cg71 cg72 cg73 cg74 zg7 lg7
  have hGe := hid_ge HN
  replace HN := hid_now HN hHeld
  clear hHeld hGe
  go_wp2_with fail
  go_ret
  exact ⟨rfl, HN.out⟩
theorem walk_TuplesBack (w : World) (ht : TbQ w) (v0 v1 : Value) (g0 : Good Tryz.prog w 29 v0) (g1 : Good Tryz.prog w 29 v1) : Calls Tryz.prog 7 #[v0, v1] w (Ret1 (.bool true) w) := by
  obtain ⟨cs, n, rfl, h⟩ := good_struct (v := v0) Tryz.underlying29 g0
  obtain ⟨k, a, p, b, q, hc, hk, ha, hp, hb, hq⟩ := tup_sees h
  obtain rfl : cs = #[.int .u8 (k : Nat), .int .u32 (a : Nat), .int .u16 (p : Nat), .int .u32 (b : Nat), .int .u16 (q : Nat)] := by rw [← Array.toList_inj, hc]
  clear h hc g0
  obtain ⟨cs2, n2, rfl, h2⟩ := good_struct (v := v1) Tryz.underlying29 g1
  obtain ⟨k2, a2, p2, b2, q2, hc2, hk2, ha2, hp2, hb2, hq2⟩ := tup_sees h2
  obtain rfl : cs2 = #[.int .u8 (k2 : Nat), .int .u32 (a2 : Nat), .int .u16 (p2 : Nat), .int .u32 (b2 : Nat), .int .u16 (q2 : Nat)] := by rw [← Array.toList_inj, hc2]
  clear h2 hc2 g1
  by_cases he : k = k2 ∧ a = a2 ∧ p = p2 ∧ b = b2 ∧ q = q2
  · obtain ⟨rfl, rfl, rfl, rfl, rfl⟩ := he
    rcases h1 : tupB k p q with _ | _
    · exact tb_eq0 k a p b q hk ha hp hb hq h1 w ht
    · exact tb_eq1 k a p b q hk ha hp hb hq h1 w ht
  · rcases h1 : tupB k p q with _ | _ <;> rcases h2 : tupB k2 p2 q2 with _ | _ <;> rcases tkey_cases ha hp hb hq ha2 hp2 hb2 hq2 he with hr | hr
    · exact tb_lt00 k a p b q hk ha hp hb hq h1 k2 a2 p2 b2 q2 hk2 ha2 hp2 hb2 hq2 h2 he hr w ht
    · exact tb_gt00 k a p b q hk ha hp hb hq h1 k2 a2 p2 b2 q2 hk2 ha2 hp2 hb2 hq2 h2 he hr w ht
    · exact tb_lt01 k a p b q hk ha hp hb hq h1 k2 a2 p2 b2 q2 hk2 ha2 hp2 hb2 hq2 h2 he hr w ht
    · exact tb_gt01 k a p b q hk ha hp hb hq h1 k2 a2 p2 b2 q2 hk2 ha2 hp2 hb2 hq2 h2 he hr w ht
    · exact tb_lt10 k a p b q hk ha hp hb hq h1 k2 a2 p2 b2 q2 hk2 ha2 hp2 hb2 hq2 h2 he hr w ht
    · exact tb_gt10 k a p b q hk ha hp hb hq h1 k2 a2 p2 b2 q2 hk2 ha2 hp2 hb2 hq2 h2 he hr w ht
    · exact tb_lt11 k a p b q hk ha hp hb hq h1 k2 a2 p2 b2 q2 hk2 ha2 hp2 hb2 hq2 h2 he hr w ht
    · exact tb_gt11 k a p b q hk ha hp hb hq h1 k2 a2 p2 b2 q2 hk2 ha2 hp2 hb2 hq2 h2 he hr w ht
end Go.Proofs.YtmghjaoodnkjlaaGreatDoor
