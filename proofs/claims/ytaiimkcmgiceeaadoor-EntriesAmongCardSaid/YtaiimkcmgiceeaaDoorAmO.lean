/- Chapter 18: entries.order, by draws and new blocks alone (written by genamo.py). -/
import Derived.Test.YtaiimkcmgiceeaaDoorErV
import Derived.Shelf.SlSortCmp.KitK
namespace Go.Proofs.YtaiimkcmgiceeaaDoor
set_option linter.unusedVariables false
set_option linter.unusedSimpArgs false
open Go.RowKit Go.Lib Go.Sort
/-- Only draws, and new blocks. -/
def GrowN (w w' : World) : Prop := ∃ q os, w' = grow (w.drewN q) os
theorem GrowN.refl (w : World) : GrowN w w := ⟨0, #[], by rw [grow_empty]; rfl⟩
theorem GrowN.alloc {a w : World} (h : GrowN a w) (o : Obj) : GrowN a (w.alloc o) := by
  obtain ⟨q, os, rfl⟩ := h
  exact ⟨q, os ++ #[o], by rw [alloc_eq_grow, grow_grow]⟩
theorem GrowN.trans {a b c : World} (h : GrowN a b) (k : GrowN b c) : GrowN a c := by
  obtain ⟨q, os, rfl⟩ := h
  obtain ⟨q2, os2, rfl⟩ := k
  exact ⟨q + q2, os ++ os2, by simp [grow, World.drewN, Nat.add_assoc]⟩
theorem GrowN.two {a w W : World} {o o2 : Obj} (h : Hid (GrowN a w)) (hW : W = (w.alloc o).alloc o2) : Hid (GrowN a W) := by
  subst hW
  exact Lib.hid ((h.out.alloc _).alloc _)
theorem GrowN.noW {a b : World} (h : GrowN a b) : NoW a b := by
  obtain ⟨q, os, rfl⟩ := h
  exact ⟨rfl, rfl, rfl, by simp [World.drewN], fun k hk _ => by show (a.heap ++ os)[k]? = _; rw [Array.getElem?_append, if_pos hk]⟩
def RetG (v : Value) (w : World) : Ending → World → Prop := fun e w' => e = .returned v ∧ GrowN w w'
theorem less_gr (a p b q : Nat) (w : World) :
    Calls Tryd.prog 57 #[.agg #[.int .u32 a, .int .u16 p], .agg #[.int .u32 b, .int .u16 q]] w (RetG (.bool (decide (a < b ∨ a = b ∧ p < q))) w) := by
  by_cases h : a = b
  · subst h
    have e : decide (a < a ∨ a = a ∧ p < q) = decide (p < q) := by simp
    rw [e]
    clear e
    go_enter Tryd.func57, Tryd.ntmps57
    go_wp2_with fail
    go_ret
    exact ⟨rfl, ((GrowN.refl _).alloc _).alloc _⟩
  · have e : decide (a < b ∨ a = b ∧ p < q) = decide (a < b) := by simp [h]
    rw [e]
    have h2 : ((a : Int) == (b : Int)) = false := by simp; omega
    clear e h
    go_enter Tryd.func57, Tryd.ntmps57
    go_wp2_with fail
    go_ret
    exact ⟨rfl, ((GrowN.refl _).alloc _).alloc _⟩
set_option maxHeartbeats 2000000 in
theorem tless_gr (r a p b q r2 a2 p2 b2 q2 : Nat) (ha : a < 4294967296) (hp : p < 65536) (hb : b < 4294967296) (hq : q < 65536) (ha2 : a2 < 4294967296) (hp2 : p2 < 65536) (hb2 : b2 < 4294967296) (hq2 : q2 < 65536) (w : World) :
    Calls Tryd.prog 45 #[.agg #[.int .u8 r, .int .u32 a, .int .u16 p, .int .u32 b, .int .u16 q], .agg #[.int .u8 r2, .int .u32 a2, .int .u16 p2, .int .u32 b2, .int .u16 q2]] w (RetG (.bool (decide (tkey r a p b q < tkey r2 a2 p2 b2 q2))) w) := by
  have hk := tkey_lt (k := r) (k2 := r2) ha hp hb hq ha2 hp2 hb2 hq2
  have e : decide (tkey r a p b q < tkey r2 a2 p2 b2 q2) = decide (r < r2 ∨ r = r2 ∧ (if a = a2 ∧ p = p2 then b < b2 ∨ b = b2 ∧ q < q2 else a < a2 ∨ a = a2 ∧ p < p2)) := by rw [decide_eq_decide]; exact hk
  rw [e]
  clear e hk ha hp hb hq ha2 hp2 hb2 hq2
  by_cases hr : r = r2
  · subst hr
    by_cases h1 : a = a2 ∧ p = p2
    · obtain ⟨rfl, rfl⟩ := h1
      have e : decide (r < r ∨ r = r ∧ (if a = a ∧ p = p then b < b2 ∨ b = b2 ∧ q < q2 else a < a ∨ a = a ∧ p < p)) = decide (b < b2 ∨ b = b2 ∧ q < q2) := by simp
      rw [e]
      clear e
      have k := fun W => less_gr b q b2 q2 W
      generalize decide (b < b2 ∨ b = b2 ∧ q < q2) = z at k ⊢
      have K := Lib.hid k
      clear k
      go_enter Tryd.func45, Tryd.ntmps45
      go_wp2_with fail
      refine (K.out _).mono ?_
      rintro e v ⟨rfl, hp⟩
      have Hn := Lib.hid (show GrowN w v from (((GrowN.refl _).alloc _).alloc _).trans hp)
      clear hp
      go_wp2_with fail
      go_ret
      exact ⟨rfl, Hn.out⟩
    · have e : decide (r < r ∨ r = r ∧ (if a = a2 ∧ p = p2 then b < b2 ∨ b = b2 ∧ q < q2 else a < a2 ∨ a = a2 ∧ p < p2)) = decide (a < a2 ∨ a = a2 ∧ p < p2) := by simp [h1]
      rw [e]
      clear e
      have k := fun W => less_gr a p a2 p2 W
      generalize decide (a < a2 ∨ a = a2 ∧ p < p2) = z at k ⊢
      have K := Lib.hid k
      clear k
      have e1 : ∀ W, (binOp .neq 27 (.agg #[.int .u32 a, .int .u16 p]) (.agg #[.int .u32 a2, .int .u16 p2])).run Tryd.prog W = .ok (.bool true) W := fun W => by
        by_cases h2 : a = a2
        · subst h2
          have h3 : ((p : Int) == (p2 : Int)) = false := beq_eq_false_iff_ne.2 (fun e => h1 ⟨rfl, by omega⟩)
          go_simp
        · have h3 : ((a : Int) == (a2 : Int)) = false := beq_eq_false_iff_ne.2 (fun e => h2 (by omega))
          go_simp
      clear h1
      go_enter Tryd.func45, Tryd.ntmps45
      go_wp2_with fail
      refine (K.out _).mono ?_
      rintro e v ⟨rfl, hp⟩
      have Hn := Lib.hid (show GrowN w v from (((GrowN.refl _).alloc _).alloc _).trans hp)
      clear hp
      go_wp2_with fail
      go_ret
      exact ⟨rfl, Hn.out⟩
  · have e : decide (r < r2 ∨ r = r2 ∧ (if a = a2 ∧ p = p2 then b < b2 ∨ b = b2 ∧ q < q2 else a < a2 ∨ a = a2 ∧ p < p2)) = decide (r < r2) := by simp [hr]
    rw [e]
    have e2 : ((r : Int) != (r2 : Int)) = true := by simp; omega
    have e3 : decide ((r : Int) < (r2 : Int)) = decide (r < r2) := by rw [decide_eq_decide]; omega
    clear e hr
    go_enter Tryd.func45, Tryd.ntmps45
    go_wp2_with fail
    go_ret
    exact ⟨by first | rfl | (simp), (((GrowN.refl _).alloc _).alloc _)⟩

/-- How an entry stands to another one. -/
def ordZ (k k2 : Nat) : Int := if k < k2 then -1 else if k2 < k then 1 else 0
set_option maxHeartbeats 2000000 in
theorem order_gr (r a p b q r3 a3 p3 b3 q3 : Nat) (st dl : Int) (h : Value) (r2 a2 p2 b2 q2 r4 a4 p4 b4 q4 : Nat) (st2 dl2 : Int) (h2 : Value) (ha : a < 4294967296) (hp : p < 65536) (hb : b < 4294967296) (hq : q < 65536) (ha2 : a2 < 4294967296) (hp2 : p2 < 65536) (hb2 : b2 < 4294967296) (hq2 : q2 < 65536) (w : World) :
    Calls Tryd.prog 24 #[.agg #[.int .u8 (r : Nat), .int .u32 (a : Nat), .int .u16 (p : Nat), .int .u32 (b : Nat), .int .u16 (q : Nat), .int .u8 (r3 : Nat), .int .u32 (a3 : Nat), .int .u16 (p3 : Nat), .int .u32 (b3 : Nat), .int .u16 (q3 : Nat), .int .i64 st, .int .i64 dl, h], .agg #[.int .u8 (r2 : Nat), .int .u32 (a2 : Nat), .int .u16 (p2 : Nat), .int .u32 (b2 : Nat), .int .u16 (q2 : Nat), .int .u8 (r4 : Nat), .int .u32 (a4 : Nat), .int .u16 (p4 : Nat), .int .u32 (b4 : Nat), .int .u16 (q4 : Nat), .int .i64 st2, .int .i64 dl2, h2]] w (RetG (.int .i64 (ordZ (tkey r a p b q) (tkey r2 a2 p2 b2 q2))) w) := by
  have k1 := fun W => tless_gr r a p b q r2 a2 p2 b2 q2 ha hp hb hq ha2 hp2 hb2 hq2 W
  have k2 := fun W => tless_gr r2 a2 p2 b2 q2 r a p b q ha2 hp2 hb2 hq2 ha hp hb hq W
  clear ha hp hb hq ha2 hp2 hb2 hq2
  generalize tkey r a p b q = x at k1 k2 ⊢
  generalize tkey r2 a2 p2 b2 q2 = y at k1 k2 ⊢
  by_cases h1 : x < y
  · rw [show ordZ x y = -1 from if_pos h1]
    rw [decide_eq_true h1] at k1
    have K1 := Lib.hid k1
    clear k1 k2
    go_enter Tryd.func24, Tryd.ntmps24
    have HN := Lib.hid (Fp.refl (fun _ => False) w)
    have HG := Lib.hid (GrowN.refl w)
    go_upto_region 1 with fail
    refine wp_gen (fun x1 hW => ?_)
    replace HG := GrowN.two HG hW
    obtain ⟨hB, hB2, hp⟩ := new2_blk hW
    clear hW
    have hGe := hid_ge HN
    replace HN := hid_now HN hp
    obtain ⟨g2, hg2⟩ : ∃ g2, g2 = w.heap.size + 1 := ⟨_, rfl⟩
    obtain ⟨g1, hg1⟩ : ∃ g1, g1 = w.heap.size := ⟨_, rfl⟩
    have n_g1_g2 : ¬ g1 = g2 := by omega
    have n_g2_g1 : ¬ g2 = g1 := by omega
    rw [← hg2] at hB2 ⊢
    rw [← hg1] at hB ⊢
    have B_g1 := hB
    have B_g2 := hB2
    clear hB hB2 hg1 hg2 hGe hp
    have cg10 := cell_at B_g1 0 rfl
    have cg11 := cell_at B_g1 1 rfl
    have cg12 := cell_at B_g1 2 rfl
    have cg13 := cell_at B_g1 3 rfl
    have cg14 := cell_at B_g1 4 rfl
    have zg1 := froz_at B_g1
    have lg1 := hid_lt B_g1
    have cg20 := cell_at B_g2 0 rfl
    have cg21 := cell_at B_g2 1 rfl
    have cg22 := cell_at B_g2 2 rfl
    have cg23 := cell_at B_g2 3 rfl
    have cg24 := cell_at B_g2 4 rfl
    have zg2 := froz_at B_g2
    have lg2 := hid_lt B_g2
    go_wp2_with fail
    clear cg10 cg11 cg12 cg13 cg14 zg1 lg1 cg20 cg21 cg22 cg23 cg24 zg2 lg2
    refine (show Calls _ _ _ _ _ from K1.out _).mono ?_
    rintro e x2 ⟨rfl, hg⟩
    have hp := hg.noW
    replace HG := Lib.hid (HG.out.trans hg)
    clear hg
    replace HN := hid_now HN hp
    replace B_g1 := hid_blk B_g1 hp
    replace B_g2 := hid_blk B_g2 hp
    clear hp
    go_wp2_with fail
    go_ret
    exact ⟨rfl, HG.out⟩
  · rw [decide_eq_false h1] at k1
    by_cases h2 : y < x
    · rw [show ordZ x y = 1 from (if_neg h1).trans (if_pos h2)]
      rw [decide_eq_true h2] at k2
      have K1 := Lib.hid k1
      have K2 := Lib.hid k2
      clear k1 k2
      go_enter Tryd.func24, Tryd.ntmps24
      have HN := Lib.hid (Fp.refl (fun _ => False) w)
      have HG := Lib.hid (GrowN.refl w)
      go_upto_region 1 with fail
      refine wp_gen (fun x1 hW => ?_)
      replace HG := GrowN.two HG hW
      obtain ⟨hB, hB2, hp⟩ := new2_blk hW
      clear hW
      have hGe := hid_ge HN
      replace HN := hid_now HN hp
      obtain ⟨g2, hg2⟩ : ∃ g2, g2 = w.heap.size + 1 := ⟨_, rfl⟩
      obtain ⟨g1, hg1⟩ : ∃ g1, g1 = w.heap.size := ⟨_, rfl⟩
      have n_g1_g2 : ¬ g1 = g2 := by omega
      have n_g2_g1 : ¬ g2 = g1 := by omega
      rw [← hg2] at hB2 ⊢
      rw [← hg1] at hB ⊢
      have B_g1 := hB
      have B_g2 := hB2
      clear hB hB2 hg1 hg2 hGe hp
      have cg10 := cell_at B_g1 0 rfl
      have cg11 := cell_at B_g1 1 rfl
      have cg12 := cell_at B_g1 2 rfl
      have cg13 := cell_at B_g1 3 rfl
      have cg14 := cell_at B_g1 4 rfl
      have zg1 := froz_at B_g1
      have lg1 := hid_lt B_g1
      have cg20 := cell_at B_g2 0 rfl
      have cg21 := cell_at B_g2 1 rfl
      have cg22 := cell_at B_g2 2 rfl
      have cg23 := cell_at B_g2 3 rfl
      have cg24 := cell_at B_g2 4 rfl
      have zg2 := froz_at B_g2
      have lg2 := hid_lt B_g2
      go_wp2_with fail
      clear cg10 cg11 cg12 cg13 cg14 zg1 lg1 cg20 cg21 cg22 cg23 cg24 zg2 lg2
      refine (show Calls _ _ _ _ _ from K1.out _).mono ?_
      rintro e x2 ⟨rfl, hg⟩
      have hp := hg.noW
      replace HG := Lib.hid (HG.out.trans hg)
      clear hg
      replace HN := hid_now HN hp
      replace B_g1 := hid_blk B_g1 hp
      replace B_g2 := hid_blk B_g2 hp
      clear hp
      have cg10 := cell_at B_g1 0 rfl
      have cg11 := cell_at B_g1 1 rfl
      have cg12 := cell_at B_g1 2 rfl
      have cg13 := cell_at B_g1 3 rfl
      have cg14 := cell_at B_g1 4 rfl
      have zg1 := froz_at B_g1
      have lg1 := hid_lt B_g1
      have cg20 := cell_at B_g2 0 rfl
      have cg21 := cell_at B_g2 1 rfl
      have cg22 := cell_at B_g2 2 rfl
      have cg23 := cell_at B_g2 3 rfl
      have cg24 := cell_at B_g2 4 rfl
      have zg2 := froz_at B_g2
      have lg2 := hid_lt B_g2
      go_wp2_with fail
      clear cg10 cg11 cg12 cg13 cg14 zg1 lg1 cg20 cg21 cg22 cg23 cg24 zg2 lg2
      refine (show Calls _ _ _ _ _ from K2.out _).mono ?_
      rintro e x3 ⟨rfl, hg⟩
      have hp := hg.noW
      replace HG := Lib.hid (HG.out.trans hg)
      clear hg
      replace HN := hid_now HN hp
      replace B_g1 := hid_blk B_g1 hp
      replace B_g2 := hid_blk B_g2 hp
      clear hp
      go_wp2_with fail
      go_ret
      exact ⟨rfl, HG.out⟩
    · rw [show ordZ x y = 0 from (if_neg h1).trans (if_neg h2)]
      rw [decide_eq_false h2] at k2
      have K1 := Lib.hid k1
      have K2 := Lib.hid k2
      clear k1 k2
      go_enter Tryd.func24, Tryd.ntmps24
      have HN := Lib.hid (Fp.refl (fun _ => False) w)
      have HG := Lib.hid (GrowN.refl w)
      go_upto_region 1 with fail
      refine wp_gen (fun x1 hW => ?_)
      replace HG := GrowN.two HG hW
      obtain ⟨hB, hB2, hp⟩ := new2_blk hW
      clear hW
      have hGe := hid_ge HN
      replace HN := hid_now HN hp
      obtain ⟨g2, hg2⟩ : ∃ g2, g2 = w.heap.size + 1 := ⟨_, rfl⟩
      obtain ⟨g1, hg1⟩ : ∃ g1, g1 = w.heap.size := ⟨_, rfl⟩
      have n_g1_g2 : ¬ g1 = g2 := by omega
      have n_g2_g1 : ¬ g2 = g1 := by omega
      rw [← hg2] at hB2 ⊢
      rw [← hg1] at hB ⊢
      have B_g1 := hB
      have B_g2 := hB2
      clear hB hB2 hg1 hg2 hGe hp
      have cg10 := cell_at B_g1 0 rfl
      have cg11 := cell_at B_g1 1 rfl
      have cg12 := cell_at B_g1 2 rfl
      have cg13 := cell_at B_g1 3 rfl
      have cg14 := cell_at B_g1 4 rfl
      have zg1 := froz_at B_g1
      have lg1 := hid_lt B_g1
      have cg20 := cell_at B_g2 0 rfl
      have cg21 := cell_at B_g2 1 rfl
      have cg22 := cell_at B_g2 2 rfl
      have cg23 := cell_at B_g2 3 rfl
      have cg24 := cell_at B_g2 4 rfl
      have zg2 := froz_at B_g2
      have lg2 := hid_lt B_g2
      go_wp2_with fail
      clear cg10 cg11 cg12 cg13 cg14 zg1 lg1 cg20 cg21 cg22 cg23 cg24 zg2 lg2
      refine (show Calls _ _ _ _ _ from K1.out _).mono ?_
      rintro e x2 ⟨rfl, hg⟩
      have hp := hg.noW
      replace HG := Lib.hid (HG.out.trans hg)
      clear hg
      replace HN := hid_now HN hp
      replace B_g1 := hid_blk B_g1 hp
      replace B_g2 := hid_blk B_g2 hp
      clear hp
      have cg10 := cell_at B_g1 0 rfl
      have cg11 := cell_at B_g1 1 rfl
      have cg12 := cell_at B_g1 2 rfl
      have cg13 := cell_at B_g1 3 rfl
      have cg14 := cell_at B_g1 4 rfl
      have zg1 := froz_at B_g1
      have lg1 := hid_lt B_g1
      have cg20 := cell_at B_g2 0 rfl
      have cg21 := cell_at B_g2 1 rfl
      have cg22 := cell_at B_g2 2 rfl
      have cg23 := cell_at B_g2 3 rfl
      have cg24 := cell_at B_g2 4 rfl
      have zg2 := froz_at B_g2
      have lg2 := hid_lt B_g2
      go_wp2_with fail
      clear cg10 cg11 cg12 cg13 cg14 zg1 lg1 cg20 cg21 cg22 cg23 cg24 zg2 lg2
      refine (show Calls _ _ _ _ _ from K2.out _).mono ?_
      rintro e x3 ⟨rfl, hg⟩
      have hp := hg.noW
      replace HG := Lib.hid (HG.out.trans hg)
      clear hg
      replace HN := hid_now HN hp
      replace B_g1 := hid_blk B_g1 hp
      replace B_g2 := hid_blk B_g2 hp
      clear hp
      go_wp2_with fail
      go_ret
      exact ⟨rfl, HG.out⟩
end Go.Proofs.YtaiimkcmgiceeaaDoor
