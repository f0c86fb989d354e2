/- Same, of the document (written by gensame.py). -/
import Derived.Test.YtaiimkcmgiceeaaDoorEtI
namespace Go.Proofs.YtaiimkcmgiceeaaDoor
set_option linter.unusedVariables false
set_option linter.unusedSimpArgs false
open Go.RowKit Go.Lib Go.Sort

theorem tup_neq2 (r a p b q r2 a2 p2 b2 q2 : Nat) (W : World) : (binOp .neq 29 (.agg #[.int .u8 r, .int .u32 a, .int .u16 p, .int .u32 b, .int .u16 q]) (.agg #[.int .u8 r2, .int .u32 a2, .int .u16 p2, .int .u32 b2, .int .u16 q2])).run Tryd.prog W = .ok (.bool (!decide (r = r2 ∧ a = a2 ∧ p = p2 ∧ b = b2 ∧ q = q2))) W := by
  have beq : ∀ x y : Nat, x ≠ y → ((x : Int) == (y : Int)) = false := fun x y h => beq_eq_false_iff_ne.2 (by omega)
  by_cases h1 : r = r2
  · subst h1
    by_cases h2 : a = a2
    · subst h2
      by_cases h3 : p = p2
      · subst h3
        by_cases h4 : b = b2
        · subst h4
          by_cases h5 : q = q2
          · subst h5; simp only [and_self, decide_true, Bool.not_true]; go_simp
          · have e := beq _ _ h5
            rw [decide_eq_false (by simp [h5])]; go_simp
        · have e := beq _ _ h4
          rw [decide_eq_false (by simp [h4])]; go_simp
      · have e := beq _ _ h3
        rw [decide_eq_false (by simp [h3])]; go_simp
    · have e := beq _ _ h2
      rw [decide_eq_false (by simp [h2])]; go_simp
  · have e := beq _ _ h1
    rw [decide_eq_false (by simp [h1])]; go_simp

set_option maxHeartbeats 8000000 in
set_option maxRecDepth 100000 in
theorem rsame_ok (r a p b q r2 a2 p2 b2 q2 r3 a3 p3 b3 q3 r4 a4 p4 b4 q4 : Nat) (st dl st2 dl2 : Int) (ad ad2 : Option Addr) (n c n2 c2 : Nat) (oa op ia ip oa2 op2 ia2 ip2 : Nat → Nat) (hn : n ≤ 100) (w : World) (hh1 : HoldsIn w ad n (holdsV oa op ia ip n)) (hh2 : HoldsIn w ad2 n2 (holdsV oa2 op2 ia2 ip2 n2)) :
    Calls Tryd.prog 14 #[.agg #[.int .u8 r, .int .u32 a, .int .u16 p, .int .u32 b, .int .u16 q, .int .u8 r2, .int .u32 a2, .int .u16 p2, .int .u32 b2, .int .u16 q2, .int .i64 st, .int .i64 dl, .slice ad n c], .agg #[.int .u8 r3, .int .u32 a3, .int .u16 p3, .int .u32 b3, .int .u16 q3, .int .u8 r4, .int .u32 a4, .int .u16 p4, .int .u32 b4, .int .u16 q4, .int .i64 st2, .int .i64 dl2, .slice ad2 n2 c2]] w (Ret1 (.bool (decide (r = r3 ∧ a = a3 ∧ p = p3 ∧ b = b3 ∧ q = q3) && decide (r2 = r4 ∧ a2 = a4 ∧ p2 = p4 ∧ b2 = b4 ∧ q2 = q4) && decide (st = st2 ∧ dl = dl2) && eqHolds n n2 oa op ia ip oa2 op2 ia2 ip2)) w) := by
  have e1 : ∀ W, (binOp .neq 29 (.agg #[.int .u8 r, .int .u32 a, .int .u16 p, .int .u32 b, .int .u16 q]) (.agg #[.int .u8 r3, .int .u32 a3, .int .u16 p3, .int .u32 b3, .int .u16 q3])).run Tryd.prog W = .ok (.bool (!decide (r = r3 ∧ a = a3 ∧ p = p3 ∧ b = b3 ∧ q = q3))) W := fun W => tup_neq2 r a p b q r3 a3 p3 b3 q3 W
  have e2 : ∀ W, (binOp .neq 29 (.agg #[.int .u8 r2, .int .u32 a2, .int .u16 p2, .int .u32 b2, .int .u16 q2]) (.agg #[.int .u8 r4, .int .u32 a4, .int .u16 p4, .int .u32 b4, .int .u16 q4])).run Tryd.prog W = .ok (.bool (!decide (r2 = r4 ∧ a2 = a4 ∧ p2 = p4 ∧ b2 = b4 ∧ q2 = q4))) W := fun W => tup_neq2 r2 a2 p2 b2 q2 r4 a4 p4 b4 q4 W
  rcases h1 : decide (r = r3 ∧ a = a3 ∧ p = p3 ∧ b = b3 ∧ q = q3) with _ | _
  · rw [h1] at e1
    simp only [Bool.false_and, Bool.not_false] at e1 ⊢
    clear h1 hh1 hh2 e2
    go_enter Tryd.func14, Tryd.ntmps14
    go_wp2_with fail
    have hw0 : NoW w ((w.alloc (.cells #[.int .u8 r, .int .u32 a, .int .u16 p, .int .u32 b, .int .u16 q, .int .u8 r2, .int .u32 a2, .int .u16 p2, .int .u32 b2, .int .u16 q2, .int .i64 st, .int .i64 dl, .slice ad n c] 45)).alloc (.cells #[.int .u8 r3, .int .u32 a3, .int .u16 p3, .int .u32 b3, .int .u16 q3, .int .u8 r4, .int .u32 a4, .int .u16 p4, .int .u32 b4, .int .u16 q4, .int .i64 st2, .int .i64 dl2, .slice ad2 n2 c2] 45)) := ((Fp.refl _ _).alloc _).alloc _
    obtain ⟨hb0, hb1⟩ := box2 w (.cells #[.int .u8 r, .int .u32 a, .int .u16 p, .int .u32 b, .int .u16 q, .int .u8 r2, .int .u32 a2, .int .u16 p2, .int .u32 b2, .int .u16 q2, .int .i64 st, .int .i64 dl, .slice ad n c] 45) (.cells #[.int .u8 r3, .int .u32 a3, .int .u16 p3, .int .u32 b3, .int .u16 q3, .int .u8 r4, .int .u32 a4, .int .u16 p4, .int .u32 b4, .int .u16 q4, .int .i64 st2, .int .i64 dl2, .slice ad2 n2 c2] 45)
    generalize (w.alloc (.cells #[.int .u8 r, .int .u32 a, .int .u16 p, .int .u32 b, .int .u16 q, .int .u8 r2, .int .u32 a2, .int .u16 p2, .int .u32 b2, .int .u16 q2, .int .i64 st, .int .i64 dl, .slice ad n c] 45)).alloc (.cells #[.int .u8 r3, .int .u32 a3, .int .u16 p3, .int .u32 b3, .int .u16 q3, .int .u8 r4, .int .u32 a4, .int .u16 p4, .int .u32 b4, .int .u16 q4, .int .i64 st2, .int .i64 dl2, .slice ad2 n2 c2] 45) = w0 at *
    have B1 := Lib.hid hb0
    have B2 := Lib.hid hb1
    have Hw0 := Lib.hid hw0
    clear hb0 hb1 hw0
    generalize w.heap.size + 1 = g2 at *
    generalize w.heap.size = g1 at *
    go_ret
    exact ⟨rfl, Hw0.out⟩
  · rw [h1] at e1
    rcases h2 : decide (r2 = r4 ∧ a2 = a4 ∧ p2 = p4 ∧ b2 = b4 ∧ q2 = q4) with _ | _
    · rw [h2] at e2
      simp only [Bool.false_and, Bool.true_and, Bool.not_false, Bool.not_true] at e1 e2 ⊢
      clear h1 h2 hh1 hh2
      go_enter Tryd.func14, Tryd.ntmps14
      go_wp2_with fail
      have hw0 : NoW w ((w.alloc (.cells #[.int .u8 r, .int .u32 a, .int .u16 p, .int .u32 b, .int .u16 q, .int .u8 r2, .int .u32 a2, .int .u16 p2, .int .u32 b2, .int .u16 q2, .int .i64 st, .int .i64 dl, .slice ad n c] 45)).alloc (.cells #[.int .u8 r3, .int .u32 a3, .int .u16 p3, .int .u32 b3, .int .u16 q3, .int .u8 r4, .int .u32 a4, .int .u16 p4, .int .u32 b4, .int .u16 q4, .int .i64 st2, .int .i64 dl2, .slice ad2 n2 c2] 45)) := ((Fp.refl _ _).alloc _).alloc _
      obtain ⟨hb0, hb1⟩ := box2 w (.cells #[.int .u8 r, .int .u32 a, .int .u16 p, .int .u32 b, .int .u16 q, .int .u8 r2, .int .u32 a2, .int .u16 p2, .int .u32 b2, .int .u16 q2, .int .i64 st, .int .i64 dl, .slice ad n c] 45) (.cells #[.int .u8 r3, .int .u32 a3, .int .u16 p3, .int .u32 b3, .int .u16 q3, .int .u8 r4, .int .u32 a4, .int .u16 p4, .int .u32 b4, .int .u16 q4, .int .i64 st2, .int .i64 dl2, .slice ad2 n2 c2] 45)
      generalize (w.alloc (.cells #[.int .u8 r, .int .u32 a, .int .u16 p, .int .u32 b, .int .u16 q, .int .u8 r2, .int .u32 a2, .int .u16 p2, .int .u32 b2, .int .u16 q2, .int .i64 st, .int .i64 dl, .slice ad n c] 45)).alloc (.cells #[.int .u8 r3, .int .u32 a3, .int .u16 p3, .int .u32 b3, .int .u16 q3, .int .u8 r4, .int .u32 a4, .int .u16 p4, .int .u32 b4, .int .u16 q4, .int .i64 st2, .int .i64 dl2, .slice ad2 n2 c2] 45) = w0 at *
      have B1 := Lib.hid hb0
      have B2 := Lib.hid hb1
      have Hw0 := Lib.hid hw0
      clear hb0 hb1 hw0
      generalize w.heap.size + 1 = g2 at *
      generalize w.heap.size = g1 at *
      go_ret
      exact ⟨rfl, Hw0.out⟩
    · rw [h2] at e2
      simp only [Bool.true_and, Bool.not_true] at e1 e2 ⊢
      clear h1 h2
      by_cases hs : st = st2
      · have s1 : (st != st2) = false := by simp [hs]
        by_cases hdl : dl = dl2
        · have s2 : (dl != dl2) = false := by simp [hdl]
          rw [show decide (st = st2 ∧ dl = dl2) = true from decide_eq_true ⟨hs, hdl⟩, Bool.true_and]
          clear hs hdl
          by_cases hnn : n = n2
          · subst hnn
            have Hh1 := Lib.hid hh1
            have Hh2 := Lib.hid hh2
            clear hh1 hh2
            go_enter Tryd.func14, Tryd.ntmps14
            go_wp2_with fail
            have hw0 : NoW w ((w.alloc (.cells #[.int .u8 r, .int .u32 a, .int .u16 p, .int .u32 b, .int .u16 q, .int .u8 r2, .int .u32 a2, .int .u16 p2, .int .u32 b2, .int .u16 q2, .int .i64 st, .int .i64 dl, .slice ad n c] 45)).alloc (.cells #[.int .u8 r3, .int .u32 a3, .int .u16 p3, .int .u32 b3, .int .u16 q3, .int .u8 r4, .int .u32 a4, .int .u16 p4, .int .u32 b4, .int .u16 q4, .int .i64 st2, .int .i64 dl2, .slice ad2 n c2] 45)) := ((Fp.refl _ _).alloc _).alloc _
            obtain ⟨hb0, hb1⟩ := box2 w (.cells #[.int .u8 r, .int .u32 a, .int .u16 p, .int .u32 b, .int .u16 q, .int .u8 r2, .int .u32 a2, .int .u16 p2, .int .u32 b2, .int .u16 q2, .int .i64 st, .int .i64 dl, .slice ad n c] 45) (.cells #[.int .u8 r3, .int .u32 a3, .int .u16 p3, .int .u32 b3, .int .u16 q3, .int .u8 r4, .int .u32 a4, .int .u16 p4, .int .u32 b4, .int .u16 q4, .int .i64 st2, .int .i64 dl2, .slice ad2 n c2] 45)
            generalize (w.alloc (.cells #[.int .u8 r, .int .u32 a, .int .u16 p, .int .u32 b, .int .u16 q, .int .u8 r2, .int .u32 a2, .int .u16 p2, .int .u32 b2, .int .u16 q2, .int .i64 st, .int .i64 dl, .slice ad n c] 45)).alloc (.cells #[.int .u8 r3, .int .u32 a3, .int .u16 p3, .int .u32 b3, .int .u16 q3, .int .u8 r4, .int .u32 a4, .int .u16 p4, .int .u32 b4, .int .u16 q4, .int .i64 st2, .int .i64 dl2, .slice ad2 n c2] 45) = w0 at *
            have B1 := Lib.hid hb0
            have B2 := Lib.hid hb1
            have Hw0 := Lib.hid hw0
            clear hb0 hb1 hw0
            generalize w.heap.size + 1 = g2 at *
            generalize w.heap.size = g1 at *
            have hz0 : w0.heap[g1]? = _ ∧ w0.heap[g2]? = _ := ⟨B1.out, B2.out⟩
            have HZ := Lib.hid hz0
            clear hz0 B1 B2
            go_loopg [5] (n + 1) (fun gg iv wx => ∃ (k : Nat), k ≤ n ∧ gg = n + 1 - k ∧ iv = .int .i64 (k : Int) ∧ NoW w wx ∧ (wx.heap[g1]? = some (.cells #[.int .u8 r, .int .u32 a, .int .u16 p, .int .u32 b, .int .u16 q, .int .u8 r2, .int .u32 a2, .int .u16 p2, .int .u32 b2, .int .u16 q2, .int .i64 st, .int .i64 dl, .slice ad n c] 45) ∧ wx.heap[g2]? = some (.cells #[.int .u8 r3, .int .u32 a3, .int .u16 p3, .int .u32 b3, .int .u16 q3, .int .u8 r4, .int .u32 a4, .int .u16 p4, .int .u32 b4, .int .u16 q4, .int .i64 st2, .int .i64 dl2, .slice ad2 n c2] 45)) ∧ ∀ j, j < k → eqAt oa op ia ip oa2 op2 ia2 ip2 j)
            case atStart => exact ⟨0, by omega, by omega, rfl, Hw0.out, HZ.out, fun j hj => by omega⟩
            case round =>
              obtain ⟨k, hk, hg, rfl, hf, hbx, hno⟩ := hrel
              have Hg := Lib.hid hg
              have Hf := Lib.hid hf
              have Hno := Lib.hid hno
              have B1 := Lib.hid hbx.1
              have B2 := Lib.hid hbx.2
              clear hg hf hno hbx
              have x1_12 : wr.cell? ⟨g1, 12, none⟩ = some (.slice ad n c) := by simp [World.cell?, B1.out]
              have lg1 : g1 < wr.heap.size := cell_lt x1_12
              have x2_12 : wr.cell? ⟨g2, 12, none⟩ = some (.slice ad2 n c2) := by simp [World.cell?, B2.out]
              have lg2 : g2 < wr.heap.size := cell_lt x2_12
              by_cases hlt : k < n
              · obtain ⟨hb1, ho1, rfl, hh1⟩ := Hh1.out (by omega)
                obtain ⟨hb2, ho2, rfl, hh2⟩ := Hh2.out (by omega)
                have hhr1 := hh1.low Hf.out
                have hhr2 := hh2.low Hf.out
                have h1_0 : wr.cell? ⟨hb1, ho1 + k * 4, none⟩ = some (.int .u32 (oa k)) := hhr1.cell (k * 4 + 0) _ (holdsV_get oa op ia ip n k 0 hlt (by omega))
                have h1_1 : wr.cell? ⟨hb1, ho1 + k * 4 + 1, none⟩ = some (.int .u16 (op k)) := hhr1.cell (k * 4 + 1) _ (holdsV_get oa op ia ip n k 1 hlt (by omega))
                have h1_2 : wr.cell? ⟨hb1, ho1 + k * 4 + 2, none⟩ = some (.int .u32 (ia k)) := hhr1.cell (k * 4 + 2) _ (holdsV_get oa op ia ip n k 2 hlt (by omega))
                have h1_3 : wr.cell? ⟨hb1, ho1 + k * 4 + 3, none⟩ = some (.int .u16 (ip k)) := hhr1.cell (k * 4 + 3) _ (holdsV_get oa op ia ip n k 3 hlt (by omega))
                have h2_0 : wr.cell? ⟨hb2, ho2 + k * 4, none⟩ = some (.int .u32 (oa2 k)) := hhr2.cell (k * 4 + 0) _ (holdsV_get oa2 op2 ia2 ip2 n k 0 hlt (by omega))
                have h2_1 : wr.cell? ⟨hb2, ho2 + k * 4 + 1, none⟩ = some (.int .u16 (op2 k)) := hhr2.cell (k * 4 + 1) _ (holdsV_get oa2 op2 ia2 ip2 n k 1 hlt (by omega))
                have h2_2 : wr.cell? ⟨hb2, ho2 + k * 4 + 2, none⟩ = some (.int .u32 (ia2 k)) := hhr2.cell (k * 4 + 2) _ (holdsV_get oa2 op2 ia2 ip2 n k 2 hlt (by omega))
                have h2_3 : wr.cell? ⟨hb2, ho2 + k * 4 + 3, none⟩ = some (.int .u16 (ip2 k)) := hhr2.cell (k * 4 + 3) _ (holdsV_get oa2 op2 ia2 ip2 n k 3 hlt (by omega))
                have lhb1 : hb1 < wr.heap.size := hhr1.lt
                have lhb2 : hb2 < wr.heap.size := hhr2.lt
                clear hh1 hh2 hhr1 hhr2
                have hkk : decide ((k : Int) < (n : Int)) = true := decide_eq_true (by omega)
                have hneq := fun W => rhold_neq (oa k) (op k) (ia k) (ip k) (oa2 k) (op2 k) (ia2 k) (ip2 k) W
                by_cases heq : eqAt oa op ia ip oa2 op2 ia2 ip2 k
                · rw [show decide (oa k = oa2 k ∧ op k = op2 k ∧ ia k = ia2 k ∧ ip k = ip2 k) = true from decide_eq_true heq] at hneq
                  have Heq := Lib.hid heq
                  clear heq
                  go_wp2_with fail
                  refine wp_region_held_drew (S := fun wx => NoW wr wx) (by kernel_rfl) (Fp.drew (Fp.refl _ _)) (fun hHeld => ?_)
                  (refine take_at 0 (some 48) rfl rfl (by kernel_rfl) (by kernel_rfl) (by kernel_rfl) (fun _ _ _ h => h) (v := ?_) (by kernel_rfl) ?_ (by assumption) ?_; rotate_left; (focus (intro wS hSw; skip; go_simp; try with_reducible rfl)); (try simp only [Act.put, List.setIfInBounds_toArray, List.set_cons_zero, List.set_cons_succ]))
                  (refine take_at 1 (some 49) rfl rfl (by kernel_rfl) (by kernel_rfl) (by kernel_rfl) (fun _ _ _ h => h) (v := ?_) (by kernel_rfl) ?_ (by assumption) ?_; rotate_left; (focus (intro wS hSw; (have q1_12 := (hSw.cell (p := ⟨g1, 12, none⟩) lg1 id).trans x1_12); go_simp; try with_reducible rfl)); (try simp only [Act.put, List.setIfInBounds_toArray, List.set_cons_zero, List.set_cons_succ]))
                  (refine take_at 2 (some 50) rfl rfl (by kernel_rfl) (by kernel_rfl) (by kernel_rfl) (fun _ _ _ h => h) (v := ?_) (by kernel_rfl) ?_ (by assumption) ?_; rotate_left; (focus (intro wS hSw; skip; go_simp; try with_reducible rfl)); (try simp only [Act.put, List.setIfInBounds_toArray, List.set_cons_zero, List.set_cons_succ]))
                  (refine take_at 3 (some 51) rfl rfl (by kernel_rfl) (by kernel_rfl) (by kernel_rfl) (fun _ _ _ h => h) (v := ?_) (by kernel_rfl) ?_ (by assumption) ?_; rotate_left; (focus (intro wS hSw; skip; go_simp; try with_reducible rfl)); (try simp only [Act.put, List.setIfInBounds_toArray, List.set_cons_zero, List.set_cons_succ]))
                  (refine take_at 4 (some 52) rfl rfl (by kernel_rfl) (by kernel_rfl) (by kernel_rfl) (fun _ _ _ h => h) (v := ?_) (by kernel_rfl) ?_ (by assumption) ?_; rotate_left; (focus (intro wS hSw; (have q10 := (hSw.cell (p := ⟨hb1, ho1 + k * 4, none⟩) lhb1 id).trans h1_0); (have q11 := (hSw.cell (p := ⟨hb1, ho1 + k * 4 + 1, none⟩) lhb1 id).trans h1_1); (have q12 := (hSw.cell (p := ⟨hb1, ho1 + k * 4 + 2, none⟩) lhb1 id).trans h1_2); (have q13 := (hSw.cell (p := ⟨hb1, ho1 + k * 4 + 3, none⟩) lhb1 id).trans h1_3); go_simp; try with_reducible rfl)); (try simp only [Act.put, List.setIfInBounds_toArray, List.set_cons_zero, List.set_cons_succ]))
                  (refine take_at 5 (some 53) rfl rfl (by kernel_rfl) (by kernel_rfl) (by kernel_rfl) (fun _ _ _ h => h) (v := ?_) (by kernel_rfl) ?_ (by assumption) ?_; rotate_left; (focus (intro wS hSw; skip; go_simp; try with_reducible rfl)); (try simp only [Act.put, List.setIfInBounds_toArray, List.set_cons_zero, List.set_cons_succ]))
                  (refine take_at 6 (some 54) rfl rfl (by kernel_rfl) (by kernel_rfl) (by kernel_rfl) (fun _ _ _ h => h) (v := ?_) (by kernel_rfl) ?_ (by assumption) ?_; rotate_left; (focus (intro wS hSw; (have q2_12 := (hSw.cell (p := ⟨g2, 12, none⟩) lg2 id).trans x2_12); go_simp; try with_reducible rfl)); (try simp only [Act.put, List.setIfInBounds_toArray, List.set_cons_zero, List.set_cons_succ]))
                  (refine take_at 7 (some 55) rfl rfl (by kernel_rfl) (by kernel_rfl) (by kernel_rfl) (fun _ _ _ h => h) (v := ?_) (by kernel_rfl) ?_ (by assumption) ?_; rotate_left; (focus (intro wS hSw; skip; go_simp; try with_reducible rfl)); (try simp only [Act.put, List.setIfInBounds_toArray, List.set_cons_zero, List.set_cons_succ]))
                  (refine take_at 8 (some 56) rfl rfl (by kernel_rfl) (by kernel_rfl) (by kernel_rfl) (fun _ _ _ h => h) (v := ?_) (by kernel_rfl) ?_ (by assumption) ?_; rotate_left; (focus (intro wS hSw; skip; go_simp; try with_reducible rfl)); (try simp only [Act.put, List.setIfInBounds_toArray, List.set_cons_zero, List.set_cons_succ]))
                  (refine take_at 9 (some 57) rfl rfl (by kernel_rfl) (by kernel_rfl) (by kernel_rfl) (fun _ _ _ h => h) (v := ?_) (by kernel_rfl) ?_ (by assumption) ?_; rotate_left; (focus (intro wS hSw; (have q20 := (hSw.cell (p := ⟨hb2, ho2 + k * 4, none⟩) lhb2 id).trans h2_0); (have q21 := (hSw.cell (p := ⟨hb2, ho2 + k * 4 + 1, none⟩) lhb2 id).trans h2_1); (have q22 := (hSw.cell (p := ⟨hb2, ho2 + k * 4 + 2, none⟩) lhb2 id).trans h2_2); (have q23 := (hSw.cell (p := ⟨hb2, ho2 + k * 4 + 3, none⟩) lhb2 id).trans h2_3); go_simp; try with_reducible rfl)); (try simp only [Act.put, List.setIfInBounds_toArray, List.set_cons_zero, List.set_cons_succ]))
                  (refine take_at 10 (some 58) rfl rfl (by kernel_rfl) (by kernel_rfl) (by kernel_rfl) (fun _ _ _ h => h) (v := ?_) (by kernel_rfl) ?_ (by assumption) ?_; rotate_left; (focus (intro wS hSw; skip; go_simp; try with_reducible rfl)); (try simp only [Act.put, List.setIfInBounds_toArray, List.set_cons_zero, List.set_cons_succ]))
                  refine wpAnyH_done (by kernel_rfl) ?_ _
                  have Hb1 := Lib.hid ((hHeld.block _ (Array.getElem?_eq_some_iff.1 B1.out).1 id).trans B1.out)
                  have Hb2 := Lib.hid ((hHeld.block _ (Array.getElem?_eq_some_iff.1 B2.out).1 id).trans B2.out)
                  have Hf2 := Lib.hid (Hf.out.trans hHeld (fun _ _ h => h))
                  clear hHeld h1_0 h1_1 h1_2 h1_3 h2_0 h2_1 h2_2 h2_3
                  clear x1_12 x2_12 lg1 lg2 B1 B2
                  go_wp2_with fail
                  go_roundg (n - k)
                  case measure => have := Hg.out; omega
                  case rel => exact ⟨k + 1, by omega, by omega, by go_num, Hf2.out, ⟨Hb1.out, Hb2.out⟩, fun j hj => by
                      by_cases e : j = k
                      · rw [e]; exact Heq.out
                      · exact Hno.out j (by omega)⟩
                · rw [show decide (oa k = oa2 k ∧ op k = op2 k ∧ ia k = ia2 k ∧ ip k = ip2 k) = false from decide_eq_false heq] at hneq
                  have HE := Lib.hid (eqHolds_no hlt heq)
                  clear heq
                  go_wp2_with fail
                  refine wp_region_held_drew (S := fun wx => NoW wr wx) (by kernel_rfl) (Fp.drew (Fp.refl _ _)) (fun hHeld => ?_)
                  (refine take_at 0 (some 48) rfl rfl (by kernel_rfl) (by kernel_rfl) (by kernel_rfl) (fun _ _ _ h => h) (v := ?_) (by kernel_rfl) ?_ (by assumption) ?_; rotate_left; (focus (intro wS hSw; skip; go_simp; try with_reducible rfl)); (try simp only [Act.put, List.setIfInBounds_toArray, List.set_cons_zero, List.set_cons_succ]))
                  (refine take_at 1 (some 49) rfl rfl (by kernel_rfl) (by kernel_rfl) (by kernel_rfl) (fun _ _ _ h => h) (v := ?_) (by kernel_rfl) ?_ (by assumption) ?_; rotate_left; (focus (intro wS hSw; (have q1_12 := (hSw.cell (p := ⟨g1, 12, none⟩) lg1 id).trans x1_12); go_simp; try with_reducible rfl)); (try simp only [Act.put, List.setIfInBounds_toArray, List.set_cons_zero, List.set_cons_succ]))
                  (refine take_at 2 (some 50) rfl rfl (by kernel_rfl) (by kernel_rfl) (by kernel_rfl) (fun _ _ _ h => h) (v := ?_) (by kernel_rfl) ?_ (by assumption) ?_; rotate_left; (focus (intro wS hSw; skip; go_simp; try with_reducible rfl)); (try simp only [Act.put, List.setIfInBounds_toArray, List.set_cons_zero, List.set_cons_succ]))
                  (refine take_at 3 (some 51) rfl rfl (by kernel_rfl) (by kernel_rfl) (by kernel_rfl) (fun _ _ _ h => h) (v := ?_) (by kernel_rfl) ?_ (by assumption) ?_; rotate_left; (focus (intro wS hSw; skip; go_simp; try with_reducible rfl)); (try simp only [Act.put, List.setIfInBounds_toArray, List.set_cons_zero, List.set_cons_succ]))
                  (refine take_at 4 (some 52) rfl rfl (by kernel_rfl) (by kernel_rfl) (by kernel_rfl) (fun _ _ _ h => h) (v := ?_) (by kernel_rfl) ?_ (by assumption) ?_; rotate_left; (focus (intro wS hSw; (have q10 := (hSw.cell (p := ⟨hb1, ho1 + k * 4, none⟩) lhb1 id).trans h1_0); (have q11 := (hSw.cell (p := ⟨hb1, ho1 + k * 4 + 1, none⟩) lhb1 id).trans h1_1); (have q12 := (hSw.cell (p := ⟨hb1, ho1 + k * 4 + 2, none⟩) lhb1 id).trans h1_2); (have q13 := (hSw.cell (p := ⟨hb1, ho1 + k * 4 + 3, none⟩) lhb1 id).trans h1_3); go_simp; try with_reducible rfl)); (try simp only [Act.put, List.setIfInBounds_toArray, List.set_cons_zero, List.set_cons_succ]))
                  (refine take_at 5 (some 53) rfl rfl (by kernel_rfl) (by kernel_rfl) (by kernel_rfl) (fun _ _ _ h => h) (v := ?_) (by kernel_rfl) ?_ (by assumption) ?_; rotate_left; (focus (intro wS hSw; skip; go_simp; try with_reducible rfl)); (try simp only [Act.put, List.setIfInBounds_toArray, List.set_cons_zero, List.set_cons_succ]))
                  (refine take_at 6 (some 54) rfl rfl (by kernel_rfl) (by kernel_rfl) (by kernel_rfl) (fun _ _ _ h => h) (v := ?_) (by kernel_rfl) ?_ (by assumption) ?_; rotate_left; (focus (intro wS hSw; (have q2_12 := (hSw.cell (p := ⟨g2, 12, none⟩) lg2 id).trans x2_12); go_simp; try with_reducible rfl)); (try simp only [Act.put, List.setIfInBounds_toArray, List.set_cons_zero, List.set_cons_succ]))
                  (refine take_at 7 (some 55) rfl rfl (by kernel_rfl) (by kernel_rfl) (by kernel_rfl) (fun _ _ _ h => h) (v := ?_) (by kernel_rfl) ?_ (by assumption) ?_; rotate_left; (focus (intro wS hSw; skip; go_simp; try with_reducible rfl)); (try simp only [Act.put, List.setIfInBounds_toArray, List.set_cons_zero, List.set_cons_succ]))
                  (refine take_at 8 (some 56) rfl rfl (by kernel_rfl) (by kernel_rfl) (by kernel_rfl) (fun _ _ _ h => h) (v := ?_) (by kernel_rfl) ?_ (by assumption) ?_; rotate_left; (focus (intro wS hSw; skip; go_simp; try with_reducible rfl)); (try simp only [Act.put, List.setIfInBounds_toArray, List.set_cons_zero, List.set_cons_succ]))
                  (refine take_at 9 (some 57) rfl rfl (by kernel_rfl) (by kernel_rfl) (by kernel_rfl) (fun _ _ _ h => h) (v := ?_) (by kernel_rfl) ?_ (by assumption) ?_; rotate_left; (focus (intro wS hSw; (have q20 := (hSw.cell (p := ⟨hb2, ho2 + k * 4, none⟩) lhb2 id).trans h2_0); (have q21 := (hSw.cell (p := ⟨hb2, ho2 + k * 4 + 1, none⟩) lhb2 id).trans h2_1); (have q22 := (hSw.cell (p := ⟨hb2, ho2 + k * 4 + 2, none⟩) lhb2 id).trans h2_2); (have q23 := (hSw.cell (p := ⟨hb2, ho2 + k * 4 + 3, none⟩) lhb2 id).trans h2_3); go_simp; try with_reducible rfl)); (try simp only [Act.put, List.setIfInBounds_toArray, List.set_cons_zero, List.set_cons_succ]))
                  (refine take_at 10 (some 58) rfl rfl (by kernel_rfl) (by kernel_rfl) (by kernel_rfl) (fun _ _ _ h => h) (v := ?_) (by kernel_rfl) ?_ (by assumption) ?_; rotate_left; (focus (intro wS hSw; skip; go_simp; try with_reducible rfl)); (try simp only [Act.put, List.setIfInBounds_toArray, List.set_cons_zero, List.set_cons_succ]))
                  refine wpAnyH_done (by kernel_rfl) ?_ _
                  have Hb1 := Lib.hid ((hHeld.block _ (Array.getElem?_eq_some_iff.1 B1.out).1 id).trans B1.out)
                  have Hb2 := Lib.hid ((hHeld.block _ (Array.getElem?_eq_some_iff.1 B2.out).1 id).trans B2.out)
                  have Hf2 := Lib.hid (Hf.out.trans hHeld (fun _ _ h => h))
                  clear hHeld
                  go_wp2_with fail
                  go_ret
                  exact ⟨by rw [HE.out]; rfl, Hf2.out⟩

              · obtain rfl : k = n := by omega
                have HE := Lib.hid (eqHolds_yes Hno.out)
                go_wp2_with fail
                go_ret
                exact ⟨by rw [HE.out]; rfl, Hf.out⟩
          · have e : eqHolds n n2 oa op ia ip oa2 op2 ia2 ip2 = false := by simp [eqHolds, hnn]
            rw [e]
            have s3 : ((n : Int) != (n2 : Int)) = true := by simp; omega
            clear e hnn hh1 hh2
            go_enter Tryd.func14, Tryd.ntmps14
            go_wp2_with fail
            have hw0 : NoW w ((w.alloc (.cells #[.int .u8 r, .int .u32 a, .int .u16 p, .int .u32 b, .int .u16 q, .int .u8 r2, .int .u32 a2, .int .u16 p2, .int .u32 b2, .int .u16 q2, .int .i64 st, .int .i64 dl, .slice ad n c] 45)).alloc (.cells #[.int .u8 r3, .int .u32 a3, .int .u16 p3, .int .u32 b3, .int .u16 q3, .int .u8 r4, .int .u32 a4, .int .u16 p4, .int .u32 b4, .int .u16 q4, .int .i64 st2, .int .i64 dl2, .slice ad2 n2 c2] 45)) := ((Fp.refl _ _).alloc _).alloc _
            obtain ⟨hb0, hb1⟩ := box2 w (.cells #[.int .u8 r, .int .u32 a, .int .u16 p, .int .u32 b, .int .u16 q, .int .u8 r2, .int .u32 a2, .int .u16 p2, .int .u32 b2, .int .u16 q2, .int .i64 st, .int .i64 dl, .slice ad n c] 45) (.cells #[.int .u8 r3, .int .u32 a3, .int .u16 p3, .int .u32 b3, .int .u16 q3, .int .u8 r4, .int .u32 a4, .int .u16 p4, .int .u32 b4, .int .u16 q4, .int .i64 st2, .int .i64 dl2, .slice ad2 n2 c2] 45)
            generalize (w.alloc (.cells #[.int .u8 r, .int .u32 a, .int .u16 p, .int .u32 b, .int .u16 q, .int .u8 r2, .int .u32 a2, .int .u16 p2, .int .u32 b2, .int .u16 q2, .int .i64 st, .int .i64 dl, .slice ad n c] 45)).alloc (.cells #[.int .u8 r3, .int .u32 a3, .int .u16 p3, .int .u32 b3, .int .u16 q3, .int .u8 r4, .int .u32 a4, .int .u16 p4, .int .u32 b4, .int .u16 q4, .int .i64 st2, .int .i64 dl2, .slice ad2 n2 c2] 45) = w0 at *
            have B1 := Lib.hid hb0
            have B2 := Lib.hid hb1
            have Hw0 := Lib.hid hw0
            clear hb0 hb1 hw0
            generalize w.heap.size + 1 = g2 at *
            generalize w.heap.size = g1 at *
            go_ret
            exact ⟨rfl, Hw0.out⟩
        · have s2 : (dl != dl2) = true := by simpa using hdl
          rw [show decide (st = st2 ∧ dl = dl2) = false from decide_eq_false (fun h => hdl h.2), Bool.false_and]
          clear hs hdl hh1 hh2
          go_enter Tryd.func14, Tryd.ntmps14
          go_wp2_with fail
          have hw0 : NoW w ((w.alloc (.cells #[.int .u8 r, .int .u32 a, .int .u16 p, .int .u32 b, .int .u16 q, .int .u8 r2, .int .u32 a2, .int .u16 p2, .int .u32 b2, .int .u16 q2, .int .i64 st, .int .i64 dl, .slice ad n c] 45)).alloc (.cells #[.int .u8 r3, .int .u32 a3, .int .u16 p3, .int .u32 b3, .int .u16 q3, .int .u8 r4, .int .u32 a4, .int .u16 p4, .int .u32 b4, .int .u16 q4, .int .i64 st2, .int .i64 dl2, .slice ad2 n2 c2] 45)) := ((Fp.refl _ _).alloc _).alloc _
          obtain ⟨hb0, hb1⟩ := box2 w (.cells #[.int .u8 r, .int .u32 a, .int .u16 p, .int .u32 b, .int .u16 q, .int .u8 r2, .int .u32 a2, .int .u16 p2, .int .u32 b2, .int .u16 q2, .int .i64 st, .int .i64 dl, .slice ad n c] 45) (.cells #[.int .u8 r3, .int .u32 a3, .int .u16 p3, .int .u32 b3, .int .u16 q3, .int .u8 r4, .int .u32 a4, .int .u16 p4, .int .u32 b4, .int .u16 q4, .int .i64 st2, .int .i64 dl2, .slice ad2 n2 c2] 45)
          generalize (w.alloc (.cells #[.int .u8 r, .int .u32 a, .int .u16 p, .int .u32 b, .int .u16 q, .int .u8 r2, .int .u32 a2, .int .u16 p2, .int .u32 b2, .int .u16 q2, .int .i64 st, .int .i64 dl, .slice ad n c] 45)).alloc (.cells #[.int .u8 r3, .int .u32 a3, .int .u16 p3, .int .u32 b3, .int .u16 q3, .int .u8 r4, .int .u32 a4, .int .u16 p4, .int .u32 b4, .int .u16 q4, .int .i64 st2, .int .i64 dl2, .slice ad2 n2 c2] 45) = w0 at *
          have B1 := Lib.hid hb0
          have B2 := Lib.hid hb1
          have Hw0 := Lib.hid hw0
          clear hb0 hb1 hw0
          generalize w.heap.size + 1 = g2 at *
          generalize w.heap.size = g1 at *
          go_ret
          exact ⟨rfl, Hw0.out⟩
      · have s1 : (st != st2) = true := by simpa using hs
        rw [show decide (st = st2 ∧ dl = dl2) = false from decide_eq_false (fun h => hs h.1), Bool.false_and]
        clear hs hh1 hh2
        go_enter Tryd.func14, Tryd.ntmps14
        go_wp2_with fail
        have hw0 : NoW w ((w.alloc (.cells #[.int .u8 r, .int .u32 a, .int .u16 p, .int .u32 b, .int .u16 q, .int .u8 r2, .int .u32 a2, .int .u16 p2, .int .u32 b2, .int .u16 q2, .int .i64 st, .int .i64 dl, .slice ad n c] 45)).alloc (.cells #[.int .u8 r3, .int .u32 a3, .int .u16 p3, .int .u32 b3, .int .u16 q3, .int .u8 r4, .int .u32 a4, .int .u16 p4, .int .u32 b4, .int .u16 q4, .int .i64 st2, .int .i64 dl2, .slice ad2 n2 c2] 45)) := ((Fp.refl _ _).alloc _).alloc _
        obtain ⟨hb0, hb1⟩ := box2 w (.cells #[.int .u8 r, .int .u32 a, .int .u16 p, .int .u32 b, .int .u16 q, .int .u8 r2, .int .u32 a2, .int .u16 p2, .int .u32 b2, .int .u16 q2, .int .i64 st, .int .i64 dl, .slice ad n c] 45) (.cells #[.int .u8 r3, .int .u32 a3, .int .u16 p3, .int .u32 b3, .int .u16 q3, .int .u8 r4, .int .u32 a4, .int .u16 p4, .int .u32 b4, .int .u16 q4, .int .i64 st2, .int .i64 dl2, .slice ad2 n2 c2] 45)
        generalize (w.alloc (.cells #[.int .u8 r, .int .u32 a, .int .u16 p, .int .u32 b, .int .u16 q, .int .u8 r2, .int .u32 a2, .int .u16 p2, .int .u32 b2, .int .u16 q2, .int .i64 st, .int .i64 dl, .slice ad n c] 45)).alloc (.cells #[.int .u8 r3, .int .u32 a3, .int .u16 p3, .int .u32 b3, .int .u16 q3, .int .u8 r4, .int .u32 a4, .int .u16 p4, .int .u32 b4, .int .u16 q4, .int .i64 st2, .int .i64 dl2, .slice ad2 n2 c2] 45) = w0 at *
        have B1 := Lib.hid hb0
        have B2 := Lib.hid hb1
        have Hw0 := Lib.hid hw0
        clear hb0 hb1 hw0
        generalize w.heap.size + 1 = g2 at *
        generalize w.heap.size = g1 at *
        go_ret
        exact ⟨rfl, Hw0.out⟩

end Go.Proofs.YtaiimkcmgiceeaaDoor
