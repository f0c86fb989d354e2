/- Same, of the program and of the document (written by gensame.py). -/
import Derived.Test.YtdmbjndhdldggaaDoorEtI
namespace Go.Proofs.YtdmbjndhdldggaaDoor
set_option linter.unusedVariables false
set_option linter.unusedSimpArgs false
open Go.RowKit Go.Lib Go.Sort
/-- Are two entries the same? -/

theorem wrap_sub0 (x y : Int) (hx : -9223372036854775808 ≤ x ∧ x ≤ 9223372036854775807) (hy : -9223372036854775808 ≤ y ∧ y ≤ 9223372036854775807) : IntKind.i64.wrap (x - y) = 0 ↔ x = y := by
  constructor
  · intro h
    have h1 : (x - y) % 18446744073709551616 = 0 ∨ ¬ (x - y) % 18446744073709551616 = 0 := Classical.em _
    simp only [IntKind.wrap, IntKind.signed, IntKind.bits] at h
    simp at h
    omega
  · rintro rfl
    simp [IntKind.wrap, IntKind.signed, IntKind.bits]

set_option maxHeartbeats 8000000 in
set_option maxRecDepth 100000 in
theorem same_ok (r a p b q r2 a2 p2 b2 q2 r3 a3 p3 b3 q3 r4 a4 p4 b4 q4 : Nat) (st dl st2 dl2 : Int) (ad ad2 : Option Addr) (n c n2 c2 : Nat) (oa op ia ip oa2 op2 ia2 ip2 : Nat → Nat) (hst : -9223372036854775808 ≤ st ∧ st ≤ 9223372036854775807) (hst2 : -9223372036854775808 ≤ st2 ∧ st2 ≤ 9223372036854775807) (hn : n ≤ 100) (w : World) (hh1 : HoldsIn w ad n (holdsV oa op ia ip n)) (hh2 : HoldsIn w ad2 n2 (holdsV oa2 op2 ia2 ip2 n2)) :
    Calls Tryd.prog 29 #[.agg #[.int .u8 r, .int .u32 a, .int .u16 p, .int .u32 b, .int .u16 q, .int .u8 r2, .int .u32 a2, .int .u16 p2, .int .u32 b2, .int .u16 q2, .int .i64 st, .int .i64 dl, .slice ad n c], .agg #[.int .u8 r3, .int .u32 a3, .int .u16 p3, .int .u32 b3, .int .u16 q3, .int .u8 r4, .int .u32 a4, .int .u16 p4, .int .u32 b4, .int .u16 q4, .int .i64 st2, .int .i64 dl2, .slice ad2 n2 c2]] w (Ret1 (.bool (decide (r = r3 ∧ a = a3 ∧ p = p3 ∧ b = b3 ∧ q = q3) && decide (r2 = r4 ∧ a2 = a4 ∧ p2 = p4 ∧ b2 = b4 ∧ q2 = q4) && decide (st = st2 ∧ dl = dl2) && eqHolds n n2 oa op ia ip oa2 op2 ia2 ip2)) w) := by
  have e1 := fun W => tup_eq2 r3 a3 p3 b3 q3 r a p b q W
  have e1 := fun W => tup_eq2 r a p b q r3 a3 p3 b3 q3 W
  have e2 := fun W => tup_eq2 r2 a2 p2 b2 q2 r4 a4 p4 b4 q4 W
  have Kq := Lib.hid (fun W (h : NoW w W) => equal_ok ad ad2 n c n2 c2 oa op ia ip oa2 op2 ia2 ip2 hn W (hh1.low h) (hh2.low h))
  obtain ⟨d, hd⟩ : ∃ d, IntKind.i64.wrap (st - st2) = d := ⟨_, rfl⟩
  have hd0 : d = 0 ↔ st = st2 := by rw [← hd]; exact wrap_sub0 st st2 hst hst2
  have kc := fun W => (show Calls Tryd.prog 52 #[.int .i64 dl, .int .i64 dl2] W (Ret1 (.int .i64 (Lib.compareInt dl dl2)) W) from (Tryd.cmp_Compare_int dl dl2 W).mono fun e w' ⟨h1, h2⟩ => ⟨h1, by rw [h2]; exact Fp.refl _ _⟩)
  obtain ⟨cm, hcm⟩ : ∃ cm, Lib.compareInt dl dl2 = cm := ⟨_, rfl⟩
  have hcm0 : cm = 0 ↔ dl = dl2 := by rw [← hcm, Lib.compareInt]; split <;> (try split) <;> omega
  rw [hcm] at kc
  have hor : ((if d ≠ 0 then d else cm) == 0) = decide (st = st2 ∧ dl = dl2) := by
    by_cases h : d = 0
    · rw [if_neg (by simpa using h)]
      by_cases h' : cm = 0
      · rw [h', decide_eq_true ⟨hd0.1 h, hcm0.1 h'⟩]; rfl
      · rw [decide_eq_false (fun e => h' (hcm0.2 e.2))]; exact beq_eq_false_iff_ne.2 h'
    · rw [if_pos h, decide_eq_false (fun e => h (hd0.2 e.1))]; exact beq_eq_false_iff_ne.2 h
  have Kc := Lib.hid kc
  clear kc hcm0 hd0 hcm hst hst2 hh1 hh2
  generalize eqHolds n n2 oa op ia ip oa2 op2 ia2 ip2 = eh at *
  rcases h1 : decide (r = r3 ∧ a = a3 ∧ p = p3 ∧ b = b3 ∧ q = q3) with _ | _
  · rw [h1] at e1
    simp only [Bool.false_and]
    clear h1 hor
    go_enter Tryd.func29, Tryd.ntmps29
    go_wp2_with fail
    have hw0 : NoW w ((w.alloc (.cells #[.int .u8 r, .int .u32 a, .int .u16 p, .int .u32 b, .int .u16 q, .int .u8 r2, .int .u32 a2, .int .u16 p2, .int .u32 b2, .int .u16 q2, .int .i64 st, .int .i64 dl, .slice ad n c] 31)).alloc (.cells #[.int .u8 r3, .int .u32 a3, .int .u16 p3, .int .u32 b3, .int .u16 q3, .int .u8 r4, .int .u32 a4, .int .u16 p4, .int .u32 b4, .int .u16 q4, .int .i64 st2, .int .i64 dl2, .slice ad2 n2 c2] 31)) := ((Fp.refl _ _).alloc _).alloc _
    obtain ⟨hb0, hb1⟩ := box2 w (.cells #[.int .u8 r, .int .u32 a, .int .u16 p, .int .u32 b, .int .u16 q, .int .u8 r2, .int .u32 a2, .int .u16 p2, .int .u32 b2, .int .u16 q2, .int .i64 st, .int .i64 dl, .slice ad n c] 31) (.cells #[.int .u8 r3, .int .u32 a3, .int .u16 p3, .int .u32 b3, .int .u16 q3, .int .u8 r4, .int .u32 a4, .int .u16 p4, .int .u32 b4, .int .u16 q4, .int .i64 st2, .int .i64 dl2, .slice ad2 n2 c2] 31)
    generalize (w.alloc (.cells #[.int .u8 r, .int .u32 a, .int .u16 p, .int .u32 b, .int .u16 q, .int .u8 r2, .int .u32 a2, .int .u16 p2, .int .u32 b2, .int .u16 q2, .int .i64 st, .int .i64 dl, .slice ad n c] 31)).alloc (.cells #[.int .u8 r3, .int .u32 a3, .int .u16 p3, .int .u32 b3, .int .u16 q3, .int .u8 r4, .int .u32 a4, .int .u16 p4, .int .u32 b4, .int .u16 q4, .int .i64 st2, .int .i64 dl2, .slice ad2 n2 c2] 31) = w0 at *
    have B1 := Lib.hid hb0
    have B2 := Lib.hid hb1
    have Hw0 := Lib.hid hw0
    clear hb0 hb1 hw0
    generalize w.heap.size + 1 = g2 at *
    generalize w.heap.size = g1 at *
    have x1_0 : w0.cell? ⟨g1, 0, none⟩ = some (.int .u8 r) := by simp [World.cell?, B1.out]
    have x1_1 : w0.cell? ⟨g1, 1, none⟩ = some (.int .u32 a) := by simp [World.cell?, B1.out]
    have x1_2 : w0.cell? ⟨g1, 2, none⟩ = some (.int .u16 p) := by simp [World.cell?, B1.out]
    have x1_3 : w0.cell? ⟨g1, 3, none⟩ = some (.int .u32 b) := by simp [World.cell?, B1.out]
    have x1_4 : w0.cell? ⟨g1, 4, none⟩ = some (.int .u16 q) := by simp [World.cell?, B1.out]
    have x1_5 : w0.cell? ⟨g1, 5, none⟩ = some (.int .u8 r2) := by simp [World.cell?, B1.out]
    have x1_6 : w0.cell? ⟨g1, 6, none⟩ = some (.int .u32 a2) := by simp [World.cell?, B1.out]
    have x1_7 : w0.cell? ⟨g1, 7, none⟩ = some (.int .u16 p2) := by simp [World.cell?, B1.out]
    have x1_8 : w0.cell? ⟨g1, 8, none⟩ = some (.int .u32 b2) := by simp [World.cell?, B1.out]
    have x1_9 : w0.cell? ⟨g1, 9, none⟩ = some (.int .u16 q2) := by simp [World.cell?, B1.out]
    have x1_10 : w0.cell? ⟨g1, 10, none⟩ = some (.int .i64 st) := by simp [World.cell?, B1.out]
    have x1_11 : w0.cell? ⟨g1, 11, none⟩ = some (.int .i64 dl) := by simp [World.cell?, B1.out]
    have x1_12 : w0.cell? ⟨g1, 12, none⟩ = some (.slice ad n c) := by simp [World.cell?, B1.out]
    have lg1 : g1 < w0.heap.size := cell_lt x1_0
    have x2_0 : w0.cell? ⟨g2, 0, none⟩ = some (.int .u8 r3) := by simp [World.cell?, B2.out]
    have x2_1 : w0.cell? ⟨g2, 1, none⟩ = some (.int .u32 a3) := by simp [World.cell?, B2.out]
    have x2_2 : w0.cell? ⟨g2, 2, none⟩ = some (.int .u16 p3) := by simp [World.cell?, B2.out]
    have x2_3 : w0.cell? ⟨g2, 3, none⟩ = some (.int .u32 b3) := by simp [World.cell?, B2.out]
    have x2_4 : w0.cell? ⟨g2, 4, none⟩ = some (.int .u16 q3) := by simp [World.cell?, B2.out]
    have x2_5 : w0.cell? ⟨g2, 5, none⟩ = some (.int .u8 r4) := by simp [World.cell?, B2.out]
    have x2_6 : w0.cell? ⟨g2, 6, none⟩ = some (.int .u32 a4) := by simp [World.cell?, B2.out]
    have x2_7 : w0.cell? ⟨g2, 7, none⟩ = some (.int .u16 p4) := by simp [World.cell?, B2.out]
    have x2_8 : w0.cell? ⟨g2, 8, none⟩ = some (.int .u32 b4) := by simp [World.cell?, B2.out]
    have x2_9 : w0.cell? ⟨g2, 9, none⟩ = some (.int .u16 q4) := by simp [World.cell?, B2.out]
    have x2_10 : w0.cell? ⟨g2, 10, none⟩ = some (.int .i64 st2) := by simp [World.cell?, B2.out]
    have x2_11 : w0.cell? ⟨g2, 11, none⟩ = some (.int .i64 dl2) := by simp [World.cell?, B2.out]
    have x2_12 : w0.cell? ⟨g2, 12, none⟩ = some (.slice ad2 n2 c2) := by simp [World.cell?, B2.out]
    have lg2 : g2 < w0.heap.size := cell_lt x2_0
    refine wp_region_held_drew (S := fun wx => NoW w0 wx) (by kernel_rfl) (Fp.drew (Fp.refl _ _)) (fun hHeld => ?_)
    (refine take_at 0 (some 5) rfl rfl (by kernel_rfl) (by kernel_rfl) (by kernel_rfl) (fun _ _ _ h => h) (v := ?_) (by kernel_rfl) ?_ (by assumption) ?_; rotate_left; (focus (intro wS hSw; skip; go_simp; try with_reducible rfl)); (try simp only [Act.put, List.setIfInBounds_toArray, List.set_cons_zero, List.set_cons_succ]))
    (refine take_at 1 (some 6) rfl rfl (by kernel_rfl) (by kernel_rfl) (by kernel_rfl) (fun _ _ _ h => h) (v := ?_) (by kernel_rfl) ?_ (by assumption) ?_; rotate_left; (focus (intro wS hSw; (have q1_0 := (hSw.cell (p := ⟨g1, 0, none⟩) lg1 id).trans x1_0); (have q1_1 := (hSw.cell (p := ⟨g1, 1, none⟩) lg1 id).trans x1_1); (have q1_2 := (hSw.cell (p := ⟨g1, 2, none⟩) lg1 id).trans x1_2); (have q1_3 := (hSw.cell (p := ⟨g1, 3, none⟩) lg1 id).trans x1_3); (have q1_4 := (hSw.cell (p := ⟨g1, 4, none⟩) lg1 id).trans x1_4); go_simp; try with_reducible rfl)); (try simp only [Act.put, List.setIfInBounds_toArray, List.set_cons_zero, List.set_cons_succ]))
    (refine take_at 2 (some 7) rfl rfl (by kernel_rfl) (by kernel_rfl) (by kernel_rfl) (fun _ _ _ h => h) (v := ?_) (by kernel_rfl) ?_ (by assumption) ?_; rotate_left; (focus (intro wS hSw; skip; go_simp; try with_reducible rfl)); (try simp only [Act.put, List.setIfInBounds_toArray, List.set_cons_zero, List.set_cons_succ]))
    (refine take_at 3 (some 8) rfl rfl (by kernel_rfl) (by kernel_rfl) (by kernel_rfl) (fun _ _ _ h => h) (v := ?_) (by kernel_rfl) ?_ (by assumption) ?_; rotate_left; (focus (intro wS hSw; (have q2_0 := (hSw.cell (p := ⟨g2, 0, none⟩) lg2 id).trans x2_0); (have q2_1 := (hSw.cell (p := ⟨g2, 1, none⟩) lg2 id).trans x2_1); (have q2_2 := (hSw.cell (p := ⟨g2, 2, none⟩) lg2 id).trans x2_2); (have q2_3 := (hSw.cell (p := ⟨g2, 3, none⟩) lg2 id).trans x2_3); (have q2_4 := (hSw.cell (p := ⟨g2, 4, none⟩) lg2 id).trans x2_4); go_simp; try with_reducible rfl)); (try simp only [Act.put, List.setIfInBounds_toArray, List.set_cons_zero, List.set_cons_succ]))
    (refine take_at 4 (some 9) rfl rfl (by kernel_rfl) (by kernel_rfl) (by kernel_rfl) (fun _ _ _ h => h) (v := ?_) (by kernel_rfl) ?_ (by assumption) ?_; rotate_left; (focus (intro wS hSw; skip; go_simp; try with_reducible rfl)); (try simp only [Act.put, List.setIfInBounds_toArray, List.set_cons_zero, List.set_cons_succ]))
    (refine take_at 5 (some 10) rfl rfl (by kernel_rfl) (by kernel_rfl) (by kernel_rfl) (fun _ _ _ h => h) (v := ?_) (by kernel_rfl) ?_ (by assumption) ?_; rotate_left; (focus (intro wS hSw; skip; go_simp; try with_reducible rfl)); (try simp only [Act.put, List.setIfInBounds_toArray, List.set_cons_zero, List.set_cons_succ]))
    (refine drop_at 6 (some 11) rfl rfl (by kernel_rfl) (by kernel_rfl) (by kernel_rfl) (fun _ _ _ h => h) (by kernel_rfl) (by assumption) ?_; (try simp only [Act.put, List.setIfInBounds_toArray, List.set_cons_zero, List.set_cons_succ]))
    (refine drop_at 7 (some 12) rfl rfl (by kernel_rfl) (by kernel_rfl) (by kernel_rfl) (fun _ _ _ h => h) (by kernel_rfl) (by assumption) ?_; (try simp only [Act.put, List.setIfInBounds_toArray, List.set_cons_zero, List.set_cons_succ]))
    (refine drop_at 8 (some 13) rfl rfl (by kernel_rfl) (by kernel_rfl) (by kernel_rfl) (fun _ _ _ h => h) (by kernel_rfl) (by assumption) ?_; (try simp only [Act.put, List.setIfInBounds_toArray, List.set_cons_zero, List.set_cons_succ]))
    (refine drop_at 9 (some 14) rfl rfl (by kernel_rfl) (by kernel_rfl) (by kernel_rfl) (fun _ _ _ h => h) (by kernel_rfl) (by assumption) ?_; (try simp only [Act.put, List.setIfInBounds_toArray, List.set_cons_zero, List.set_cons_succ]))
    (refine drop_at 10 (some 15) rfl rfl (by kernel_rfl) (by kernel_rfl) (by kernel_rfl) (fun _ _ _ h => h) (by kernel_rfl) (by assumption) ?_; (try simp only [Act.put, List.setIfInBounds_toArray, List.set_cons_zero, List.set_cons_succ]))
    (refine take_at 11 (some 16) rfl rfl (by kernel_rfl) (by kernel_rfl) (by kernel_rfl) (fun _ _ _ h => h) (v := ?_) (by kernel_rfl) ?_ (by assumption) ?_; rotate_left; (focus (intro wS hSw; skip; go_simp; try with_reducible rfl)); (try simp only [Act.put, List.setIfInBounds_toArray, List.set_cons_zero, List.set_cons_succ]))
    (refine take_at 12 (some 17) rfl rfl (by kernel_rfl) (by kernel_rfl) (by kernel_rfl) (fun _ _ _ h => h) (v := ?_) (by kernel_rfl) ?_ (by assumption) ?_; rotate_left; (focus (intro wS hSw; skip; go_simp; try with_reducible rfl)); (try simp only [Act.put, List.setIfInBounds_toArray, List.set_cons_zero, List.set_cons_succ]))
    (refine drop_at 13 (some 18) rfl rfl (by kernel_rfl) (by kernel_rfl) (by kernel_rfl) (fun _ _ _ h => h) (by kernel_rfl) (by assumption) ?_; (try simp only [Act.put, List.setIfInBounds_toArray, List.set_cons_zero, List.set_cons_succ]))
    (refine drop_at 14 (some 19) rfl rfl (by kernel_rfl) (by kernel_rfl) (by kernel_rfl) (fun _ _ _ h => h) (by kernel_rfl) (by assumption) ?_; (try simp only [Act.put, List.setIfInBounds_toArray, List.set_cons_zero, List.set_cons_succ]))
    (refine drop_at 15 (some 20) rfl rfl (by kernel_rfl) (by kernel_rfl) (by kernel_rfl) (fun _ _ _ h => h) (by kernel_rfl) (by assumption) ?_; (try simp only [Act.put, List.setIfInBounds_toArray, List.set_cons_zero, List.set_cons_succ]))
    (refine drop_at 16 (some 21) rfl rfl (by kernel_rfl) (by kernel_rfl) (by kernel_rfl) (fun _ _ _ h => h) (by kernel_rfl) (by assumption) ?_; (try simp only [Act.put, List.setIfInBounds_toArray, List.set_cons_zero, List.set_cons_succ]))
    (refine drop_at 17 (some 22) rfl rfl (by kernel_rfl) (by kernel_rfl) (by kernel_rfl) (fun _ _ _ h => h) (by kernel_rfl) (by assumption) ?_; (try simp only [Act.put, List.setIfInBounds_toArray, List.set_cons_zero, List.set_cons_succ]))
    (refine drop_at 18 (some 23) rfl rfl (by kernel_rfl) (by kernel_rfl) (by kernel_rfl) (fun _ _ _ h => h) (by kernel_rfl) (by assumption) ?_; (try simp only [Act.put, List.setIfInBounds_toArray, List.set_cons_zero, List.set_cons_succ]))
    (refine drop_at 19 (some 24) rfl rfl (by kernel_rfl) (by kernel_rfl) (by kernel_rfl) (fun _ _ _ h => h) (by kernel_rfl) (by assumption) ?_; (try simp only [Act.put, List.setIfInBounds_toArray, List.set_cons_zero, List.set_cons_succ]))
    (refine drop_at 20 (some 25) rfl rfl (by kernel_rfl) (by kernel_rfl) (by kernel_rfl) (fun _ _ _ h => h) (by kernel_rfl) (by assumption) ?_; (try simp only [Act.put, List.setIfInBounds_toArray, List.set_cons_zero, List.set_cons_succ]))
    (refine drop_at 21 (some 26) rfl rfl (by kernel_rfl) (by kernel_rfl) (by kernel_rfl) (fun _ _ _ h => h) (by kernel_rfl) (by assumption) ?_; (try simp only [Act.put, List.setIfInBounds_toArray, List.set_cons_zero, List.set_cons_succ]))
    (refine drop_at 22 (some 27) rfl rfl (by kernel_rfl) (by kernel_rfl) (by kernel_rfl) (fun _ _ _ h => h) (by kernel_rfl) (by assumption) ?_; (try simp only [Act.put, List.setIfInBounds_toArray, List.set_cons_zero, List.set_cons_succ]))
    (refine drop_at 23 (some 28) rfl rfl (by kernel_rfl) (by kernel_rfl) (by kernel_rfl) (fun _ _ _ h => h) (by kernel_rfl) (by assumption) ?_; (try simp only [Act.put, List.setIfInBounds_toArray, List.set_cons_zero, List.set_cons_succ]))
    (refine drop_at 24 (some 29) rfl rfl (by kernel_rfl) (by kernel_rfl) (by kernel_rfl) (fun _ _ _ h => h) (by kernel_rfl) (by assumption) ?_; (try simp only [Act.put, List.setIfInBounds_toArray, List.set_cons_zero, List.set_cons_succ]))
    (refine drop_at 25 (some 30) rfl rfl (by kernel_rfl) (by kernel_rfl) (by kernel_rfl) (fun _ _ _ h => h) (by kernel_rfl) (by assumption) ?_; (try simp only [Act.put, List.setIfInBounds_toArray, List.set_cons_zero, List.set_cons_succ]))
    (refine take_at 26 (some 31) rfl rfl (by kernel_rfl) (by kernel_rfl) (by kernel_rfl) (fun _ _ _ h => h) (v := ?_) (by kernel_rfl) ?_ (by assumption) ?_; rotate_left; (focus (intro wS hSw; skip; go_simp; try with_reducible rfl)); (try simp only [Act.put, List.setIfInBounds_toArray, List.set_cons_zero, List.set_cons_succ]))
    (refine take_at 27 (some 32) rfl rfl (by kernel_rfl) (by kernel_rfl) (by kernel_rfl) (fun _ _ _ h => h) (v := ?_) (by kernel_rfl) ?_ (by assumption) ?_; rotate_left; (focus (intro wS hSw; skip; go_simp; try with_reducible rfl)); (try simp only [Act.put, List.setIfInBounds_toArray, List.set_cons_zero, List.set_cons_succ]))
    (refine drop_at 28 (some 33) rfl rfl (by kernel_rfl) (by kernel_rfl) (by kernel_rfl) (fun _ _ _ h => h) (by kernel_rfl) (by assumption) ?_; (try simp only [Act.put, List.setIfInBounds_toArray, List.set_cons_zero, List.set_cons_succ]))
    (refine drop_at 29 (some 34) rfl rfl (by kernel_rfl) (by kernel_rfl) (by kernel_rfl) (fun _ _ _ h => h) (by kernel_rfl) (by assumption) ?_; (try simp only [Act.put, List.setIfInBounds_toArray, List.set_cons_zero, List.set_cons_succ]))
    (refine drop_at 30 (some 35) rfl rfl (by kernel_rfl) (by kernel_rfl) (by kernel_rfl) (fun _ _ _ h => h) (by kernel_rfl) (by assumption) ?_; (try simp only [Act.put, List.setIfInBounds_toArray, List.set_cons_zero, List.set_cons_succ]))
    (refine drop_at 31 (some 36) rfl rfl (by kernel_rfl) (by kernel_rfl) (by kernel_rfl) (fun _ _ _ h => h) (by kernel_rfl) (by assumption) ?_; (try simp only [Act.put, List.setIfInBounds_toArray, List.set_cons_zero, List.set_cons_succ]))
    (refine drop_at 32 (some 37) rfl rfl (by kernel_rfl) (by kernel_rfl) (by kernel_rfl) (fun _ _ _ h => h) (by kernel_rfl) (by assumption) ?_; (try simp only [Act.put, List.setIfInBounds_toArray, List.set_cons_zero, List.set_cons_succ]))
    (refine take_at 33 (some 38) rfl rfl (by kernel_rfl) (by kernel_rfl) (by kernel_rfl) (fun _ _ _ h => h) (v := ?_) (by kernel_rfl) ?_ (by assumption) ?_; rotate_left; (focus (intro wS hSw; skip; go_simp; try with_reducible rfl)); (try simp only [Act.put, List.setIfInBounds_toArray, List.set_cons_zero, List.set_cons_succ]))
    (refine take_at 34 (some 4) rfl rfl (by kernel_rfl) (by kernel_rfl) (by kernel_rfl) (fun _ _ _ h => h) (v := ?_) (by kernel_rfl) ?_ (by assumption) ?_; rotate_left; (focus (intro wS hSw; skip; go_simp; try with_reducible rfl)); (try simp only [Act.put, List.setIfInBounds_toArray, List.set_cons_zero, List.set_cons_succ]))
    refine wpAnyH_done (by kernel_rfl) ?_ _
    have Hf2 := Lib.hid (Hw0.out.trans hHeld (fun _ _ h => h))
    go_wp2_with fail
    go_ret
    exact ⟨rfl, Hf2.out⟩
  · rw [h1] at e1
    rcases h2 : decide (r2 = r4 ∧ a2 = a4 ∧ p2 = p4 ∧ b2 = b4 ∧ q2 = q4) with _ | _
    · rw [h2] at e2
      simp only [Bool.true_and, Bool.false_and]
      clear h1 h2 hor
      go_enter Tryd.func29, Tryd.ntmps29
      go_wp2_with fail
      have hw0 : NoW w ((w.alloc (.cells #[.int .u8 r, .int .u32 a, .int .u16 p, .int .u32 b, .int .u16 q, .int .u8 r2, .int .u32 a2, .int .u16 p2, .int .u32 b2, .int .u16 q2, .int .i64 st, .int .i64 dl, .slice ad n c] 31)).alloc (.cells #[.int .u8 r3, .int .u32 a3, .int .u16 p3, .int .u32 b3, .int .u16 q3, .int .u8 r4, .int .u32 a4, .int .u16 p4, .int .u32 b4, .int .u16 q4, .int .i64 st2, .int .i64 dl2, .slice ad2 n2 c2] 31)) := ((Fp.refl _ _).alloc _).alloc _
      obtain ⟨hb0, hb1⟩ := box2 w (.cells #[.int .u8 r, .int .u32 a, .int .u16 p, .int .u32 b, .int .u16 q, .int .u8 r2, .int .u32 a2, .int .u16 p2, .int .u32 b2, .int .u16 q2, .int .i64 st, .int .i64 dl, .slice ad n c] 31) (.cells #[.int .u8 r3, .int .u32 a3, .int .u16 p3, .int .u32 b3, .int .u16 q3, .int .u8 r4, .int .u32 a4, .int .u16 p4, .int .u32 b4, .int .u16 q4, .int .i64 st2, .int .i64 dl2, .slice ad2 n2 c2] 31)
      generalize (w.alloc (.cells #[.int .u8 r, .int .u32 a, .int .u16 p, .int .u32 b, .int .u16 q, .int .u8 r2, .int .u32 a2, .int .u16 p2, .int .u32 b2, .int .u16 q2, .int .i64 st, .int .i64 dl, .slice ad n c] 31)).alloc (.cells #[.int .u8 r3, .int .u32 a3, .int .u16 p3, .int .u32 b3, .int .u16 q3, .int .u8 r4, .int .u32 a4, .int .u16 p4, .int .u32 b4, .int .u16 q4, .int .i64 st2, .int .i64 dl2, .slice ad2 n2 c2] 31) = w0 at *
      have B1 := Lib.hid hb0
      have B2 := Lib.hid hb1
      have Hw0 := Lib.hid hw0
      clear hb0 hb1 hw0
      generalize w.heap.size + 1 = g2 at *
      generalize w.heap.size = g1 at *
      have x1_0 : w0.cell? ⟨g1, 0, none⟩ = some (.int .u8 r) := by simp [World.cell?, B1.out]
      have x1_1 : w0.cell? ⟨g1, 1, none⟩ = some (.int .u32 a) := by simp [World.cell?, B1.out]
      have x1_2 : w0.cell? ⟨g1, 2, none⟩ = some (.int .u16 p) := by simp [World.cell?, B1.out]
      have x1_3 : w0.cell? ⟨g1, 3, none⟩ = some (.int .u32 b) := by simp [World.cell?, B1.out]
      have x1_4 : w0.cell? ⟨g1, 4, none⟩ = some (.int .u16 q) := by simp [World.cell?, B1.out]
      have x1_5 : w0.cell? ⟨g1, 5, none⟩ = some (.int .u8 r2) := by simp [World.cell?, B1.out]
      have x1_6 : w0.cell? ⟨g1, 6, none⟩ = some (.int .u32 a2) := by simp [World.cell?, B1.out]
      have x1_7 : w0.cell? ⟨g1, 7, none⟩ = some (.int .u16 p2) := by simp [World.cell?, B1.out]
      have x1_8 : w0.cell? ⟨g1, 8, none⟩ = some (.int .u32 b2) := by simp [World.cell?, B1.out]
      have x1_9 : w0.cell? ⟨g1, 9, none⟩ = some (.int .u16 q2) := by simp [World.cell?, B1.out]
      have x1_10 : w0.cell? ⟨g1, 10, none⟩ = some (.int .i64 st) := by simp [World.cell?, B1.out]
      have x1_11 : w0.cell? ⟨g1, 11, none⟩ = some (.int .i64 dl) := by simp [World.cell?, B1.out]
      have x1_12 : w0.cell? ⟨g1, 12, none⟩ = some (.slice ad n c) := by simp [World.cell?, B1.out]
      have lg1 : g1 < w0.heap.size := cell_lt x1_0
      have x2_0 : w0.cell? ⟨g2, 0, none⟩ = some (.int .u8 r3) := by simp [World.cell?, B2.out]
      have x2_1 : w0.cell? ⟨g2, 1, none⟩ = some (.int .u32 a3) := by simp [World.cell?, B2.out]
      have x2_2 : w0.cell? ⟨g2, 2, none⟩ = some (.int .u16 p3) := by simp [World.cell?, B2.out]
      have x2_3 : w0.cell? ⟨g2, 3, none⟩ = some (.int .u32 b3) := by simp [World.cell?, B2.out]
      have x2_4 : w0.cell? ⟨g2, 4, none⟩ = some (.int .u16 q3) := by simp [World.cell?, B2.out]
      have x2_5 : w0.cell? ⟨g2, 5, none⟩ = some (.int .u8 r4) := by simp [World.cell?, B2.out]
      have x2_6 : w0.cell? ⟨g2, 6, none⟩ = some (.int .u32 a4) := by simp [World.cell?, B2.out]
      have x2_7 : w0.cell? ⟨g2, 7, none⟩ = some (.int .u16 p4) := by simp [World.cell?, B2.out]
      have x2_8 : w0.cell? ⟨g2, 8, none⟩ = some (.int .u32 b4) := by simp [World.cell?, B2.out]
      have x2_9 : w0.cell? ⟨g2, 9, none⟩ = some (.int .u16 q4) := by simp [World.cell?, B2.out]
      have x2_10 : w0.cell? ⟨g2, 10, none⟩ = some (.int .i64 st2) := by simp [World.cell?, B2.out]
      have x2_11 : w0.cell? ⟨g2, 11, none⟩ = some (.int .i64 dl2) := by simp [World.cell?, B2.out]
      have x2_12 : w0.cell? ⟨g2, 12, none⟩ = some (.slice ad2 n2 c2) := by simp [World.cell?, B2.out]
      have lg2 : g2 < w0.heap.size := cell_lt x2_0
      refine wp_region_held_drew (S := fun wx => NoW w0 wx) (by kernel_rfl) (Fp.drew (Fp.refl _ _)) (fun hHeld => ?_)
      (refine take_at 0 (some 5) rfl rfl (by kernel_rfl) (by kernel_rfl) (by kernel_rfl) (fun _ _ _ h => h) (v := ?_) (by kernel_rfl) ?_ (by assumption) ?_; rotate_left; (focus (intro wS hSw; skip; go_simp; try with_reducible rfl)); (try simp only [Act.put, List.setIfInBounds_toArray, List.set_cons_zero, List.set_cons_succ]))
      (refine take_at 1 (some 6) rfl rfl (by kernel_rfl) (by kernel_rfl) (by kernel_rfl) (fun _ _ _ h => h) (v := ?_) (by kernel_rfl) ?_ (by assumption) ?_; rotate_left; (focus (intro wS hSw; (have q1_0 := (hSw.cell (p := ⟨g1, 0, none⟩) lg1 id).trans x1_0); (have q1_1 := (hSw.cell (p := ⟨g1, 1, none⟩) lg1 id).trans x1_1); (have q1_2 := (hSw.cell (p := ⟨g1, 2, none⟩) lg1 id).trans x1_2); (have q1_3 := (hSw.cell (p := ⟨g1, 3, none⟩) lg1 id).trans x1_3); (have q1_4 := (hSw.cell (p := ⟨g1, 4, none⟩) lg1 id).trans x1_4); go_simp; try with_reducible rfl)); (try simp only [Act.put, List.setIfInBounds_toArray, List.set_cons_zero, List.set_cons_succ]))
      (refine take_at 2 (some 7) rfl rfl (by kernel_rfl) (by kernel_rfl) (by kernel_rfl) (fun _ _ _ h => h) (v := ?_) (by kernel_rfl) ?_ (by assumption) ?_; rotate_left; (focus (intro wS hSw; skip; go_simp; try with_reducible rfl)); (try simp only [Act.put, List.setIfInBounds_toArray, List.set_cons_zero, List.set_cons_succ]))
      (refine take_at 3 (some 8) rfl rfl (by kernel_rfl) (by kernel_rfl) (by kernel_rfl) (fun _ _ _ h => h) (v := ?_) (by kernel_rfl) ?_ (by assumption) ?_; rotate_left; (focus (intro wS hSw; (have q2_0 := (hSw.cell (p := ⟨g2, 0, none⟩) lg2 id).trans x2_0); (have q2_1 := (hSw.cell (p := ⟨g2, 1, none⟩) lg2 id).trans x2_1); (have q2_2 := (hSw.cell (p := ⟨g2, 2, none⟩) lg2 id).trans x2_2); (have q2_3 := (hSw.cell (p := ⟨g2, 3, none⟩) lg2 id).trans x2_3); (have q2_4 := (hSw.cell (p := ⟨g2, 4, none⟩) lg2 id).trans x2_4); go_simp; try with_reducible rfl)); (try simp only [Act.put, List.setIfInBounds_toArray, List.set_cons_zero, List.set_cons_succ]))
      (refine take_at 4 (some 9) rfl rfl (by kernel_rfl) (by kernel_rfl) (by kernel_rfl) (fun _ _ _ h => h) (v := ?_) (by kernel_rfl) ?_ (by assumption) ?_; rotate_left; (focus (intro wS hSw; skip; go_simp; try with_reducible rfl)); (try simp only [Act.put, List.setIfInBounds_toArray, List.set_cons_zero, List.set_cons_succ]))
      (refine take_at 5 (some 10) rfl rfl (by kernel_rfl) (by kernel_rfl) (by kernel_rfl) (fun _ _ _ h => h) (v := ?_) (by kernel_rfl) ?_ (by assumption) ?_; rotate_left; (focus (intro wS hSw; skip; go_simp; try with_reducible rfl)); (try simp only [Act.put, List.setIfInBounds_toArray, List.set_cons_zero, List.set_cons_succ]))
      (refine take_at 6 (some 11) rfl rfl (by kernel_rfl) (by kernel_rfl) (by kernel_rfl) (fun _ _ _ h => h) (v := ?_) (by kernel_rfl) ?_ (by assumption) ?_; rotate_left; (focus (intro wS hSw; skip; go_simp; try with_reducible rfl)); (try simp only [Act.put, List.setIfInBounds_toArray, List.set_cons_zero, List.set_cons_succ]))
      (refine take_at 7 (some 12) rfl rfl (by kernel_rfl) (by kernel_rfl) (by kernel_rfl) (fun _ _ _ h => h) (v := ?_) (by kernel_rfl) ?_ (by assumption) ?_; rotate_left; (focus (intro wS hSw; (have q1_5 := (hSw.cell (p := ⟨g1, 5, none⟩) lg1 id).trans x1_5); (have q1_6 := (hSw.cell (p := ⟨g1, 6, none⟩) lg1 id).trans x1_6); (have q1_7 := (hSw.cell (p := ⟨g1, 7, none⟩) lg1 id).trans x1_7); (have q1_8 := (hSw.cell (p := ⟨g1, 8, none⟩) lg1 id).trans x1_8); (have q1_9 := (hSw.cell (p := ⟨g1, 9, none⟩) lg1 id).trans x1_9); go_simp; try with_reducible rfl)); (try simp only [Act.put, List.setIfInBounds_toArray, List.set_cons_zero, List.set_cons_succ]))
      (refine take_at 8 (some 13) rfl rfl (by kernel_rfl) (by kernel_rfl) (by kernel_rfl) (fun _ _ _ h => h) (v := ?_) (by kernel_rfl) ?_ (by assumption) ?_; rotate_left; (focus (intro wS hSw; skip; go_simp; try with_reducible rfl)); (try simp only [Act.put, List.setIfInBounds_toArray, List.set_cons_zero, List.set_cons_succ]))
      (refine take_at 9 (some 14) rfl rfl (by kernel_rfl) (by kernel_rfl) (by kernel_rfl) (fun _ _ _ h => h) (v := ?_) (by kernel_rfl) ?_ (by assumption) ?_; rotate_left; (focus (intro wS hSw; (have q2_5 := (hSw.cell (p := ⟨g2, 5, none⟩) lg2 id).trans x2_5); (have q2_6 := (hSw.cell (p := ⟨g2, 6, none⟩) lg2 id).trans x2_6); (have q2_7 := (hSw.cell (p := ⟨g2, 7, none⟩) lg2 id).trans x2_7); (have q2_8 := (hSw.cell (p := ⟨g2, 8, none⟩) lg2 id).trans x2_8); (have q2_9 := (hSw.cell (p := ⟨g2, 9, none⟩) lg2 id).trans x2_9); go_simp; try with_reducible rfl)); (try simp only [Act.put, List.setIfInBounds_toArray, List.set_cons_zero, List.set_cons_succ]))
      (refine take_at 10 (some 15) rfl rfl (by kernel_rfl) (by kernel_rfl) (by kernel_rfl) (fun _ _ _ h => h) (v := ?_) (by kernel_rfl) ?_ (by assumption) ?_; rotate_left; (focus (intro wS hSw; skip; go_simp; try with_reducible rfl)); (try simp only [Act.put, List.setIfInBounds_toArray, List.set_cons_zero, List.set_cons_succ]))
      (refine take_at 11 (some 16) rfl rfl (by kernel_rfl) (by kernel_rfl) (by kernel_rfl) (fun _ _ _ h => h) (v := ?_) (by kernel_rfl) ?_ (by assumption) ?_; rotate_left; (focus (intro wS hSw; skip; go_simp; try with_reducible rfl)); (try simp only [Act.put, List.setIfInBounds_toArray, List.set_cons_zero, List.set_cons_succ]))
      (refine take_at 12 (some 17) rfl rfl (by kernel_rfl) (by kernel_rfl) (by kernel_rfl) (fun _ _ _ h => h) (v := ?_) (by kernel_rfl) ?_ (by assumption) ?_; rotate_left; (focus (intro wS hSw; skip; go_simp; try with_reducible rfl)); (try simp only [Act.put, List.setIfInBounds_toArray, List.set_cons_zero, List.set_cons_succ]))
      (refine drop_at 13 (some 18) rfl rfl (by kernel_rfl) (by kernel_rfl) (by kernel_rfl) (fun _ _ _ h => h) (by kernel_rfl) (by assumption) ?_; (try simp only [Act.put, List.setIfInBounds_toArray, List.set_cons_zero, List.set_cons_succ]))
      (refine drop_at 14 (some 19) rfl rfl (by kernel_rfl) (by kernel_rfl) (by kernel_rfl) (fun _ _ _ h => h) (by kernel_rfl) (by assumption) ?_; (try simp only [Act.put, List.setIfInBounds_toArray, List.set_cons_zero, List.set_cons_succ]))
      (refine drop_at 15 (some 20) rfl rfl (by kernel_rfl) (by kernel_rfl) (by kernel_rfl) (fun _ _ _ h => h) (by kernel_rfl) (by assumption) ?_; (try simp only [Act.put, List.setIfInBounds_toArray, List.set_cons_zero, List.set_cons_succ]))
      (refine drop_at 16 (some 21) rfl rfl (by kernel_rfl) (by kernel_rfl) (by kernel_rfl) (fun _ _ _ h => h) (by kernel_rfl) (by assumption) ?_; (try simp only [Act.put, List.setIfInBounds_toArray, List.set_cons_zero, List.set_cons_succ]))
      (refine drop_at 17 (some 22) rfl rfl (by kernel_rfl) (by kernel_rfl) (by kernel_rfl) (fun _ _ _ h => h) (by kernel_rfl) (by assumption) ?_; (try simp only [Act.put, List.setIfInBounds_toArray, List.set_cons_zero, List.set_cons_succ]))
      (refine drop_at 18 (some 23) rfl rfl (by kernel_rfl) (by kernel_rfl) (by kernel_rfl) (fun _ _ _ h => h) (by kernel_rfl) (by assumption) ?_; (try simp only [Act.put, List.setIfInBounds_toArray, List.set_cons_zero, List.set_cons_succ]))
      (refine drop_at 19 (some 24) rfl rfl (by kernel_rfl) (by kernel_rfl) (by kernel_rfl) (fun _ _ _ h => h) (by kernel_rfl) (by assumption) ?_; (try simp only [Act.put, List.setIfInBounds_toArray, List.set_cons_zero, List.set_cons_succ]))
      (refine drop_at 20 (some 25) rfl rfl (by kernel_rfl) (by kernel_rfl) (by kernel_rfl) (fun _ _ _ h => h) (by kernel_rfl) (by assumption) ?_; (try simp only [Act.put, List.setIfInBounds_toArray, List.set_cons_zero, List.set_cons_succ]))
      (refine drop_at 21 (some 26) rfl rfl (by kernel_rfl) (by kernel_rfl) (by kernel_rfl) (fun _ _ _ h => h) (by kernel_rfl) (by assumption) ?_; (try simp only [Act.put, List.setIfInBounds_toArray, List.set_cons_zero, List.set_cons_succ]))
      (refine drop_at 22 (some 27) rfl rfl (by kernel_rfl) (by kernel_rfl) (by kernel_rfl) (fun _ _ _ h => h) (by kernel_rfl) (by assumption) ?_; (try simp only [Act.put, List.setIfInBounds_toArray, List.set_cons_zero, List.set_cons_succ]))
      (refine drop_at 23 (some 28) rfl rfl (by kernel_rfl) (by kernel_rfl) (by kernel_rfl) (fun _ _ _ h => h) (by kernel_rfl) (by assumption) ?_; (try simp only [Act.put, List.setIfInBounds_toArray, List.set_cons_zero, List.set_cons_succ]))
      (refine drop_at 24 (some 29) rfl rfl (by kernel_rfl) (by kernel_rfl) (by kernel_rfl) (fun _ _ _ h => h) (by kernel_rfl) (by assumption) ?_; (try simp only [Act.put, List.setIfInBounds_toArray, List.set_cons_zero, List.set_cons_succ]))
      (refine drop_at 25 (some 30) rfl rfl (by kernel_rfl) (by kernel_rfl) (by kernel_rfl) (fun _ _ _ h => h) (by kernel_rfl) (by assumption) ?_; (try simp only [Act.put, List.setIfInBounds_toArray, List.set_cons_zero, List.set_cons_succ]))
      (refine take_at 26 (some 31) rfl rfl (by kernel_rfl) (by kernel_rfl) (by kernel_rfl) (fun _ _ _ h => h) (v := ?_) (by kernel_rfl) ?_ (by assumption) ?_; rotate_left; (focus (intro wS hSw; skip; go_simp; try with_reducible rfl)); (try simp only [Act.put, List.setIfInBounds_toArray, List.set_cons_zero, List.set_cons_succ]))
      (refine take_at 27 (some 32) rfl rfl (by kernel_rfl) (by kernel_rfl) (by kernel_rfl) (fun _ _ _ h => h) (v := ?_) (by kernel_rfl) ?_ (by assumption) ?_; rotate_left; (focus (intro wS hSw; skip; go_simp; try with_reducible rfl)); (try simp only [Act.put, List.setIfInBounds_toArray, List.set_cons_zero, List.set_cons_succ]))
      (refine drop_at 28 (some 33) rfl rfl (by kernel_rfl) (by kernel_rfl) (by kernel_rfl) (fun _ _ _ h => h) (by kernel_rfl) (by assumption) ?_; (try simp only [Act.put, List.setIfInBounds_toArray, List.set_cons_zero, List.set_cons_succ]))
      (refine drop_at 29 (some 34) rfl rfl (by kernel_rfl) (by kernel_rfl) (by kernel_rfl) (fun _ _ _ h => h) (by kernel_rfl) (by assumption) ?_; (try simp only [Act.put, List.setIfInBounds_toArray, List.set_cons_zero, List.set_cons_succ]))
      (refine drop_at 30 (some 35) rfl rfl (by kernel_rfl) (by kernel_rfl) (by kernel_rfl) (fun _ _ _ h => h) (by kernel_rfl) (by assumption) ?_; (try simp only [Act.put, List.setIfInBounds_toArray, List.set_cons_zero, List.set_cons_succ]))
      (refine drop_at 31 (some 36) rfl rfl (by kernel_rfl) (by kernel_rfl) (by kernel_rfl) (fun _ _ _ h => h) (by kernel_rfl) (by assumption) ?_; (try simp only [Act.put, List.setIfInBounds_toArray, List.set_cons_zero, List.set_cons_succ]))
      (refine drop_at 32 (some 37) rfl rfl (by kernel_rfl) (by kernel_rfl) (by kernel_rfl) (fun _ _ _ h => h) (by kernel_rfl) (by assumption) ?_; (try simp only [Act.put, List.setIfInBounds_toArray, List.set_cons_zero, List.set_cons_succ]))
      (refine take_at 33 (some 38) rfl rfl (by kernel_rfl) (by kernel_rfl) (by kernel_rfl) (fun _ _ _ h => h) (v := ?_) (by kernel_rfl) ?_ (by assumption) ?_; rotate_left; (focus (intro wS hSw; skip; go_simp; try with_reducible rfl)); (try simp only [Act.put, List.setIfInBounds_toArray, List.set_cons_zero, List.set_cons_succ]))
      (refine take_at 34 (some 4) rfl rfl (by kernel_rfl) (by kernel_rfl) (by kernel_rfl) (fun _ _ _ h => h) (v := ?_) (by kernel_rfl) ?_ (by assumption) ?_; rotate_left; (focus (intro wS hSw; skip; go_simp; try with_reducible rfl)); (try simp only [Act.put, List.setIfInBounds_toArray, List.set_cons_zero, List.set_cons_succ]))
      refine wpAnyH_done (by kernel_rfl) ?_ _
      have Hf2 := Lib.hid (Hw0.out.trans hHeld (fun _ _ h => h))
      go_wp2_with fail
      go_ret
      exact ⟨rfl, Hf2.out⟩
    · rw [h2] at e2
      rcases h3 : decide (st = st2 ∧ dl = dl2) with _ | _
      · rw [h3] at hor
        simp only [Bool.true_and, Bool.false_and]
        have Hor := Lib.hid hor
        clear h1 h2 h3 hor
        go_enter Tryd.func29, Tryd.ntmps29
        go_wp2_with fail
        have hw0 : NoW w ((w.alloc (.cells #[.int .u8 r, .int .u32 a, .int .u16 p, .int .u32 b, .int .u16 q, .int .u8 r2, .int .u32 a2, .int .u16 p2, .int .u32 b2, .int .u16 q2, .int .i64 st, .int .i64 dl, .slice ad n c] 31)).alloc (.cells #[.int .u8 r3, .int .u32 a3, .int .u16 p3, .int .u32 b3, .int .u16 q3, .int .u8 r4, .int .u32 a4, .int .u16 p4, .int .u32 b4, .int .u16 q4, .int .i64 st2, .int .i64 dl2, .slice ad2 n2 c2] 31)) := ((Fp.refl _ _).alloc _).alloc _
        obtain ⟨hb0, hb1⟩ := box2 w (.cells #[.int .u8 r, .int .u32 a, .int .u16 p, .int .u32 b, .int .u16 q, .int .u8 r2, .int .u32 a2, .int .u16 p2, .int .u32 b2, .int .u16 q2, .int .i64 st, .int .i64 dl, .slice ad n c] 31) (.cells #[.int .u8 r3, .int .u32 a3, .int .u16 p3, .int .u32 b3, .int .u16 q3, .int .u8 r4, .int .u32 a4, .int .u16 p4, .int .u32 b4, .int .u16 q4, .int .i64 st2, .int .i64 dl2, .slice ad2 n2 c2] 31)
        generalize (w.alloc (.cells #[.int .u8 r, .int .u32 a, .int .u16 p, .int .u32 b, .int .u16 q, .int .u8 r2, .int .u32 a2, .int .u16 p2, .int .u32 b2, .int .u16 q2, .int .i64 st, .int .i64 dl, .slice ad n c] 31)).alloc (.cells #[.int .u8 r3, .int .u32 a3, .int .u16 p3, .int .u32 b3, .int .u16 q3, .int .u8 r4, .int .u32 a4, .int .u16 p4, .int .u32 b4, .int .u16 q4, .int .i64 st2, .int .i64 dl2, .slice ad2 n2 c2] 31) = w0 at *
        have B1 := Lib.hid hb0
        have B2 := Lib.hid hb1
        have Hw0 := Lib.hid hw0
        clear hb0 hb1 hw0
        generalize w.heap.size + 1 = g2 at *
        generalize w.heap.size = g1 at *
        have x1_0 : w0.cell? ⟨g1, 0, none⟩ = some (.int .u8 r) := by simp [World.cell?, B1.out]
        have x1_1 : w0.cell? ⟨g1, 1, none⟩ = some (.int .u32 a) := by simp [World.cell?, B1.out]
        have x1_2 : w0.cell? ⟨g1, 2, none⟩ = some (.int .u16 p) := by simp [World.cell?, B1.out]
        have x1_3 : w0.cell? ⟨g1, 3, none⟩ = some (.int .u32 b) := by simp [World.cell?, B1.out]
        have x1_4 : w0.cell? ⟨g1, 4, none⟩ = some (.int .u16 q) := by simp [World.cell?, B1.out]
        have x1_5 : w0.cell? ⟨g1, 5, none⟩ = some (.int .u8 r2) := by simp [World.cell?, B1.out]
        have x1_6 : w0.cell? ⟨g1, 6, none⟩ = some (.int .u32 a2) := by simp [World.cell?, B1.out]
        have x1_7 : w0.cell? ⟨g1, 7, none⟩ = some (.int .u16 p2) := by simp [World.cell?, B1.out]
        have x1_8 : w0.cell? ⟨g1, 8, none⟩ = some (.int .u32 b2) := by simp [World.cell?, B1.out]
        have x1_9 : w0.cell? ⟨g1, 9, none⟩ = some (.int .u16 q2) := by simp [World.cell?, B1.out]
        have x1_10 : w0.cell? ⟨g1, 10, none⟩ = some (.int .i64 st) := by simp [World.cell?, B1.out]
        have x1_11 : w0.cell? ⟨g1, 11, none⟩ = some (.int .i64 dl) := by simp [World.cell?, B1.out]
        have x1_12 : w0.cell? ⟨g1, 12, none⟩ = some (.slice ad n c) := by simp [World.cell?, B1.out]
        have lg1 : g1 < w0.heap.size := cell_lt x1_0
        have x2_0 : w0.cell? ⟨g2, 0, none⟩ = some (.int .u8 r3) := by simp [World.cell?, B2.out]
        have x2_1 : w0.cell? ⟨g2, 1, none⟩ = some (.int .u32 a3) := by simp [World.cell?, B2.out]
        have x2_2 : w0.cell? ⟨g2, 2, none⟩ = some (.int .u16 p3) := by simp [World.cell?, B2.out]
        have x2_3 : w0.cell? ⟨g2, 3, none⟩ = some (.int .u32 b3) := by simp [World.cell?, B2.out]
        have x2_4 : w0.cell? ⟨g2, 4, none⟩ = some (.int .u16 q3) := by simp [World.cell?, B2.out]
        have x2_5 : w0.cell? ⟨g2, 5, none⟩ = some (.int .u8 r4) := by simp [World.cell?, B2.out]
        have x2_6 : w0.cell? ⟨g2, 6, none⟩ = some (.int .u32 a4) := by simp [World.cell?, B2.out]
        have x2_7 : w0.cell? ⟨g2, 7, none⟩ = some (.int .u16 p4) := by simp [World.cell?, B2.out]
        have x2_8 : w0.cell? ⟨g2, 8, none⟩ = some (.int .u32 b4) := by simp [World.cell?, B2.out]
        have x2_9 : w0.cell? ⟨g2, 9, none⟩ = some (.int .u16 q4) := by simp [World.cell?, B2.out]
        have x2_10 : w0.cell? ⟨g2, 10, none⟩ = some (.int .i64 st2) := by simp [World.cell?, B2.out]
        have x2_11 : w0.cell? ⟨g2, 11, none⟩ = some (.int .i64 dl2) := by simp [World.cell?, B2.out]
        have x2_12 : w0.cell? ⟨g2, 12, none⟩ = some (.slice ad2 n2 c2) := by simp [World.cell?, B2.out]
        have lg2 : g2 < w0.heap.size := cell_lt x2_0
        refine wp_region_held_drew (S := fun wx => NoW w0 wx) (by kernel_rfl) (Fp.drew (Fp.refl _ _)) (fun hHeld => ?_)
        (refine take_at 0 (some 5) rfl rfl (by kernel_rfl) (by kernel_rfl) (by kernel_rfl) (fun _ _ _ h => h) (v := ?_) (by kernel_rfl) ?_ (by assumption) ?_; rotate_left; (focus (intro wS hSw; skip; go_simp; try with_reducible rfl)); (try simp only [Act.put, List.setIfInBounds_toArray, List.set_cons_zero, List.set_cons_succ]))
        (refine take_at 1 (some 6) rfl rfl (by kernel_rfl) (by kernel_rfl) (by kernel_rfl) (fun _ _ _ h => h) (v := ?_) (by kernel_rfl) ?_ (by assumption) ?_; rotate_left; (focus (intro wS hSw; (have q1_0 := (hSw.cell (p := ⟨g1, 0, none⟩) lg1 id).trans x1_0); (have q1_1 := (hSw.cell (p := ⟨g1, 1, none⟩) lg1 id).trans x1_1); (have q1_2 := (hSw.cell (p := ⟨g1, 2, none⟩) lg1 id).trans x1_2); (have q1_3 := (hSw.cell (p := ⟨g1, 3, none⟩) lg1 id).trans x1_3); (have q1_4 := (hSw.cell (p := ⟨g1, 4, none⟩) lg1 id).trans x1_4); go_simp; try with_reducible rfl)); (try simp only [Act.put, List.setIfInBounds_toArray, List.set_cons_zero, List.set_cons_succ]))
        (refine take_at 2 (some 7) rfl rfl (by kernel_rfl) (by kernel_rfl) (by kernel_rfl) (fun _ _ _ h => h) (v := ?_) (by kernel_rfl) ?_ (by assumption) ?_; rotate_left; (focus (intro wS hSw; skip; go_simp; try with_reducible rfl)); (try simp only [Act.put, List.setIfInBounds_toArray, List.set_cons_zero, List.set_cons_succ]))
        (refine take_at 3 (some 8) rfl rfl (by kernel_rfl) (by kernel_rfl) (by kernel_rfl) (fun _ _ _ h => h) (v := ?_) (by kernel_rfl) ?_ (by assumption) ?_; rotate_left; (focus (intro wS hSw; (have q2_0 := (hSw.cell (p := ⟨g2, 0, none⟩) lg2 id).trans x2_0); (have q2_1 := (hSw.cell (p := ⟨g2, 1, none⟩) lg2 id).trans x2_1); (have q2_2 := (hSw.cell (p := ⟨g2, 2, none⟩) lg2 id).trans x2_2); (have q2_3 := (hSw.cell (p := ⟨g2, 3, none⟩) lg2 id).trans x2_3); (have q2_4 := (hSw.cell (p := ⟨g2, 4, none⟩) lg2 id).trans x2_4); go_simp; try with_reducible rfl)); (try simp only [Act.put, List.setIfInBounds_toArray, List.set_cons_zero, List.set_cons_succ]))
        (refine take_at 4 (some 9) rfl rfl (by kernel_rfl) (by kernel_rfl) (by kernel_rfl) (fun _ _ _ h => h) (v := ?_) (by kernel_rfl) ?_ (by assumption) ?_; rotate_left; (focus (intro wS hSw; skip; go_simp; try with_reducible rfl)); (try simp only [Act.put, List.setIfInBounds_toArray, List.set_cons_zero, List.set_cons_succ]))
        (refine take_at 5 (some 10) rfl rfl (by kernel_rfl) (by kernel_rfl) (by kernel_rfl) (fun _ _ _ h => h) (v := ?_) (by kernel_rfl) ?_ (by assumption) ?_; rotate_left; (focus (intro wS hSw; skip; go_simp; try with_reducible rfl)); (try simp only [Act.put, List.setIfInBounds_toArray, List.set_cons_zero, List.set_cons_succ]))
        (refine take_at 6 (some 11) rfl rfl (by kernel_rfl) (by kernel_rfl) (by kernel_rfl) (fun _ _ _ h => h) (v := ?_) (by kernel_rfl) ?_ (by assumption) ?_; rotate_left; (focus (intro wS hSw; skip; go_simp; try with_reducible rfl)); (try simp only [Act.put, List.setIfInBounds_toArray, List.set_cons_zero, List.set_cons_succ]))
        (refine take_at 7 (some 12) rfl rfl (by kernel_rfl) (by kernel_rfl) (by kernel_rfl) (fun _ _ _ h => h) (v := ?_) (by kernel_rfl) ?_ (by assumption) ?_; rotate_left; (focus (intro wS hSw; (have q1_5 := (hSw.cell (p := ⟨g1, 5, none⟩) lg1 id).trans x1_5); (have q1_6 := (hSw.cell (p := ⟨g1, 6, none⟩) lg1 id).trans x1_6); (have q1_7 := (hSw.cell (p := ⟨g1, 7, none⟩) lg1 id).trans x1_7); (have q1_8 := (hSw.cell (p := ⟨g1, 8, none⟩) lg1 id).trans x1_8); (have q1_9 := (hSw.cell (p := ⟨g1, 9, none⟩) lg1 id).trans x1_9); go_simp; try with_reducible rfl)); (try simp only [Act.put, List.setIfInBounds_toArray, List.set_cons_zero, List.set_cons_succ]))
        (refine take_at 8 (some 13) rfl rfl (by kernel_rfl) (by kernel_rfl) (by kernel_rfl) (fun _ _ _ h => h) (v := ?_) (by kernel_rfl) ?_ (by assumption) ?_; rotate_left; (focus (intro wS hSw; skip; go_simp; try with_reducible rfl)); (try simp only [Act.put, List.setIfInBounds_toArray, List.set_cons_zero, List.set_cons_succ]))
        (refine take_at 9 (some 14) rfl rfl (by kernel_rfl) (by kernel_rfl) (by kernel_rfl) (fun _ _ _ h => h) (v := ?_) (by kernel_rfl) ?_ (by assumption) ?_; rotate_left; (focus (intro wS hSw; (have q2_5 := (hSw.cell (p := ⟨g2, 5, none⟩) lg2 id).trans x2_5); (have q2_6 := (hSw.cell (p := ⟨g2, 6, none⟩) lg2 id).trans x2_6); (have q2_7 := (hSw.cell (p := ⟨g2, 7, none⟩) lg2 id).trans x2_7); (have q2_8 := (hSw.cell (p := ⟨g2, 8, none⟩) lg2 id).trans x2_8); (have q2_9 := (hSw.cell (p := ⟨g2, 9, none⟩) lg2 id).trans x2_9); go_simp; try with_reducible rfl)); (try simp only [Act.put, List.setIfInBounds_toArray, List.set_cons_zero, List.set_cons_succ]))
        (refine take_at 10 (some 15) rfl rfl (by kernel_rfl) (by kernel_rfl) (by kernel_rfl) (fun _ _ _ h => h) (v := ?_) (by kernel_rfl) ?_ (by assumption) ?_; rotate_left; (focus (intro wS hSw; skip; go_simp; try with_reducible rfl)); (try simp only [Act.put, List.setIfInBounds_toArray, List.set_cons_zero, List.set_cons_succ]))
        (refine take_at 11 (some 16) rfl rfl (by kernel_rfl) (by kernel_rfl) (by kernel_rfl) (fun _ _ _ h => h) (v := ?_) (by kernel_rfl) ?_ (by assumption) ?_; rotate_left; (focus (intro wS hSw; skip; go_simp; try with_reducible rfl)); (try simp only [Act.put, List.setIfInBounds_toArray, List.set_cons_zero, List.set_cons_succ]))
        (refine take_at 12 (some 17) rfl rfl (by kernel_rfl) (by kernel_rfl) (by kernel_rfl) (fun _ _ _ h => h) (v := ?_) (by kernel_rfl) ?_ (by assumption) ?_; rotate_left; (focus (intro wS hSw; skip; go_simp; try with_reducible rfl)); (try simp only [Act.put, List.setIfInBounds_toArray, List.set_cons_zero, List.set_cons_succ]))
        (refine take_at 13 (some 18) rfl rfl (by kernel_rfl) (by kernel_rfl) (by kernel_rfl) (fun _ _ _ h => h) (v := ?_) (by kernel_rfl) ?_ (by assumption) ?_; rotate_left; (focus (intro wS hSw; skip; go_simp; try with_reducible rfl)); (try simp only [Act.put, List.setIfInBounds_toArray, List.set_cons_zero, List.set_cons_succ]))
        (refine take_at 14 (some 19) rfl rfl (by kernel_rfl) (by kernel_rfl) (by kernel_rfl) (fun _ _ _ h => h) (v := ?_) (by kernel_rfl) ?_ (by assumption) ?_; rotate_left; (focus (intro wS hSw; (have q1_10 := (hSw.cell (p := ⟨g1, 10, none⟩) lg1 id).trans x1_10); go_simp; try with_reducible rfl)); (try simp only [Act.put, List.setIfInBounds_toArray, List.set_cons_zero, List.set_cons_succ]))
        (refine take_at 15 (some 20) rfl rfl (by kernel_rfl) (by kernel_rfl) (by kernel_rfl) (fun _ _ _ h => h) (v := ?_) (by kernel_rfl) ?_ (by assumption) ?_; rotate_left; (focus (intro wS hSw; skip; go_simp; try with_reducible rfl)); (try simp only [Act.put, List.setIfInBounds_toArray, List.set_cons_zero, List.set_cons_succ]))
        (refine take_at 16 (some 21) rfl rfl (by kernel_rfl) (by kernel_rfl) (by kernel_rfl) (fun _ _ _ h => h) (v := ?_) (by kernel_rfl) ?_ (by assumption) ?_; rotate_left; (focus (intro wS hSw; (have q2_10 := (hSw.cell (p := ⟨g2, 10, none⟩) lg2 id).trans x2_10); go_simp; try with_reducible rfl)); (try simp only [Act.put, List.setIfInBounds_toArray, List.set_cons_zero, List.set_cons_succ]))
        (refine take_at 17 (some 22) rfl rfl (by kernel_rfl) (by kernel_rfl) (by kernel_rfl) (fun _ _ _ h => h) (v := ?_) (by kernel_rfl) ?_ (by assumption) ?_; rotate_left; (focus (intro wS hSw; skip; go_simp; try with_reducible rfl)); (try simp only [Act.put, List.setIfInBounds_toArray, List.set_cons_zero, List.set_cons_succ]))
        (refine take_at 18 (some 23) rfl rfl (by kernel_rfl) (by kernel_rfl) (by kernel_rfl) (fun _ _ _ h => h) (v := ?_) (by kernel_rfl) ?_ (by assumption) ?_; rotate_left; (focus (intro wS hSw; skip; go_simp; try with_reducible rfl)); (try simp only [Act.put, List.setIfInBounds_toArray, List.set_cons_zero, List.set_cons_succ]))
        (refine take_at 19 (some 24) rfl rfl (by kernel_rfl) (by kernel_rfl) (by kernel_rfl) (fun _ _ _ h => h) (v := ?_) (by kernel_rfl) ?_ (by assumption) ?_; rotate_left; (focus (intro wS hSw; (have q1_11 := (hSw.cell (p := ⟨g1, 11, none⟩) lg1 id).trans x1_11); go_simp; try with_reducible rfl)); (try simp only [Act.put, List.setIfInBounds_toArray, List.set_cons_zero, List.set_cons_succ]))
        (refine take_at 20 (some 25) rfl rfl (by kernel_rfl) (by kernel_rfl) (by kernel_rfl) (fun _ _ _ h => h) (v := ?_) (by kernel_rfl) ?_ (by assumption) ?_; rotate_left; (focus (intro wS hSw; skip; go_simp; try with_reducible rfl)); (try simp only [Act.put, List.setIfInBounds_toArray, List.set_cons_zero, List.set_cons_succ]))
        (refine take_at 21 (some 26) rfl rfl (by kernel_rfl) (by kernel_rfl) (by kernel_rfl) (fun _ _ _ h => h) (v := ?_) (by kernel_rfl) ?_ (by assumption) ?_; rotate_left; (focus (intro wS hSw; (have q2_11 := (hSw.cell (p := ⟨g2, 11, none⟩) lg2 id).trans x2_11); go_simp; try with_reducible rfl)); (try simp only [Act.put, List.setIfInBounds_toArray, List.set_cons_zero, List.set_cons_succ]))
        refine wpAnyH_ready (rs := [22]) (by kernel_rfl) (by simp) ?_
        refine AllReadyH.cons rfl (fun K hK => ?_) AllReadyH.nil
        go_simp
        go_at_call 52
        refine (Kc.out _).mono ?_
        rintro e u1 ⟨rfl, hp⟩
        have hn1 : NoW w0 u1 := Fp.trans hHeld hp (fun _ _ h => h)
        skip
        clear hp hHeld
        refine hK.out _ _ hn1 (fun hHeld => ?_)
        clear hK K
        try simp only [Act.put, List.setIfInBounds_toArray, List.set_cons_zero, List.set_cons_succ]
        refine wpAnyH_ready (rs := [23]) (by kernel_rfl) (by simp) ?_
        refine AllReadyH.cons rfl (fun K hK => ?_) AllReadyH.nil
        go_simp
        have hub := heap_alloc_new u1 (.cells #[.int .i64 d, .int .i64 cm] 3)
        refine hK.out _ _ (hHeld.alloc _) (fun hHeld2 => ?_)
        clear hK K hHeld
        try simp only [Act.put, List.setIfInBounds_toArray, List.set_cons_zero, List.set_cons_succ]
        have hHeld := hHeld2
        clear hHeld2
        generalize u1.alloc (.cells #[.int .i64 d, .int .i64 cm] 3) = uz at *
        generalize u1.heap.size = gu at *
        have Ko := Lib.hid (fun (W : World) (h : W.heap[gu]? = some (.cells #[.int .i64 d, .int .i64 cm] 3)) => (show Calls Tryd.prog 51 #[.slice (some ⟨gu, 0, none⟩) 2 2] W (Ret1 (.int .i64 (if d ≠ 0 then d else cm)) W) from (or_ok gu (fun j => if j = 0 then d else cm) W (fun j hj => by have hj2 : j = 0 ∨ j = 1 := (by omega); rcases hj2 with rfl | rfl <;> simp [World.cell?, h])).mono fun e w' ⟨h1, h2⟩ => ⟨h1, by rw [h2]; exact Fp.refl _ _⟩))
        have hor := Hor.out
        generalize (if d ≠ 0 then d else cm) = orv at *
        refine wpAnyH_ready (rs := [24]) (by kernel_rfl) (by simp) ?_
        refine AllReadyH.cons rfl (fun K hK => ?_) AllReadyH.nil
        go_simp
        go_at_call 51
        refine (Ko.out _ hub).mono ?_
        rintro e u2 ⟨rfl, hp⟩
        have hn2 : NoW w0 u2 := Fp.trans hHeld hp (fun _ _ h => h)
        skip
        clear hp hHeld hn1
        refine hK.out _ _ hn2 (fun hHeld => ?_)
        clear hK K
        try simp only [Act.put, List.setIfInBounds_toArray, List.set_cons_zero, List.set_cons_succ]
        clear hub Ko
        (refine take_at 25 (some 30) rfl rfl (by kernel_rfl) (by kernel_rfl) (by kernel_rfl) (fun _ _ _ h => h) (v := ?_) (by kernel_rfl) ?_ (by assumption) ?_; rotate_left; (focus (intro wS hSw; skip; go_simp; try with_reducible rfl)); (try simp only [Act.put, List.setIfInBounds_toArray, List.set_cons_zero, List.set_cons_succ]))
        (refine take_at 26 (some 31) rfl rfl (by kernel_rfl) (by kernel_rfl) (by kernel_rfl) (fun _ _ _ h => h) (v := ?_) (by kernel_rfl) ?_ (by assumption) ?_; rotate_left; (focus (intro wS hSw; skip; go_simp; try with_reducible rfl)); (try simp only [Act.put, List.setIfInBounds_toArray, List.set_cons_zero, List.set_cons_succ]))
        (refine take_at 27 (some 32) rfl rfl (by kernel_rfl) (by kernel_rfl) (by kernel_rfl) (fun _ _ _ h => h) (v := ?_) (by kernel_rfl) ?_ (by assumption) ?_; rotate_left; (focus (intro wS hSw; skip; go_simp; try with_reducible rfl)); (try simp only [Act.put, List.setIfInBounds_toArray, List.set_cons_zero, List.set_cons_succ]))
        (refine drop_at 28 (some 33) rfl rfl (by kernel_rfl) (by kernel_rfl) (by kernel_rfl) (fun _ _ _ h => h) (by kernel_rfl) (by assumption) ?_; (try simp only [Act.put, List.setIfInBounds_toArray, List.set_cons_zero, List.set_cons_succ]))
        (refine drop_at 29 (some 34) rfl rfl (by kernel_rfl) (by kernel_rfl) (by kernel_rfl) (fun _ _ _ h => h) (by kernel_rfl) (by assumption) ?_; (try simp only [Act.put, List.setIfInBounds_toArray, List.set_cons_zero, List.set_cons_succ]))
        (refine drop_at 30 (some 35) rfl rfl (by kernel_rfl) (by kernel_rfl) (by kernel_rfl) (fun _ _ _ h => h) (by kernel_rfl) (by assumption) ?_; (try simp only [Act.put, List.setIfInBounds_toArray, List.set_cons_zero, List.set_cons_succ]))
        (refine drop_at 31 (some 36) rfl rfl (by kernel_rfl) (by kernel_rfl) (by kernel_rfl) (fun _ _ _ h => h) (by kernel_rfl) (by assumption) ?_; (try simp only [Act.put, List.setIfInBounds_toArray, List.set_cons_zero, List.set_cons_succ]))
        (refine drop_at 32 (some 37) rfl rfl (by kernel_rfl) (by kernel_rfl) (by kernel_rfl) (fun _ _ _ h => h) (by kernel_rfl) (by assumption) ?_; (try simp only [Act.put, List.setIfInBounds_toArray, List.set_cons_zero, List.set_cons_succ]))
        (refine take_at 33 (some 38) rfl rfl (by kernel_rfl) (by kernel_rfl) (by kernel_rfl) (fun _ _ _ h => h) (v := ?_) (by kernel_rfl) ?_ (by assumption) ?_; rotate_left; (focus (intro wS hSw; skip; go_simp; try with_reducible rfl)); (try simp only [Act.put, List.setIfInBounds_toArray, List.set_cons_zero, List.set_cons_succ]))
        (refine take_at 34 (some 4) rfl rfl (by kernel_rfl) (by kernel_rfl) (by kernel_rfl) (fun _ _ _ h => h) (v := ?_) (by kernel_rfl) ?_ (by assumption) ?_; rotate_left; (focus (intro wS hSw; skip; go_simp; try with_reducible rfl)); (try simp only [Act.put, List.setIfInBounds_toArray, List.set_cons_zero, List.set_cons_succ]))
        refine wpAnyH_done (by kernel_rfl) ?_ _
        have Hf2 := Lib.hid (Hw0.out.trans hHeld (fun _ _ h => h))
        go_wp2_with fail
        go_ret
        exact ⟨rfl, Hf2.out⟩
      · rw [h3] at hor
        simp only [Bool.true_and]
        have Hor := Lib.hid hor
        clear h1 h2 h3 hor
        go_enter Tryd.func29, Tryd.ntmps29
        go_wp2_with fail
        have hw0 : NoW w ((w.alloc (.cells #[.int .u8 r, .int .u32 a, .int .u16 p, .int .u32 b, .int .u16 q, .int .u8 r2, .int .u32 a2, .int .u16 p2, .int .u32 b2, .int .u16 q2, .int .i64 st, .int .i64 dl, .slice ad n c] 31)).alloc (.cells #[.int .u8 r3, .int .u32 a3, .int .u16 p3, .int .u32 b3, .int .u16 q3, .int .u8 r4, .int .u32 a4, .int .u16 p4, .int .u32 b4, .int .u16 q4, .int .i64 st2, .int .i64 dl2, .slice ad2 n2 c2] 31)) := ((Fp.refl _ _).alloc _).alloc _
        obtain ⟨hb0, hb1⟩ := box2 w (.cells #[.int .u8 r, .int .u32 a, .int .u16 p, .int .u32 b, .int .u16 q, .int .u8 r2, .int .u32 a2, .int .u16 p2, .int .u32 b2, .int .u16 q2, .int .i64 st, .int .i64 dl, .slice ad n c] 31) (.cells #[.int .u8 r3, .int .u32 a3, .int .u16 p3, .int .u32 b3, .int .u16 q3, .int .u8 r4, .int .u32 a4, .int .u16 p4, .int .u32 b4, .int .u16 q4, .int .i64 st2, .int .i64 dl2, .slice ad2 n2 c2] 31)
        generalize (w.alloc (.cells #[.int .u8 r, .int .u32 a, .int .u16 p, .int .u32 b, .int .u16 q, .int .u8 r2, .int .u32 a2, .int .u16 p2, .int .u32 b2, .int .u16 q2, .int .i64 st, .int .i64 dl, .slice ad n c] 31)).alloc (.cells #[.int .u8 r3, .int .u32 a3, .int .u16 p3, .int .u32 b3, .int .u16 q3, .int .u8 r4, .int .u32 a4, .int .u16 p4, .int .u32 b4, .int .u16 q4, .int .i64 st2, .int .i64 dl2, .slice ad2 n2 c2] 31) = w0 at *
        have B1 := Lib.hid hb0
        have B2 := Lib.hid hb1
        have Hw0 := Lib.hid hw0
        clear hb0 hb1 hw0
        generalize w.heap.size + 1 = g2 at *
        generalize w.heap.size = g1 at *
        have x1_0 : w0.cell? ⟨g1, 0, none⟩ = some (.int .u8 r) := by simp [World.cell?, B1.out]
        have x1_1 : w0.cell? ⟨g1, 1, none⟩ = some (.int .u32 a) := by simp [World.cell?, B1.out]
        have x1_2 : w0.cell? ⟨g1, 2, none⟩ = some (.int .u16 p) := by simp [World.cell?, B1.out]
        have x1_3 : w0.cell? ⟨g1, 3, none⟩ = some (.int .u32 b) := by simp [World.cell?, B1.out]
        have x1_4 : w0.cell? ⟨g1, 4, none⟩ = some (.int .u16 q) := by simp [World.cell?, B1.out]
        have x1_5 : w0.cell? ⟨g1, 5, none⟩ = some (.int .u8 r2) := by simp [World.cell?, B1.out]
        have x1_6 : w0.cell? ⟨g1, 6, none⟩ = some (.int .u32 a2) := by simp [World.cell?, B1.out]
        have x1_7 : w0.cell? ⟨g1, 7, none⟩ = some (.int .u16 p2) := by simp [World.cell?, B1.out]
        have x1_8 : w0.cell? ⟨g1, 8, none⟩ = some (.int .u32 b2) := by simp [World.cell?, B1.out]
        have x1_9 : w0.cell? ⟨g1, 9, none⟩ = some (.int .u16 q2) := by simp [World.cell?, B1.out]
        have x1_10 : w0.cell? ⟨g1, 10, none⟩ = some (.int .i64 st) := by simp [World.cell?, B1.out]
        have x1_11 : w0.cell? ⟨g1, 11, none⟩ = some (.int .i64 dl) := by simp [World.cell?, B1.out]
        have x1_12 : w0.cell? ⟨g1, 12, none⟩ = some (.slice ad n c) := by simp [World.cell?, B1.out]
        have lg1 : g1 < w0.heap.size := cell_lt x1_0
        have x2_0 : w0.cell? ⟨g2, 0, none⟩ = some (.int .u8 r3) := by simp [World.cell?, B2.out]
        have x2_1 : w0.cell? ⟨g2, 1, none⟩ = some (.int .u32 a3) := by simp [World.cell?, B2.out]
        have x2_2 : w0.cell? ⟨g2, 2, none⟩ = some (.int .u16 p3) := by simp [World.cell?, B2.out]
        have x2_3 : w0.cell? ⟨g2, 3, none⟩ = some (.int .u32 b3) := by simp [World.cell?, B2.out]
        have x2_4 : w0.cell? ⟨g2, 4, none⟩ = some (.int .u16 q3) := by simp [World.cell?, B2.out]
        have x2_5 : w0.cell? ⟨g2, 5, none⟩ = some (.int .u8 r4) := by simp [World.cell?, B2.out]
        have x2_6 : w0.cell? ⟨g2, 6, none⟩ = some (.int .u32 a4) := by simp [World.cell?, B2.out]
        have x2_7 : w0.cell? ⟨g2, 7, none⟩ = some (.int .u16 p4) := by simp [World.cell?, B2.out]
        have x2_8 : w0.cell? ⟨g2, 8, none⟩ = some (.int .u32 b4) := by simp [World.cell?, B2.out]
        have x2_9 : w0.cell? ⟨g2, 9, none⟩ = some (.int .u16 q4) := by simp [World.cell?, B2.out]
        have x2_10 : w0.cell? ⟨g2, 10, none⟩ = some (.int .i64 st2) := by simp [World.cell?, B2.out]
        have x2_11 : w0.cell? ⟨g2, 11, none⟩ = some (.int .i64 dl2) := by simp [World.cell?, B2.out]
        have x2_12 : w0.cell? ⟨g2, 12, none⟩ = some (.slice ad2 n2 c2) := by simp [World.cell?, B2.out]
        have lg2 : g2 < w0.heap.size := cell_lt x2_0
        refine wp_region_held_drew (S := fun wx => NoW w0 wx) (by kernel_rfl) (Fp.drew (Fp.refl _ _)) (fun hHeld => ?_)
        (refine take_at 0 (some 5) rfl rfl (by kernel_rfl) (by kernel_rfl) (by kernel_rfl) (fun _ _ _ h => h) (v := ?_) (by kernel_rfl) ?_ (by assumption) ?_; rotate_left; (focus (intro wS hSw; skip; go_simp; try with_reducible rfl)); (try simp only [Act.put, List.setIfInBounds_toArray, List.set_cons_zero, List.set_cons_succ]))
        (refine take_at 1 (some 6) rfl rfl (by kernel_rfl) (by kernel_rfl) (by kernel_rfl) (fun _ _ _ h => h) (v := ?_) (by kernel_rfl) ?_ (by assumption) ?_; rotate_left; (focus (intro wS hSw; (have q1_0 := (hSw.cell (p := ⟨g1, 0, none⟩) lg1 id).trans x1_0); (have q1_1 := (hSw.cell (p := ⟨g1, 1, none⟩) lg1 id).trans x1_1); (have q1_2 := (hSw.cell (p := ⟨g1, 2, none⟩) lg1 id).trans x1_2); (have q1_3 := (hSw.cell (p := ⟨g1, 3, none⟩) lg1 id).trans x1_3); (have q1_4 := (hSw.cell (p := ⟨g1, 4, none⟩) lg1 id).trans x1_4); go_simp; try with_reducible rfl)); (try simp only [Act.put, List.setIfInBounds_toArray, List.set_cons_zero, List.set_cons_succ]))
        (refine take_at 2 (some 7) rfl rfl (by kernel_rfl) (by kernel_rfl) (by kernel_rfl) (fun _ _ _ h => h) (v := ?_) (by kernel_rfl) ?_ (by assumption) ?_; rotate_left; (focus (intro wS hSw; skip; go_simp; try with_reducible rfl)); (try simp only [Act.put, List.setIfInBounds_toArray, List.set_cons_zero, List.set_cons_succ]))
        (refine take_at 3 (some 8) rfl rfl (by kernel_rfl) (by kernel_rfl) (by kernel_rfl) (fun _ _ _ h => h) (v := ?_) (by kernel_rfl) ?_ (by assumption) ?_; rotate_left; (focus (intro wS hSw; (have q2_0 := (hSw.cell (p := ⟨g2, 0, none⟩) lg2 id).trans x2_0); (have q2_1 := (hSw.cell (p := ⟨g2, 1, none⟩) lg2 id).trans x2_1); (have q2_2 := (hSw.cell (p := ⟨g2, 2, none⟩) lg2 id).trans x2_2); (have q2_3 := (hSw.cell (p := ⟨g2, 3, none⟩) lg2 id).trans x2_3); (have q2_4 := (hSw.cell (p := ⟨g2, 4, none⟩) lg2 id).trans x2_4); go_simp; try with_reducible rfl)); (try simp only [Act.put, List.setIfInBounds_toArray, List.set_cons_zero, List.set_cons_succ]))
        (refine take_at 4 (some 9) rfl rfl (by kernel_rfl) (by kernel_rfl) (by kernel_rfl) (fun _ _ _ h => h) (v := ?_) (by kernel_rfl) ?_ (by assumption) ?_; rotate_left; (focus (intro wS hSw; skip; go_simp; try with_reducible rfl)); (try simp only [Act.put, List.setIfInBounds_toArray, List.set_cons_zero, List.set_cons_succ]))
        (refine take_at 5 (some 10) rfl rfl (by kernel_rfl) (by kernel_rfl) (by kernel_rfl) (fun _ _ _ h => h) (v := ?_) (by kernel_rfl) ?_ (by assumption) ?_; rotate_left; (focus (intro wS hSw; skip; go_simp; try with_reducible rfl)); (try simp only [Act.put, List.setIfInBounds_toArray, List.set_cons_zero, List.set_cons_succ]))
        (refine take_at 6 (some 11) rfl rfl (by kernel_rfl) (by kernel_rfl) (by kernel_rfl) (fun _ _ _ h => h) (v := ?_) (by kernel_rfl) ?_ (by assumption) ?_; rotate_left; (focus (intro wS hSw; skip; go_simp; try with_reducible rfl)); (try simp only [Act.put, List.setIfInBounds_toArray, List.set_cons_zero, List.set_cons_succ]))
        (refine take_at 7 (some 12) rfl rfl (by kernel_rfl) (by kernel_rfl) (by kernel_rfl) (fun _ _ _ h => h) (v := ?_) (by kernel_rfl) ?_ (by assumption) ?_; rotate_left; (focus (intro wS hSw; (have q1_5 := (hSw.cell (p := ⟨g1, 5, none⟩) lg1 id).trans x1_5); (have q1_6 := (hSw.cell (p := ⟨g1, 6, none⟩) lg1 id).trans x1_6); (have q1_7 := (hSw.cell (p := ⟨g1, 7, none⟩) lg1 id).trans x1_7); (have q1_8 := (hSw.cell (p := ⟨g1, 8, none⟩) lg1 id).trans x1_8); (have q1_9 := (hSw.cell (p := ⟨g1, 9, none⟩) lg1 id).trans x1_9); go_simp; try with_reducible rfl)); (try simp only [Act.put, List.setIfInBounds_toArray, List.set_cons_zero, List.set_cons_succ]))
        (refine take_at 8 (some 13) rfl rfl (by kernel_rfl) (by kernel_rfl) (by kernel_rfl) (fun _ _ _ h => h) (v := ?_) (by kernel_rfl) ?_ (by assumption) ?_; rotate_left; (focus (intro wS hSw; skip; go_simp; try with_reducible rfl)); (try simp only [Act.put, List.setIfInBounds_toArray, List.set_cons_zero, List.set_cons_succ]))
        (refine take_at 9 (some 14) rfl rfl (by kernel_rfl) (by kernel_rfl) (by kernel_rfl) (fun _ _ _ h => h) (v := ?_) (by kernel_rfl) ?_ (by assumption) ?_; rotate_left; (focus (intro wS hSw; (have q2_5 := (hSw.cell (p := ⟨g2, 5, none⟩) lg2 id).trans x2_5); (have q2_6 := (hSw.cell (p := ⟨g2, 6, none⟩) lg2 id).trans x2_6); (have q2_7 := (hSw.cell (p := ⟨g2, 7, none⟩) lg2 id).trans x2_7); (have q2_8 := (hSw.cell (p := ⟨g2, 8, none⟩) lg2 id).trans x2_8); (have q2_9 := (hSw.cell (p := ⟨g2, 9, none⟩) lg2 id).trans x2_9); go_simp; try with_reducible rfl)); (try simp only [Act.put, List.setIfInBounds_toArray, List.set_cons_zero, List.set_cons_succ]))
        (refine take_at 10 (some 15) rfl rfl (by kernel_rfl) (by kernel_rfl) (by kernel_rfl) (fun _ _ _ h => h) (v := ?_) (by kernel_rfl) ?_ (by assumption) ?_; rotate_left; (focus (intro wS hSw; skip; go_simp; try with_reducible rfl)); (try simp only [Act.put, List.setIfInBounds_toArray, List.set_cons_zero, List.set_cons_succ]))
        (refine take_at 11 (some 16) rfl rfl (by kernel_rfl) (by kernel_rfl) (by kernel_rfl) (fun _ _ _ h => h) (v := ?_) (by kernel_rfl) ?_ (by assumption) ?_; rotate_left; (focus (intro wS hSw; skip; go_simp; try with_reducible rfl)); (try simp only [Act.put, List.setIfInBounds_toArray, List.set_cons_zero, List.set_cons_succ]))
        (refine take_at 12 (some 17) rfl rfl (by kernel_rfl) (by kernel_rfl) (by kernel_rfl) (fun _ _ _ h => h) (v := ?_) (by kernel_rfl) ?_ (by assumption) ?_; rotate_left; (focus (intro wS hSw; skip; go_simp; try with_reducible rfl)); (try simp only [Act.put, List.setIfInBounds_toArray, List.set_cons_zero, List.set_cons_succ]))
        (refine take_at 13 (some 18) rfl rfl (by kernel_rfl) (by kernel_rfl) (by kernel_rfl) (fun _ _ _ h => h) (v := ?_) (by kernel_rfl) ?_ (by assumption) ?_; rotate_left; (focus (intro wS hSw; skip; go_simp; try with_reducible rfl)); (try simp only [Act.put, List.setIfInBounds_toArray, List.set_cons_zero, List.set_cons_succ]))
        (refine take_at 14 (some 19) rfl rfl (by kernel_rfl) (by kernel_rfl) (by kernel_rfl) (fun _ _ _ h => h) (v := ?_) (by kernel_rfl) ?_ (by assumption) ?_; rotate_left; (focus (intro wS hSw; (have q1_10 := (hSw.cell (p := ⟨g1, 10, none⟩) lg1 id).trans x1_10); go_simp; try with_reducible rfl)); (try simp only [Act.put, List.setIfInBounds_toArray, List.set_cons_zero, List.set_cons_succ]))
        (refine take_at 15 (some 20) rfl rfl (by kernel_rfl) (by kernel_rfl) (by kernel_rfl) (fun _ _ _ h => h) (v := ?_) (by kernel_rfl) ?_ (by assumption) ?_; rotate_left; (focus (intro wS hSw; skip; go_simp; try with_reducible rfl)); (try simp only [Act.put, List.setIfInBounds_toArray, List.set_cons_zero, List.set_cons_succ]))
        (refine take_at 16 (some 21) rfl rfl (by kernel_rfl) (by kernel_rfl) (by kernel_rfl) (fun _ _ _ h => h) (v := ?_) (by kernel_rfl) ?_ (by assumption) ?_; rotate_left; (focus (intro wS hSw; (have q2_10 := (hSw.cell (p := ⟨g2, 10, none⟩) lg2 id).trans x2_10); go_simp; try with_reducible rfl)); (try simp only [Act.put, List.setIfInBounds_toArray, List.set_cons_zero, List.set_cons_succ]))
        (refine take_at 17 (some 22) rfl rfl (by kernel_rfl) (by kernel_rfl) (by kernel_rfl) (fun _ _ _ h => h) (v := ?_) (by kernel_rfl) ?_ (by assumption) ?_; rotate_left; (focus (intro wS hSw; skip; go_simp; try with_reducible rfl)); (try simp only [Act.put, List.setIfInBounds_toArray, List.set_cons_zero, List.set_cons_succ]))
        (refine take_at 18 (some 23) rfl rfl (by kernel_rfl) (by kernel_rfl) (by kernel_rfl) (fun _ _ _ h => h) (v := ?_) (by kernel_rfl) ?_ (by assumption) ?_; rotate_left; (focus (intro wS hSw; skip; go_simp; try with_reducible rfl)); (try simp only [Act.put, List.setIfInBounds_toArray, List.set_cons_zero, List.set_cons_succ]))
        (refine take_at 19 (some 24) rfl rfl (by kernel_rfl) (by kernel_rfl) (by kernel_rfl) (fun _ _ _ h => h) (v := ?_) (by kernel_rfl) ?_ (by assumption) ?_; rotate_left; (focus (intro wS hSw; (have q1_11 := (hSw.cell (p := ⟨g1, 11, none⟩) lg1 id).trans x1_11); go_simp; try with_reducible rfl)); (try simp only [Act.put, List.setIfInBounds_toArray, List.set_cons_zero, List.set_cons_succ]))
        (refine take_at 20 (some 25) rfl rfl (by kernel_rfl) (by kernel_rfl) (by kernel_rfl) (fun _ _ _ h => h) (v := ?_) (by kernel_rfl) ?_ (by assumption) ?_; rotate_left; (focus (intro wS hSw; skip; go_simp; try with_reducible rfl)); (try simp only [Act.put, List.setIfInBounds_toArray, List.set_cons_zero, List.set_cons_succ]))
        (refine take_at 21 (some 26) rfl rfl (by kernel_rfl) (by kernel_rfl) (by kernel_rfl) (fun _ _ _ h => h) (v := ?_) (by kernel_rfl) ?_ (by assumption) ?_; rotate_left; (focus (intro wS hSw; (have q2_11 := (hSw.cell (p := ⟨g2, 11, none⟩) lg2 id).trans x2_11); go_simp; try with_reducible rfl)); (try simp only [Act.put, List.setIfInBounds_toArray, List.set_cons_zero, List.set_cons_succ]))
        refine wpAnyH_ready (rs := [22]) (by kernel_rfl) (by simp) ?_
        refine AllReadyH.cons rfl (fun K hK => ?_) AllReadyH.nil
        go_simp
        go_at_call 52
        refine (Kc.out _).mono ?_
        rintro e u1 ⟨rfl, hp⟩
        have hn1 : NoW w0 u1 := Fp.trans hHeld hp (fun _ _ h => h)
        skip
        clear hp hHeld
        refine hK.out _ _ hn1 (fun hHeld => ?_)
        clear hK K
        try simp only [Act.put, List.setIfInBounds_toArray, List.set_cons_zero, List.set_cons_succ]
        refine wpAnyH_ready (rs := [23]) (by kernel_rfl) (by simp) ?_
        refine AllReadyH.cons rfl (fun K hK => ?_) AllReadyH.nil
        go_simp
        have hub := heap_alloc_new u1 (.cells #[.int .i64 d, .int .i64 cm] 3)
        refine hK.out _ _ (hHeld.alloc _) (fun hHeld2 => ?_)
        clear hK K hHeld
        try simp only [Act.put, List.setIfInBounds_toArray, List.set_cons_zero, List.set_cons_succ]
        have hHeld := hHeld2
        clear hHeld2
        generalize u1.alloc (.cells #[.int .i64 d, .int .i64 cm] 3) = uz at *
        generalize u1.heap.size = gu at *
        have Ko := Lib.hid (fun (W : World) (h : W.heap[gu]? = some (.cells #[.int .i64 d, .int .i64 cm] 3)) => (show Calls Tryd.prog 51 #[.slice (some ⟨gu, 0, none⟩) 2 2] W (Ret1 (.int .i64 (if d ≠ 0 then d else cm)) W) from (or_ok gu (fun j => if j = 0 then d else cm) W (fun j hj => by have hj2 : j = 0 ∨ j = 1 := (by omega); rcases hj2 with rfl | rfl <;> simp [World.cell?, h])).mono fun e w' ⟨h1, h2⟩ => ⟨h1, by rw [h2]; exact Fp.refl _ _⟩))
        have hor := Hor.out
        generalize (if d ≠ 0 then d else cm) = orv at *
        refine wpAnyH_ready (rs := [24]) (by kernel_rfl) (by simp) ?_
        refine AllReadyH.cons rfl (fun K hK => ?_) AllReadyH.nil
        go_simp
        go_at_call 51
        refine (Ko.out _ hub).mono ?_
        rintro e u2 ⟨rfl, hp⟩
        have hn2 : NoW w0 u2 := Fp.trans hHeld hp (fun _ _ h => h)
        skip
        clear hp hHeld hn1
        refine hK.out _ _ hn2 (fun hHeld => ?_)
        clear hK K
        try simp only [Act.put, List.setIfInBounds_toArray, List.set_cons_zero, List.set_cons_succ]
        clear hub Ko
        (refine take_at 25 (some 30) rfl rfl (by kernel_rfl) (by kernel_rfl) (by kernel_rfl) (fun _ _ _ h => h) (v := ?_) (by kernel_rfl) ?_ (by assumption) ?_; rotate_left; (focus (intro wS hSw; skip; go_simp; try with_reducible rfl)); (try simp only [Act.put, List.setIfInBounds_toArray, List.set_cons_zero, List.set_cons_succ]))
        (refine take_at 26 (some 31) rfl rfl (by kernel_rfl) (by kernel_rfl) (by kernel_rfl) (fun _ _ _ h => h) (v := ?_) (by kernel_rfl) ?_ (by assumption) ?_; rotate_left; (focus (intro wS hSw; skip; go_simp; try with_reducible rfl)); (try simp only [Act.put, List.setIfInBounds_toArray, List.set_cons_zero, List.set_cons_succ]))
        (refine take_at 27 (some 32) rfl rfl (by kernel_rfl) (by kernel_rfl) (by kernel_rfl) (fun _ _ _ h => h) (v := ?_) (by kernel_rfl) ?_ (by assumption) ?_; rotate_left; (focus (intro wS hSw; skip; go_simp; try with_reducible rfl)); (try simp only [Act.put, List.setIfInBounds_toArray, List.set_cons_zero, List.set_cons_succ]))
        (refine take_at 28 (some 33) rfl rfl (by kernel_rfl) (by kernel_rfl) (by kernel_rfl) (fun _ _ _ h => h) (v := ?_) (by kernel_rfl) ?_ (by assumption) ?_; rotate_left; (focus (intro wS hSw; skip; go_simp; try with_reducible rfl)); (try simp only [Act.put, List.setIfInBounds_toArray, List.set_cons_zero, List.set_cons_succ]))
        (refine take_at 29 (some 34) rfl rfl (by kernel_rfl) (by kernel_rfl) (by kernel_rfl) (fun _ _ _ h => h) (v := ?_) (by kernel_rfl) ?_ (by assumption) ?_; rotate_left; (focus (intro wS hSw; (have q1_12 := (hSw.cell (p := ⟨g1, 12, none⟩) lg1 id).trans x1_12); go_simp; try with_reducible rfl)); (try simp only [Act.put, List.setIfInBounds_toArray, List.set_cons_zero, List.set_cons_succ]))
        (refine take_at 30 (some 35) rfl rfl (by kernel_rfl) (by kernel_rfl) (by kernel_rfl) (fun _ _ _ h => h) (v := ?_) (by kernel_rfl) ?_ (by assumption) ?_; rotate_left; (focus (intro wS hSw; skip; go_simp; try with_reducible rfl)); (try simp only [Act.put, List.setIfInBounds_toArray, List.set_cons_zero, List.set_cons_succ]))
        (refine take_at 31 (some 36) rfl rfl (by kernel_rfl) (by kernel_rfl) (by kernel_rfl) (fun _ _ _ h => h) (v := ?_) (by kernel_rfl) ?_ (by assumption) ?_; rotate_left; (focus (intro wS hSw; (have q2_12 := (hSw.cell (p := ⟨g2, 12, none⟩) lg2 id).trans x2_12); go_simp; try with_reducible rfl)); (try simp only [Act.put, List.setIfInBounds_toArray, List.set_cons_zero, List.set_cons_succ]))
        refine wpAnyH_ready (rs := [32]) (by kernel_rfl) (by simp) ?_
        refine AllReadyH.cons rfl (fun K hK => ?_) AllReadyH.nil
        go_simp
        go_at_call 53
        refine (Kq.out _ (Hw0.out.trans hHeld (fun _ _ h => h))).mono ?_
        rintro e u3 ⟨rfl, hp⟩
        have hn3 : NoW w0 u3 := Fp.trans hHeld hp (fun _ _ h => h)
        skip
        clear hp hHeld hn2
        refine hK.out _ _ hn3 (fun hHeld => ?_)
        clear hK K
        try simp only [Act.put, List.setIfInBounds_toArray, List.set_cons_zero, List.set_cons_succ]
        (refine take_at 33 (some 38) rfl rfl (by kernel_rfl) (by kernel_rfl) (by kernel_rfl) (fun _ _ _ h => h) (v := ?_) (by kernel_rfl) ?_ (by assumption) ?_; rotate_left; (focus (intro wS hSw; skip; go_simp; try with_reducible rfl)); (try simp only [Act.put, List.setIfInBounds_toArray, List.set_cons_zero, List.set_cons_succ]))
        (refine take_at 34 (some 4) rfl rfl (by kernel_rfl) (by kernel_rfl) (by kernel_rfl) (fun _ _ _ h => h) (v := ?_) (by kernel_rfl) ?_ (by assumption) ?_; rotate_left; (focus (intro wS hSw; skip; go_simp; try with_reducible rfl)); (try simp only [Act.put, List.setIfInBounds_toArray, List.set_cons_zero, List.set_cons_succ]))
        refine wpAnyH_done (by kernel_rfl) ?_ _
        have Hf2 := Lib.hid (Hw0.out.trans hHeld (fun _ _ h => h))
        go_wp2_with fail
        go_ret
        exact ⟨rfl, Hf2.out⟩

end Go.Proofs.YtdmbjndhdldggaaDoor
