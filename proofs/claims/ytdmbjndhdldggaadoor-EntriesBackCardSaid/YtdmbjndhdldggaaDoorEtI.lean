/- Same, of the program and of the document (written by gensame.py). -/
import Derived.Test.YtdmbjndhdldggaaDoorEtH
namespace Go.Proofs.YtdmbjndhdldggaaDoor
set_option linter.unusedVariables false
set_option linter.unusedSimpArgs false
open Go.RowKit Go.Lib Go.Sort
set_option maxHeartbeats 1000000 in
theorem or_ok (g : Nat) (z : Nat → Int) (w : World) (hc : ∀ j, j < 2 → w.cell? ⟨g, j, none⟩ = some (.int .i64 (z j))) :
    Calls Tryd.prog 51 #[.slice (some ⟨g, 0, none⟩) 2 2] w fun e w' => e = .returned (.int .i64 (if z 0 ≠ 0 then z 0 else z 1)) ∧ w' = w := by
  have Hc := Lib.hid hc
  clear hc
  obtain ⟨res, hres⟩ : ∃ res, res = (if z 0 ≠ 0 then z 0 else z 1) := ⟨_, rfl⟩
  rw [← hres]
  have Hres := Lib.hid hres
  clear hres
  go_enter Tryd.func51, Tryd.ntmps51
  go_wp2_with fail
  go_loopg [8] 3 (fun gg iv wx => ∃ (k : Nat), k ≤ 2 ∧ gg = 3 - k ∧ iv = .int .i64 (k : Int) ∧ wx = w ∧ ∀ j, j < k → z j = 0)
  case atStart => exact ⟨0, by omega, by omega, rfl, rfl, fun j hj => by omega⟩
  case round =>
    obtain ⟨k, hk, hg, rfl, rfl, hz⟩ := hrel
    have Hg := Lib.hid hg
    have Hz := Lib.hid hz
    clear hg hz
    by_cases hlt : k < 2
    · have c0 := Hc.out k hlt
      obtain ⟨zk, hzk⟩ : ∃ zk, zk = z k := ⟨_, rfl⟩
      rw [← hzk] at c0
      have Hzk := Lib.hid hzk
      clear hzk
      by_cases h0 : zk = 0
      · subst h0
        go_wp2_with fail
        go_roundg (2 - k)
        case measure => have := Hg.out; omega
        case rel => exact ⟨k + 1, by omega, by omega, by go_num, rfl, fun j hj => by
            by_cases e : j = k
            · rw [e]; exact Hzk.out.symm
            · exact Hz.out j (by omega)⟩
      · have h1 : (zk != 0) = true := by simpa using h0
        have hr : res = zk := by
          rw [Hres.out, Hzk.out]
          have hk2 : k = 0 ∨ k = 1 := by omega
          rcases hk2 with rfl | rfl
          · rw [if_pos (by rw [← Hzk.out]; exact h0)]
          · rw [if_neg (by have := Hz.out 0 (by omega); simp [this])]
        have HR := Lib.hid hr
        clear h0 hr
        go_wp2_with fail
        go_ret
        exact ⟨by rw [HR.out]; rfl, rfl⟩
    · obtain rfl : k = 2 := by omega
      have hr : res = 0 := by
        rw [Hres.out, Hz.out 0 (by omega), Hz.out 1 (by omega)]; rfl
      have HR := Lib.hid hr
      clear hr
      go_wp2_with fail
      go_ret
      exact ⟨by rw [HR.out]; rfl, rfl⟩

/-- Are the holds the same? -/
def eqAt (oa op ia ip oa2 op2 ia2 ip2 : Nat → Nat) (i : Nat) : Prop := oa i = oa2 i ∧ op i = op2 i ∧ ia i = ia2 i ∧ ip i = ip2 i
instance (oa op ia ip oa2 op2 ia2 ip2 : Nat → Nat) (i : Nat) : Decidable (eqAt oa op ia ip oa2 op2 ia2 ip2 i) := by unfold eqAt; infer_instance
def eqHolds (n n2 : Nat) (oa op ia ip oa2 op2 ia2 ip2 : Nat → Nat) : Bool := decide (n = n2) && (List.range n).all fun i => decide (eqAt oa op ia ip oa2 op2 ia2 ip2 i)
theorem eqHolds_no {n : Nat} {oa op ia ip oa2 op2 ia2 ip2 : Nat → Nat} {k : Nat} (hk : k < n) (h : ¬ eqAt oa op ia ip oa2 op2 ia2 ip2 k) : eqHolds n n oa op ia ip oa2 op2 ia2 ip2 = false := by
  rw [eqHolds, Bool.and_eq_false_iff]
  refine .inr ?_
  rw [List.all_eq_false]
  exact ⟨k, List.mem_range.2 hk, by simpa using h⟩
theorem eqHolds_yes {n : Nat} {oa op ia ip oa2 op2 ia2 ip2 : Nat → Nat} (h : ∀ k, k < n → eqAt oa op ia ip oa2 op2 ia2 ip2 k) : eqHolds n n oa op ia ip oa2 op2 ia2 ip2 = true := by
  rw [eqHolds, Bool.and_eq_true]
  refine ⟨by simp, ?_⟩
  rw [List.all_eq_true]
  intro k hk
  exact decide_eq_true (h k (List.mem_range.1 hk))

theorem hold_neq (a p b q a2 p2 b2 q2 : Nat) (W : World) : (binOp .neq 74 (.agg #[.int .u32 a, .int .u16 p, .int .u32 b, .int .u16 q]) (.agg #[.int .u32 a2, .int .u16 p2, .int .u32 b2, .int .u16 q2])).run Tryd.prog W = .ok (.bool (!decide (a = a2 ∧ p = p2 ∧ b = b2 ∧ q = q2))) W := by
  have beq : ∀ x y : Nat, x ≠ y → ((x : Int) == (y : Int)) = false := fun x y h => beq_eq_false_iff_ne.2 (by omega)
  by_cases h2 : a = a2
  · subst h2
    by_cases h3 : p = p2
    · subst h3
      by_cases h4 : b = b2
      · subst h4
        by_cases h5 : q = q2
        · subst h5; simp only [and_self, decide_true, Bool.not_true]; go_simp
        · have e := beq _ _ h5
          rw [decide_eq_false (by simp [h5])]; go_simp
      · have e := beq _ _ h4
        rw [decide_eq_false (by simp [h4])]; go_simp
    · have e := beq _ _ h3
      rw [decide_eq_false (by simp [h3])]; go_simp
  · have e := beq _ _ h2
    rw [decide_eq_false (by simp [h2])]; go_simp

theorem rhold_neq (a p b q a2 p2 b2 q2 : Nat) (W : World) : (binOp .neq 82 (.agg #[.int .u32 a, .int .u16 p, .int .u32 b, .int .u16 q]) (.agg #[.int .u32 a2, .int .u16 p2, .int .u32 b2, .int .u16 q2])).run Tryd.prog W = .ok (.bool (!decide (a = a2 ∧ p = p2 ∧ b = b2 ∧ q = q2))) W := by
  have beq : ∀ x y : Nat, x ≠ y → ((x : Int) == (y : Int)) = false := fun x y h => beq_eq_false_iff_ne.2 (by omega)
  by_cases h2 : a = a2
  · subst h2
    by_cases h3 : p = p2
    · subst h3
      by_cases h4 : b = b2
      · subst h4
        by_cases h5 : q = q2
        · subst h5; simp only [and_self, decide_true, Bool.not_true]; go_simp
        · have e := beq _ _ h5
          rw [decide_eq_false (by simp [h5])]; go_simp
      · have e := beq _ _ h4
        rw [decide_eq_false (by simp [h4])]; go_simp
    · have e := beq _ _ h3
      rw [decide_eq_false (by simp [h3])]; go_simp
  · have e := beq _ _ h2
    rw [decide_eq_false (by simp [h2])]; go_simp

set_option maxHeartbeats 2000000 in
theorem equal_ok (ad ad2 : Option Addr) (n c n2 c2 : Nat) (oa op ia ip oa2 op2 ia2 ip2 : Nat → Nat) (hn : n ≤ 100) (w : World) (hh1 : HoldsIn w ad n (holdsV oa op ia ip n)) (hh2 : HoldsIn w ad2 n2 (holdsV oa2 op2 ia2 ip2 n2)) :
    Calls Tryd.prog 53 #[.slice ad n c, .slice ad2 n2 c2] w (Ret1 (.bool (eqHolds n n2 oa op ia ip oa2 op2 ia2 ip2)) w) := by
  by_cases hnn : n = n2
  · subst hnn
    have Hh1 := Lib.hid hh1
    have Hh2 := Lib.hid hh2
    clear hh1 hh2
    go_enter Tryd.func53, Tryd.ntmps53
    go_wp2_with fail
    go_loopg [13] (n + 1) (fun gg iv wx => ∃ (k : Nat), k ≤ n ∧ gg = n + 1 - k ∧ iv = .int .i64 (k : Int) ∧ NoW w wx ∧ ∀ j, j < k → eqAt oa op ia ip oa2 op2 ia2 ip2 j)
    case atStart => exact ⟨0, by omega, by omega, rfl, Fp.refl _ _, fun j hj => by omega⟩
    case round =>
      obtain ⟨k, hk, hg, rfl, hf, hno⟩ := hrel
      have Hg := Lib.hid hg
      have Hf := Lib.hid hf
      have Hno := Lib.hid hno
      clear hg hf hno
      by_cases hlt : k < n
      · obtain ⟨hb1, ho1, rfl, hh1⟩ := Hh1.out (by omega)
        obtain ⟨hb2, ho2, rfl, hh2⟩ := Hh2.out (by omega)
        have hhr1 := hh1.low Hf.out
        have hhr2 := hh2.low Hf.out
        have h1_0 : wr.cell? ⟨hb1, ho1 + k * 4, none⟩ = some (.int .u32 (oa k)) := hhr1.cell (k * 4 + 0) _ (holdsV_get oa op ia ip n k 0 hlt (by omega))
        have h1_1 : wr.cell? ⟨hb1, ho1 + k * 4 + 1, none⟩ = some (.int .u16 (op k)) := hhr1.cell (k * 4 + 1) _ (holdsV_get oa op ia ip n k 1 hlt (by omega))
        have h1_2 : wr.cell? ⟨hb1, ho1 + k * 4 + 2, none⟩ = some (.int .u32 (ia k)) := hhr1.cell (k * 4 + 2) _ (holdsV_get oa op ia ip n k 2 hlt (by omega))
        have h1_3 : wr.cell? ⟨hb1, ho1 + k * 4 + 3, none⟩ = some (.int .u16 (ip k)) := hhr1.cell (k * 4 + 3) _ (holdsV_get oa op ia ip n k 3 hlt (by omega))
        have h2_0 : wr.cell? ⟨hb2, ho2 + k * 4, none⟩ = some (.int .u32 (oa2 k)) := hhr2.cell (k * 4 + 0) _ (holdsV_get oa2 op2 ia2 ip2 n k 0 hlt (by omega))
        have h2_1 : wr.cell? ⟨hb2, ho2 + k * 4 + 1, none⟩ = some (.int .u16 (op2 k)) := hhr2.cell (k * 4 + 1) _ (holdsV_get oa2 op2 ia2 ip2 n k 1 hlt (by omega))
        have h2_2 : wr.cell? ⟨hb2, ho2 + k * 4 + 2, none⟩ = some (.int .u32 (ia2 k)) := hhr2.cell (k * 4 + 2) _ (holdsV_get oa2 op2 ia2 ip2 n k 2 hlt (by omega))
        have h2_3 : wr.cell? ⟨hb2, ho2 + k * 4 + 3, none⟩ = some (.int .u16 (ip2 k)) := hhr2.cell (k * 4 + 3) _ (holdsV_get oa2 op2 ia2 ip2 n k 3 hlt (by omega))
        have lhb1 : hb1 < wr.heap.size := hhr1.lt
        have lhb2 : hb2 < wr.heap.size := hhr2.lt
        clear hh1 hh2 hhr1 hhr2
        have hkk : decide ((k : Int) < (n : Int)) = true := decide_eq_true (by omega)
        have hneq := fun W => hold_neq (oa k) (op k) (ia k) (ip k) (oa2 k) (op2 k) (ia2 k) (ip2 k) W
        by_cases heq : eqAt oa op ia ip oa2 op2 ia2 ip2 k
        · rw [show decide (oa k = oa2 k ∧ op k = op2 k ∧ ia k = ia2 k ∧ ip k = ip2 k) = true from decide_eq_true heq] at hneq
          have Heq := Lib.hid heq
          clear heq
          go_wp2_with fail
          refine wp_region_held_drew (S := fun wx => NoW wr wx) (by kernel_rfl) (Fp.drew (Fp.refl _ _)) (fun hHeld => ?_)
          (refine take_at 0 (some 16) rfl rfl (by kernel_rfl) (by kernel_rfl) (by kernel_rfl) (fun _ _ _ h => h) (v := ?_) (by kernel_rfl) ?_ (by assumption) ?_; rotate_left; (focus (intro wS hSw; skip; go_simp; try with_reducible rfl)); (try simp only [Act.put, List.setIfInBounds_toArray, List.set_cons_zero, List.set_cons_succ]))
          (refine take_at 1 (some 17) rfl rfl (by kernel_rfl) (by kernel_rfl) (by kernel_rfl) (fun _ _ _ h => h) (v := ?_) (by kernel_rfl) ?_ (by assumption) ?_; rotate_left; (focus (intro wS hSw; skip; go_simp; try with_reducible rfl)); (try simp only [Act.put, List.setIfInBounds_toArray, List.set_cons_zero, List.set_cons_succ]))
          (refine take_at 2 (some 18) rfl rfl (by kernel_rfl) (by kernel_rfl) (by kernel_rfl) (fun _ _ _ h => h) (v := ?_) (by kernel_rfl) ?_ (by assumption) ?_; rotate_left; (focus (intro wS hSw; skip; go_simp; try with_reducible rfl)); (try simp only [Act.put, List.setIfInBounds_toArray, List.set_cons_zero, List.set_cons_succ]))
          (refine take_at 3 (some 19) rfl rfl (by kernel_rfl) (by kernel_rfl) (by kernel_rfl) (fun _ _ _ h => h) (v := ?_) (by kernel_rfl) ?_ (by assumption) ?_; rotate_left; (focus (intro wS hSw; (have q10 := (hSw.cell (p := ⟨hb1, ho1 + k * 4, none⟩) lhb1 id).trans h1_0); (have q11 := (hSw.cell (p := ⟨hb1, ho1 + k * 4 + 1, none⟩) lhb1 id).trans h1_1); (have q12 := (hSw.cell (p := ⟨hb1, ho1 + k * 4 + 2, none⟩) lhb1 id).trans h1_2); (have q13 := (hSw.cell (p := ⟨hb1, ho1 + k * 4 + 3, none⟩) lhb1 id).trans h1_3); go_simp; try with_reducible rfl)); (try simp only [Act.put, List.setIfInBounds_toArray, List.set_cons_zero, List.set_cons_succ]))
          (refine take_at 4 (some 20) rfl rfl (by kernel_rfl) (by kernel_rfl) (by kernel_rfl) (fun _ _ _ h => h) (v := ?_) (by kernel_rfl) ?_ (by assumption) ?_; rotate_left; (focus (intro wS hSw; skip; go_simp; try with_reducible rfl)); (try simp only [Act.put, List.setIfInBounds_toArray, List.set_cons_zero, List.set_cons_succ]))
          (refine take_at 5 (some 21) rfl rfl (by kernel_rfl) (by kernel_rfl) (by kernel_rfl) (fun _ _ _ h => h) (v := ?_) (by kernel_rfl) ?_ (by assumption) ?_; rotate_left; (focus (intro wS hSw; skip; go_simp; try with_reducible rfl)); (try simp only [Act.put, List.setIfInBounds_toArray, List.set_cons_zero, List.set_cons_succ]))
          (refine take_at 6 (some 22) rfl rfl (by kernel_rfl) (by kernel_rfl) (by kernel_rfl) (fun _ _ _ h => h) (v := ?_) (by kernel_rfl) ?_ (by assumption) ?_; rotate_left; (focus (intro wS hSw; skip; go_simp; try with_reducible rfl)); (try simp only [Act.put, List.setIfInBounds_toArray, List.set_cons_zero, List.set_cons_succ]))
          (refine take_at 7 (some 23) rfl rfl (by kernel_rfl) (by kernel_rfl) (by kernel_rfl) (fun _ _ _ h => h) (v := ?_) (by kernel_rfl) ?_ (by assumption) ?_; rotate_left; (focus (intro wS hSw; (have q20 := (hSw.cell (p := ⟨hb2, ho2 + k * 4, none⟩) lhb2 id).trans h2_0); (have q21 := (hSw.cell (p := ⟨hb2, ho2 + k * 4 + 1, none⟩) lhb2 id).trans h2_1); (have q22 := (hSw.cell (p := ⟨hb2, ho2 + k * 4 + 2, none⟩) lhb2 id).trans h2_2); (have q23 := (hSw.cell (p := ⟨hb2, ho2 + k * 4 + 3, none⟩) lhb2 id).trans h2_3); go_simp; try with_reducible rfl)); (try simp only [Act.put, List.setIfInBounds_toArray, List.set_cons_zero, List.set_cons_succ]))
          (refine take_at 8 (some 24) rfl rfl (by kernel_rfl) (by kernel_rfl) (by kernel_rfl) (fun _ _ _ h => h) (v := ?_) (by kernel_rfl) ?_ (by assumption) ?_; rotate_left; (focus (intro wS hSw; skip; go_simp; try with_reducible rfl)); (try simp only [Act.put, List.setIfInBounds_toArray, List.set_cons_zero, List.set_cons_succ]))
          refine wpAnyH_done (by kernel_rfl) ?_ _
          have Hf2 := Lib.hid (Hf.out.trans hHeld (fun _ _ h => h))
          clear hHeld h1_0 h1_1 h1_2 h1_3 h2_0 h2_1 h2_2 h2_3
          go_wp2_with fail
          go_roundg (n - k)
          case measure => have := Hg.out; omega
          case rel => exact ⟨k + 1, by omega, by omega, by go_num, Hf2.out, fun j hj => by
              by_cases e : j = k
              · rw [e]; exact Heq.out
              · exact Hno.out j (by omega)⟩
        · rw [show decide (oa k = oa2 k ∧ op k = op2 k ∧ ia k = ia2 k ∧ ip k = ip2 k) = false from decide_eq_false heq] at hneq
          have HE := Lib.hid (eqHolds_no hlt heq)
          clear heq
          go_wp2_with fail
          refine wp_region_held_drew (S := fun wx => NoW wr wx) (by kernel_rfl) (Fp.drew (Fp.refl _ _)) (fun hHeld => ?_)
          (refine take_at 0 (some 16) rfl rfl (by kernel_rfl) (by kernel_rfl) (by kernel_rfl) (fun _ _ _ h => h) (v := ?_) (by kernel_rfl) ?_ (by assumption) ?_; rotate_left; (focus (intro wS hSw; skip; go_simp; try with_reducible rfl)); (try simp only [Act.put, List.setIfInBounds_toArray, List.set_cons_zero, List.set_cons_succ]))
          (refine take_at 1 (some 17) rfl rfl (by kernel_rfl) (by kernel_rfl) (by kernel_rfl) (fun _ _ _ h => h) (v := ?_) (by kernel_rfl) ?_ (by assumption) ?_; rotate_left; (focus (intro wS hSw; skip; go_simp; try with_reducible rfl)); (try simp only [Act.put, List.setIfInBounds_toArray, List.set_cons_zero, List.set_cons_succ]))
          (refine take_at 2 (some 18) rfl rfl (by kernel_rfl) (by kernel_rfl) (by kernel_rfl) (fun _ _ _ h => h) (v := ?_) (by kernel_rfl) ?_ (by assumption) ?_; rotate_left; (focus (intro wS hSw; skip; go_simp; try with_reducible rfl)); (try simp only [Act.put, List.setIfInBounds_toArray, List.set_cons_zero, List.set_cons_succ]))
          (refine take_at 3 (some 19) rfl rfl (by kernel_rfl) (by kernel_rfl) (by kernel_rfl) (fun _ _ _ h => h) (v := ?_) (by kernel_rfl) ?_ (by assumption) ?_; rotate_left; (focus (intro wS hSw; (have q10 := (hSw.cell (p := ⟨hb1, ho1 + k * 4, none⟩) lhb1 id).trans h1_0); (have q11 := (hSw.cell (p := ⟨hb1, ho1 + k * 4 + 1, none⟩) lhb1 id).trans h1_1); (have q12 := (hSw.cell (p := ⟨hb1, ho1 + k * 4 + 2, none⟩) lhb1 id).trans h1_2); (have q13 := (hSw.cell (p := ⟨hb1, ho1 + k * 4 + 3, none⟩) lhb1 id).trans h1_3); go_simp; try with_reducible rfl)); (try simp only [Act.put, List.setIfInBounds_toArray, List.set_cons_zero, List.set_cons_succ]))
          (refine take_at 4 (some 20) rfl rfl (by kernel_rfl) (by kernel_rfl) (by kernel_rfl) (fun _ _ _ h => h) (v := ?_) (by kernel_rfl) ?_ (by assumption) ?_; rotate_left; (focus (intro wS hSw; skip; go_simp; try with_reducible rfl)); (try simp only [Act.put, List.setIfInBounds_toArray, List.set_cons_zero, List.set_cons_succ]))
          (refine take_at 5 (some 21) rfl rfl (by kernel_rfl) (by kernel_rfl) (by kernel_rfl) (fun _ _ _ h => h) (v := ?_) (by kernel_rfl) ?_ (by assumption) ?_; rotate_left; (focus (intro wS hSw; skip; go_simp; try with_reducible rfl)); (try simp only [Act.put, List.setIfInBounds_toArray, List.set_cons_zero, List.set_cons_succ]))
          (refine take_at 6 (some 22) rfl rfl (by kernel_rfl) (by kernel_rfl) (by kernel_rfl) (fun _ _ _ h => h) (v := ?_) (by kernel_rfl) ?_ (by assumption) ?_; rotate_left; (focus (intro wS hSw; skip; go_simp; try with_reducible rfl)); (try simp only [Act.put, List.setIfInBounds_toArray, List.set_cons_zero, List.set_cons_succ]))
          (refine take_at 7 (some 23) rfl rfl (by kernel_rfl) (by kernel_rfl) (by kernel_rfl) (fun _ _ _ h => h) (v := ?_) (by kernel_rfl) ?_ (by assumption) ?_; rotate_left; (focus (intro wS hSw; (have q20 := (hSw.cell (p := ⟨hb2, ho2 + k * 4, none⟩) lhb2 id).trans h2_0); (have q21 := (hSw.cell (p := ⟨hb2, ho2 + k * 4 + 1, none⟩) lhb2 id).trans h2_1); (have q22 := (hSw.cell (p := ⟨hb2, ho2 + k * 4 + 2, none⟩) lhb2 id).trans h2_2); (have q23 := (hSw.cell (p := ⟨hb2, ho2 + k * 4 + 3, none⟩) lhb2 id).trans h2_3); go_simp; try with_reducible rfl)); (try simp only [Act.put, List.setIfInBounds_toArray, List.set_cons_zero, List.set_cons_succ]))
          (refine take_at 8 (some 24) rfl rfl (by kernel_rfl) (by kernel_rfl) (by kernel_rfl) (fun _ _ _ h => h) (v := ?_) (by kernel_rfl) ?_ (by assumption) ?_; rotate_left; (focus (intro wS hSw; skip; go_simp; try with_reducible rfl)); (try simp only [Act.put, List.setIfInBounds_toArray, List.set_cons_zero, List.set_cons_succ]))
          refine wpAnyH_done (by kernel_rfl) ?_ _
          have Hf2 := Lib.hid (Hf.out.trans hHeld (fun _ _ h => h))
          clear hHeld
          go_wp2_with fail
          go_ret
          exact ⟨by rw [HE.out]; rfl, Hf2.out⟩

      · obtain rfl : k = n := by omega
        have HE := Lib.hid (eqHolds_yes Hno.out)
        go_wp2_with fail
        go_ret
        exact ⟨by rw [HE.out]; rfl, Hf.out⟩
  · have e : eqHolds n n2 oa op ia ip oa2 op2 ia2 ip2 = false := by simp [eqHolds, hnn]
    rw [e]
    have e2 : ((n : Int) != (n2 : Int)) = true := by simp; omega
    clear e hnn hh1 hh2
    go_enter Tryd.func53, Tryd.ntmps53
    go_wp2_with fail
    go_ret
    exact ⟨rfl, Fp.refl _ _⟩
end Go.Proofs.YtdmbjndhdldggaaDoor
