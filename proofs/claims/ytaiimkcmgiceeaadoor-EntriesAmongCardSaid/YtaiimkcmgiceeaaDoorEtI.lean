/- Same, of the program and of the document (written by gensame.py). -/
import Derived.Test.YtaiimkcmgiceeaaDoorEtH
namespace Go.Proofs.YtaiimkcmgiceeaaDoor
set_option linter.unusedVariables false
set_option linter.unusedSimpArgs false
open Go.RowKit Go.Lib Go.Sort
/-- Are the holds the same? -/
def eqAt (oa op ia ip oa2 op2 ia2 ip2 : Nat → Nat) (i : Nat) : Prop := oa i = oa2 i ∧ op i = op2 i ∧ ia i = ia2 i ∧ ip i = ip2 i
instance (oa op ia ip oa2 op2 ia2 ip2 : Nat → Nat) (i : Nat) : Decidable (eqAt oa op ia ip oa2 op2 ia2 ip2 i) := by unfold eqAt; infer_instance
def eqHolds (n n2 : Nat) (oa op ia ip oa2 op2 ia2 ip2 : Nat → Nat) : Bool := decide (n = n2) && (List.range n).all fun i => decide (eqAt oa op ia ip oa2 op2 ia2 ip2 i)
theorem eqHolds_no {n : Nat} {oa op ia ip oa2 op2 ia2 ip2 : Nat → Nat} {k : Nat} (hk : k < n) (h : ¬ eqAt oa op ia ip oa2 op2 ia2 ip2 k) : eqHolds n n oa op ia ip oa2 op2 ia2 ip2 = false := by
  rw [eqHolds, Bool.and_eq_false_iff]
  refine .inr ?_
  rw [List.all_eq_false]
  exact ⟨k, List.mem_range.2 hk, by simpa using h⟩
theorem eqHolds_yes {n : Nat} {oa op ia ip oa2 op2 ia2 ip2 : Nat → Nat} (h : ∀ k, k < n → eqAt oa op ia ip oa2 op2 ia2 ip2 k) : eqHolds n n oa op ia ip oa2 op2 ia2 ip2 = true := by
  rw [eqHolds, Bool.and_eq_true]
  refine ⟨by simp, ?_⟩
  rw [List.all_eq_true]
  intro k hk
  exact decide_eq_true (h k (List.mem_range.1 hk))

theorem hold_neq (a p b q a2 p2 b2 q2 : Nat) (W : World) : (binOp .neq 49 (.agg #[.int .u32 a, .int .u16 p, .int .u32 b, .int .u16 q]) (.agg #[.int .u32 a2, .int .u16 p2, .int .u32 b2, .int .u16 q2])).run Tryd.prog W = .ok (.bool (!decide (a = a2 ∧ p = p2 ∧ b = b2 ∧ q = q2))) W := by
  have beq : ∀ x y : Nat, x ≠ y → ((x : Int) == (y : Int)) = false := fun x y h => beq_eq_false_iff_ne.2 (by omega)
  by_cases h2 : a = a2
  · subst h2
    by_cases h3 : p = p2
    · subst h3
      by_cases h4 : b = b2
      · subst h4
        by_cases h5 : q = q2
        · subst h5; simp only [and_self, decide_true, Bool.not_true]; go_simp
        · have e := beq _ _ h5
          rw [decide_eq_false (by simp [h5])]; go_simp
      · have e := beq _ _ h4
        rw [decide_eq_false (by simp [h4])]; go_simp
    · have e := beq _ _ h3
      rw [decide_eq_false (by simp [h3])]; go_simp
  · have e := beq _ _ h2
    rw [decide_eq_false (by simp [h2])]; go_simp

theorem rhold_neq (a p b q a2 p2 b2 q2 : Nat) (W : World) : (binOp .neq 72 (.agg #[.int .u32 a, .int .u16 p, .int .u32 b, .int .u16 q]) (.agg #[.int .u32 a2, .int .u16 p2, .int .u32 b2, .int .u16 q2])).run Tryd.prog W = .ok (.bool (!decide (a = a2 ∧ p = p2 ∧ b = b2 ∧ q = q2))) W := by
  have beq : ∀ x y : Nat, x ≠ y → ((x : Int) == (y : Int)) = false := fun x y h => beq_eq_false_iff_ne.2 (by omega)
  by_cases h2 : a = a2
  · subst h2
    by_cases h3 : p = p2
    · subst h3
      by_cases h4 : b = b2
      · subst h4
        by_cases h5 : q = q2
        · subst h5; simp only [and_self, decide_true, Bool.not_true]; go_simp
        · have e := beq _ _ h5
          rw [decide_eq_false (by simp [h5])]; go_simp
      · have e := beq _ _ h4
        rw [decide_eq_false (by simp [h4])]; go_simp
    · have e := beq _ _ h3
      rw [decide_eq_false (by simp [h3])]; go_simp
  · have e := beq _ _ h2
    rw [decide_eq_false (by simp [h2])]; go_simp

end Go.Proofs.YtaiimkcmgiceeaaDoor
