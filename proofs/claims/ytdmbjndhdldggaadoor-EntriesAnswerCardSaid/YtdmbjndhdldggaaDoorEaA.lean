/- Chapter 18: EntriesAnswer, any entry. -/
import Derived.Test.YtdmbjndhdldggaaDoorEaW
namespace Go.Proofs.YtdmbjndhdldggaaDoor
set_option linter.unusedVariables false
set_option linter.unusedSimpArgs false
open Go.RowKit Go.Lib Go.Sort
theorem walk_EntriesAnswer (w : World) (ht : Tb w) (v0 v1 : Value) (g0 : Good Tryd.prog w 31 v0) (g1 : Good Tryd.prog w 4 v1) : Calls Tryd.prog 3 #[v0, v1] w (Ret1 (.bool true) w) := by
  obtain ⟨r, a, p, b, q, r2, a2, p2, b2, q2, st, dl, ad, n, c, oa, op, ia, ip, rfl, _, _, _, _, hh⟩ := ent_open g0
  obtain ⟨bk, rfl⟩ := good_bool Tryd.underlying4 g1
  have hcm : n ≤ maxLen := Nat.le_trans hh.nc hh.cm
  rcases hL : longB 1 (fun _ => n) 1 with _ | _
  · have e1 := fun W => tup_eq2 r a p b q r2 a2 p2 b2 q2 W
    rcases hs : decide (r = r2 ∧ a = a2 ∧ p = p2 ∧ b = b2 ∧ q = q2) with _ | _
    · rw [hs] at e1
      by_cases hr : r = r2
      · subst hr
        have hs2 : decide (r = r ∧ a2 = a ∧ p2 = p ∧ b2 = b ∧ q2 = q) = false := by
          rw [← hs, decide_eq_decide]
          constructor <;> (rintro ⟨h1, h2, h3, h4, h5⟩; exact ⟨rfl, h2.symm, h3.symm, h4.symm, h5.symm⟩)
        have mr := fun W => match_ok r a p b q r a2 p2 b2 q2 r a2 p2 b2 q2 st dl ad n c W
        rw [hs2, show decide (r = r ∧ a2 = a2 ∧ p2 = p2 ∧ b2 = b2 ∧ q2 = q2) = true by simp] at mr
        rcases bk with _ | _
        · exact ans_false r a p b q a2 p2 b2 q2 st dl ad n c hcm hL e1 mr w ht
        · exact ans_true r a p b q a2 p2 b2 q2 st dl ad n c hcm hL e1 mr w ht
      · exact ans_proto r a p b q r2 a2 p2 b2 q2 st dl ad n c bk hcm hL e1 (by simp; omega) w ht
    · rw [hs] at e1
      exact ans_same r a p b q r2 a2 p2 b2 q2 st dl ad n c bk hcm hL e1 w ht
  · exact ans_long r a p b q r2 a2 p2 b2 q2 st dl ad n c bk hcm hL w ht
end Go.Proofs.YtdmbjndhdldggaaDoor
