/- Texts of this proof, merged: Lf. -/
import Derived.Test.YthmokdfigjffjaaGreatDoorRows
import Derived.JoinedOf
import Derived.ProofKit
namespace Go.Proofs.YthmokdfigjffjaaGreatDoor
set_option linter.unusedVariables false
set_option linter.unusedSimpArgs false
open Go.RowKit Go.ChangeShapes Go.WideShapes Go.ChangeAt
set_option maxRecDepth 100000 in
set_option maxHeartbeats 100000000 in
theorem joined_sharedNew : joinedFacts Tryz.prog 3 Tryz.f3 Rows.sharedNewSpec Rows.sharedNewRow = true := by
  unfold joinedFacts
  simp only [Bool.and_eq_true]
  repeat' refine And.intro ?_ ?_
  all_goals (as_aux_lemma => kernel_rfl)
end Go.Proofs.YthmokdfigjffjaaGreatDoor
