/- Texts of this proof, merged: Ct10b Ct13b. -/
import Derived.Test.YthmokdfigjffjaaGreatDoorMam
namespace Go.Proofs.YthmokdfigjffjaaGreatDoor
set_option linter.unusedVariables false
set_option linter.unusedSimpArgs false
open Go.RowKit
set_option maxRecDepth 100000 in
theorem cstm10b (o0 o2 : Obj) (b0 b2 : Nat) (s : Strm) (K : KdR) : (rq b0 b2 99989).code [0, 1] 24 223 false [] (nthC 10 c24) K (F10b b0 b2 s) (L10b o0 o2 b0 b2 s) (tlk 194 s) = ((K .normal [] (F11b b0 b2 s) (L11b o0 o2 b0 b2 s) (tlk 283 s)) && (K .normal [] (F11b b0 b2 s) (L11b o0 o2 b0 b2 s) (tlk 283 s))) := by kernel_rfl
theorem cst10b (o0 o2 : Obj) (b0 b2 : Nat) (s : Strm) (K : KdR) : (rq b0 b2 99989).code [0, 1] 24 223 false [] (nthC 10 c24) K (F10b b0 b2 s) (L10b o0 o2 b0 b2 s) (tlk 194 s) = K .normal [] (F11b b0 b2 s) (L11b o0 o2 b0 b2 s) (tlk 283 s) := by rw [cstm10b]; simp only [Bool.and_self]
end Go.Proofs.YthmokdfigjffjaaGreatDoor

namespace Go.Proofs.YthmokdfigjffjaaGreatDoor
set_option linter.unusedVariables false
set_option linter.unusedSimpArgs false
open Go.RowKit
set_option maxRecDepth 100000 in
theorem cst13b (o0 o2 : Obj) (b0 b2 : Nat) (s : Strm) (K : KdR) : (rq b0 b2 99986).code [0, 1] 24 223 false [] (nthC 13 c24) K (F13b b0 b2 s) (L13b o0 o2 b0 b2 s) (tlk 303 s) = K .normal [] (F14b b0 b2 s) (L14b o0 o2 b0 b2 s) (tlk 346 s) := by kernel_rfl
end Go.Proofs.YthmokdfigjffjaaGreatDoor
