/- Texts of this proof, merged: Ct2b Ct3b Ct4b Ct5b Ct6b Ct7b Ct8b Ct9b Ct11b Ct12b Ct14b Ct15b Ct16b Ct17b Ct18b Ct19b Ct20b Ct21b Ct22b. -/
import Derived.Test.YthmokdfigjffjaaGreatDoorMal
import Derived.Test.YthmokdfigjffjaaGreatDoorMam
namespace Go.Proofs.YthmokdfigjffjaaGreatDoor
set_option linter.unusedVariables false
set_option linter.unusedSimpArgs false
open Go.RowKit
set_option maxRecDepth 100000 in
theorem cst2b (o0 o2 : Obj) (b0 b2 : Nat) (s : Strm) (K : KdR) : (rq b0 b2 99997).code [0, 1] 24 223 false [] (nthC 2 c24) K (F2b b0 b2 s) (L2b o0 o2 b0 b2 s) (tlk 45 s) = K .normal [] (F3b b0 b2 s) (L3b o0 o2 b0 b2 s) (tlk 45 s) := by kernel_rfl
end Go.Proofs.YthmokdfigjffjaaGreatDoor

namespace Go.Proofs.YthmokdfigjffjaaGreatDoor
set_option linter.unusedVariables false
set_option linter.unusedSimpArgs false
open Go.RowKit
set_option maxRecDepth 100000 in
theorem cst3b (o0 o2 : Obj) (b0 b2 : Nat) (s : Strm) (K : KdR) : (rq b0 b2 99996).code [0, 1] 24 223 false [] (nthC 3 c24) K (F3b b0 b2 s) (L3b o0 o2 b0 b2 s) (tlk 45 s) = K .normal [] (F4b b0 b2 s) (L4b o0 o2 b0 b2 s) (tlk 88 s) := by kernel_rfl
end Go.Proofs.YthmokdfigjffjaaGreatDoor

namespace Go.Proofs.YthmokdfigjffjaaGreatDoor
set_option linter.unusedVariables false
set_option linter.unusedSimpArgs false
open Go.RowKit
set_option maxRecDepth 100000 in
theorem cst4b (o0 o2 : Obj) (b0 b2 : Nat) (s : Strm) (K : KdR) : (rq b0 b2 99995).code [0, 1] 24 223 false [] (nthC 4 c24) K (F4b b0 b2 s) (L4b o0 o2 b0 b2 s) (tlk 88 s) = K .normal [] (F5b b0 b2 s) (L5b o0 o2 b0 b2 s) (tlk 152 s) := by kernel_rfl
end Go.Proofs.YthmokdfigjffjaaGreatDoor

namespace Go.Proofs.YthmokdfigjffjaaGreatDoor
set_option linter.unusedVariables false
set_option linter.unusedSimpArgs false
open Go.RowKit
set_option maxRecDepth 100000 in
theorem cst5b (o0 o2 : Obj) (b0 b2 : Nat) (s : Strm) (K : KdR) : (rq b0 b2 99994).code [0, 1] 24 223 false [] (nthC 5 c24) K (F5b b0 b2 s) (L5b o0 o2 b0 b2 s) (tlk 152 s) = K .normal [] (F6b b0 b2 s) (L6b o0 o2 b0 b2 s) (tlk 152 s) := by kernel_rfl
end Go.Proofs.YthmokdfigjffjaaGreatDoor

namespace Go.Proofs.YthmokdfigjffjaaGreatDoor
set_option linter.unusedVariables false
set_option linter.unusedSimpArgs false
open Go.RowKit
set_option maxRecDepth 100000 in
theorem cst6b (o0 o2 : Obj) (b0 b2 : Nat) (s : Strm) (K : KdR) : (rq b0 b2 99993).code [0, 1] 24 223 false [] (nthC 6 c24) K (F6b b0 b2 s) (L6b o0 o2 b0 b2 s) (tlk 152 s) = K .normal [] (F7b b0 b2 s) (L7b o0 o2 b0 b2 s) (tlk 168 s) := by kernel_rfl
end Go.Proofs.YthmokdfigjffjaaGreatDoor

namespace Go.Proofs.YthmokdfigjffjaaGreatDoor
set_option linter.unusedVariables false
set_option linter.unusedSimpArgs false
open Go.RowKit
set_option maxRecDepth 100000 in
theorem cst7b (o0 o2 : Obj) (b0 b2 : Nat) (s : Strm) (K : KdR) : (rq b0 b2 99992).code [0, 1] 24 223 false [] (nthC 7 c24) K (F7b b0 b2 s) (L7b o0 o2 b0 b2 s) (tlk 168 s) = K .normal [] (F8b b0 b2 s) (L8b o0 o2 b0 b2 s) (tlk 173 s) := by kernel_rfl
end Go.Proofs.YthmokdfigjffjaaGreatDoor

namespace Go.Proofs.YthmokdfigjffjaaGreatDoor
set_option linter.unusedVariables false
set_option linter.unusedSimpArgs false
open Go.RowKit
set_option maxRecDepth 100000 in
theorem cst8b (o0 o2 : Obj) (b0 b2 : Nat) (s : Strm) (K : KdR) : (rq b0 b2 99991).code [0, 1] 24 223 false [] (nthC 8 c24) K (F8b b0 b2 s) (L8b o0 o2 b0 b2 s) (tlk 173 s) = K .normal [] (F9b b0 b2 s) (L9b o0 o2 b0 b2 s) (tlk 179 s) := by kernel_rfl
end Go.Proofs.YthmokdfigjffjaaGreatDoor

namespace Go.Proofs.YthmokdfigjffjaaGreatDoor
set_option linter.unusedVariables false
set_option linter.unusedSimpArgs false
open Go.RowKit
set_option maxRecDepth 100000 in
theorem cst9b (o0 o2 : Obj) (b0 b2 : Nat) (s : Strm) (K : KdR) : (rq b0 b2 99990).code [0, 1] 24 223 false [] (nthC 9 c24) K (F9b b0 b2 s) (L9b o0 o2 b0 b2 s) (tlk 179 s) = K .normal [] (F10b b0 b2 s) (L10b o0 o2 b0 b2 s) (tlk 194 s) := by kernel_rfl
end Go.Proofs.YthmokdfigjffjaaGreatDoor

namespace Go.Proofs.YthmokdfigjffjaaGreatDoor
set_option linter.unusedVariables false
set_option linter.unusedSimpArgs false
open Go.RowKit
set_option maxRecDepth 100000 in
theorem cst11b (o0 o2 : Obj) (b0 b2 : Nat) (s : Strm) (K : KdR) : (rq b0 b2 99988).code [0, 1] 24 223 false [] (nthC 11 c24) K (F11b b0 b2 s) (L11b o0 o2 b0 b2 s) (tlk 283 s) = K .normal [] (F12b b0 b2 s) (L12b o0 o2 b0 b2 s) (tlk 295 s) := by kernel_rfl
end Go.Proofs.YthmokdfigjffjaaGreatDoor

namespace Go.Proofs.YthmokdfigjffjaaGreatDoor
set_option linter.unusedVariables false
set_option linter.unusedSimpArgs false
open Go.RowKit
set_option maxRecDepth 100000 in
theorem cst12b (o0 o2 : Obj) (b0 b2 : Nat) (s : Strm) (K : KdR) : (rq b0 b2 99987).code [0, 1] 24 223 false [] (nthC 12 c24) K (F12b b0 b2 s) (L12b o0 o2 b0 b2 s) (tlk 295 s) = K .normal [] (F13b b0 b2 s) (L13b o0 o2 b0 b2 s) (tlk 303 s) := by kernel_rfl
end Go.Proofs.YthmokdfigjffjaaGreatDoor

namespace Go.Proofs.YthmokdfigjffjaaGreatDoor
set_option linter.unusedVariables false
set_option linter.unusedSimpArgs false
open Go.RowKit
set_option maxRecDepth 100000 in
theorem cst14b (o0 o2 : Obj) (b0 b2 : Nat) (s : Strm) (K : KdR) : (rq b0 b2 99985).code [0, 1] 24 223 false [] (nthC 14 c24) K (F14b b0 b2 s) (L14b o0 o2 b0 b2 s) (tlk 346 s) = K .normal [] (F15b b0 b2 s) (L15b o0 o2 b0 b2 s) (tlk 358 s) := by kernel_rfl
end Go.Proofs.YthmokdfigjffjaaGreatDoor

namespace Go.Proofs.YthmokdfigjffjaaGreatDoor
set_option linter.unusedVariables false
set_option linter.unusedSimpArgs false
open Go.RowKit
set_option maxRecDepth 100000 in
theorem cst15b (o0 o2 : Obj) (b0 b2 : Nat) (s : Strm) (K : KdR) : (rq b0 b2 99984).code [0, 1] 24 223 false [] (nthC 15 c24) K (F15b b0 b2 s) (L15b o0 o2 b0 b2 s) (tlk 358 s) = K .normal [] (F16b b0 b2 s) (L16b o0 o2 b0 b2 s) (tlk 358 s) := by kernel_rfl
end Go.Proofs.YthmokdfigjffjaaGreatDoor

namespace Go.Proofs.YthmokdfigjffjaaGreatDoor
set_option linter.unusedVariables false
set_option linter.unusedSimpArgs false
open Go.RowKit
set_option maxRecDepth 100000 in
theorem cst16b (o0 o2 : Obj) (b0 b2 : Nat) (s : Strm) (K : KdR) : (rq b0 b2 99983).code [0, 1] 24 223 false [] (nthC 16 c24) K (F16b b0 b2 s) (L16b o0 o2 b0 b2 s) (tlk 358 s) = K .normal [] (F17b b0 b2 s) (L17b o0 o2 b0 b2 s) (tlk 358 s) := by kernel_rfl
end Go.Proofs.YthmokdfigjffjaaGreatDoor

namespace Go.Proofs.YthmokdfigjffjaaGreatDoor
set_option linter.unusedVariables false
set_option linter.unusedSimpArgs false
open Go.RowKit
set_option maxRecDepth 100000 in
theorem cst17b (o0 o2 : Obj) (b0 b2 : Nat) (s : Strm) (K : KdR) : (rq b0 b2 99982).code [0, 1] 24 223 false [] (nthC 17 c24) K (F17b b0 b2 s) (L17b o0 o2 b0 b2 s) (tlk 358 s) = K .normal [] (F18b b0 b2 s) (L18b o0 o2 b0 b2 s) (tlk 415 s) := by kernel_rfl
end Go.Proofs.YthmokdfigjffjaaGreatDoor

namespace Go.Proofs.YthmokdfigjffjaaGreatDoor
set_option linter.unusedVariables false
set_option linter.unusedSimpArgs false
open Go.RowKit
set_option maxRecDepth 100000 in
theorem cst18b (o0 o2 : Obj) (b0 b2 : Nat) (s : Strm) (K : KdR) : (rq b0 b2 99981).code [0, 1] 24 223 false [] (nthC 18 c24) K (F18b b0 b2 s) (L18b o0 o2 b0 b2 s) (tlk 415 s) = K .normal [] (F19b b0 b2 s) (L19b o0 o2 b0 b2 s) (tlk 434 s) := by kernel_rfl
end Go.Proofs.YthmokdfigjffjaaGreatDoor

namespace Go.Proofs.YthmokdfigjffjaaGreatDoor
set_option linter.unusedVariables false
set_option linter.unusedSimpArgs false
open Go.RowKit
set_option maxRecDepth 100000 in
theorem cst19b (o0 o2 : Obj) (b0 b2 : Nat) (s : Strm) (K : KdR) : (rq b0 b2 99980).code [0, 1] 24 223 false [] (nthC 19 c24) K (F19b b0 b2 s) (L19b o0 o2 b0 b2 s) (tlk 434 s) = K .normal [] (F20b b0 b2 s) (L20b o0 o2 b0 b2 s) (tlk 441 s) := by kernel_rfl
end Go.Proofs.YthmokdfigjffjaaGreatDoor

namespace Go.Proofs.YthmokdfigjffjaaGreatDoor
set_option linter.unusedVariables false
set_option linter.unusedSimpArgs false
open Go.RowKit
set_option maxRecDepth 100000 in
theorem cst20b (o0 o2 : Obj) (b0 b2 : Nat) (s : Strm) (K : KdR) : (rq b0 b2 99979).code [0, 1] 24 223 false [] (nthC 20 c24) K (F20b b0 b2 s) (L20b o0 o2 b0 b2 s) (tlk 441 s) = K .normal [] (F21b b0 b2 s) (L21b o0 o2 b0 b2 s) (tlk 441 s) := by kernel_rfl
end Go.Proofs.YthmokdfigjffjaaGreatDoor

namespace Go.Proofs.YthmokdfigjffjaaGreatDoor
set_option linter.unusedVariables false
set_option linter.unusedSimpArgs false
open Go.RowKit
set_option maxRecDepth 100000 in
theorem cst21b (o0 o2 : Obj) (b0 b2 : Nat) (s : Strm) (K : KdR) : (rq b0 b2 99978).code [0, 1] 24 223 false [] (nthC 21 c24) K (F21b b0 b2 s) (L21b o0 o2 b0 b2 s) (tlk 441 s) = K .normal [] (F22b b0 b2 s) (L22b o0 o2 b0 b2 s) (tlk 447 s) := by kernel_rfl
end Go.Proofs.YthmokdfigjffjaaGreatDoor

namespace Go.Proofs.YthmokdfigjffjaaGreatDoor
set_option linter.unusedVariables false
set_option linter.unusedSimpArgs false
open Go.RowKit
set_option maxRecDepth 100000 in
theorem cst22b (o0 o2 : Obj) (b0 b2 : Nat) (s : Strm) (K : KdR) : (rq b0 b2 99977).code [0, 1] 24 223 false [] (nthC 22 c24) K (F22b b0 b2 s) (L22b o0 o2 b0 b2 s) (tlk 447 s) = K .normal [] (F23b b0 b2 s) (L23b o0 o2 b0 b2 s) (tlk 447 s) := by kernel_rfl
end Go.Proofs.YthmokdfigjffjaaGreatDoor
