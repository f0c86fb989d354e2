/- Texts of this proof, merged: Ct0 Ct1 Ct2 Ct3 Ct4 Ct5 Ct6 Ct7 Ct8 Ct9 Ct11 Ct12 Ct14 Ct15 Ct16 Ct17 Ct18 Ct19 Ct20 Ct21 Ct22. -/
import Derived.Test.YthmokdfigjffjaaGreatDoorMal
namespace Go.Proofs.YthmokdfigjffjaaGreatDoor
set_option linter.unusedVariables false
set_option linter.unusedSimpArgs false
open Go.RowKit
set_option maxRecDepth 100000 in
theorem cst0 (o0 o2 : Obj) (b0 b2 : Nat) (s : Strm) (K : KdR) : (rq b0 b2 99999).code [0, 1] 24 223 false [] (nthC 0 c24) K (F0 b0 b2 s) (L0 o0 o2 b0 b2 s) (tlk 0 s) = K .normal [] (F1 b0 b2 s) (L1 o0 o2 b0 b2 s) (tlk 0 s) := by kernel_rfl
end Go.Proofs.YthmokdfigjffjaaGreatDoor

namespace Go.Proofs.YthmokdfigjffjaaGreatDoor
set_option linter.unusedVariables false
set_option linter.unusedSimpArgs false
open Go.RowKit
set_option maxRecDepth 100000 in
theorem cst1 (o0 o2 : Obj) (b0 b2 : Nat) (s : Strm) (K : KdR) : (rq b0 b2 99998).code [0, 1] 24 223 false [] (nthC 1 c24) K (F1 b0 b2 s) (L1 o0 o2 b0 b2 s) (tlk 0 s) = ((K .normal [] (F2 b0 b2 s) (L2 o0 o2 b0 b2 s) (tlk 45 s)) && (K .normal [] (F2b b0 b2 s) (L2b o0 o2 b0 b2 s) (tlk 45 s))) := by kernel_rfl
end Go.Proofs.YthmokdfigjffjaaGreatDoor

namespace Go.Proofs.YthmokdfigjffjaaGreatDoor
set_option linter.unusedVariables false
set_option linter.unusedSimpArgs false
open Go.RowKit
set_option maxRecDepth 100000 in
theorem cst2 (o0 o2 : Obj) (b0 b2 : Nat) (s : Strm) (K : KdR) : (rq b0 b2 99997).code [0, 1] 24 223 false [] (nthC 2 c24) K (F2 b0 b2 s) (L2 o0 o2 b0 b2 s) (tlk 45 s) = K .normal [] (F3 b0 b2 s) (L3 o0 o2 b0 b2 s) (tlk 45 s) := by kernel_rfl
end Go.Proofs.YthmokdfigjffjaaGreatDoor

namespace Go.Proofs.YthmokdfigjffjaaGreatDoor
set_option linter.unusedVariables false
set_option linter.unusedSimpArgs false
open Go.RowKit
set_option maxRecDepth 100000 in
theorem cst3 (o0 o2 : Obj) (b0 b2 : Nat) (s : Strm) (K : KdR) : (rq b0 b2 99996).code [0, 1] 24 223 false [] (nthC 3 c24) K (F3 b0 b2 s) (L3 o0 o2 b0 b2 s) (tlk 45 s) = K .normal [] (F4 b0 b2 s) (L4 o0 o2 b0 b2 s) (tlk 88 s) := by kernel_rfl
end Go.Proofs.YthmokdfigjffjaaGreatDoor

namespace Go.Proofs.YthmokdfigjffjaaGreatDoor
set_option linter.unusedVariables false
set_option linter.unusedSimpArgs false
open Go.RowKit
set_option maxRecDepth 100000 in
theorem cst4 (o0 o2 : Obj) (b0 b2 : Nat) (s : Strm) (K : KdR) : (rq b0 b2 99995).code [0, 1] 24 223 false [] (nthC 4 c24) K (F4 b0 b2 s) (L4 o0 o2 b0 b2 s) (tlk 88 s) = K .normal [] (F5 b0 b2 s) (L5 o0 o2 b0 b2 s) (tlk 152 s) := by kernel_rfl
end Go.Proofs.YthmokdfigjffjaaGreatDoor

namespace Go.Proofs.YthmokdfigjffjaaGreatDoor
set_option linter.unusedVariables false
set_option linter.unusedSimpArgs false
open Go.RowKit
set_option maxRecDepth 100000 in
theorem cst5 (o0 o2 : Obj) (b0 b2 : Nat) (s : Strm) (K : KdR) : (rq b0 b2 99994).code [0, 1] 24 223 false [] (nthC 5 c24) K (F5 b0 b2 s) (L5 o0 o2 b0 b2 s) (tlk 152 s) = K .normal [] (F6 b0 b2 s) (L6 o0 o2 b0 b2 s) (tlk 152 s) := by kernel_rfl
end Go.Proofs.YthmokdfigjffjaaGreatDoor

namespace Go.Proofs.YthmokdfigjffjaaGreatDoor
set_option linter.unusedVariables false
set_option linter.unusedSimpArgs false
open Go.RowKit
set_option maxRecDepth 100000 in
theorem cst6 (o0 o2 : Obj) (b0 b2 : Nat) (s : Strm) (K : KdR) : (rq b0 b2 99993).code [0, 1] 24 223 false [] (nthC 6 c24) K (F6 b0 b2 s) (L6 o0 o2 b0 b2 s) (tlk 152 s) = K .normal [] (F7 b0 b2 s) (L7 o0 o2 b0 b2 s) (tlk 168 s) := by kernel_rfl
end Go.Proofs.YthmokdfigjffjaaGreatDoor

namespace Go.Proofs.YthmokdfigjffjaaGreatDoor
set_option linter.unusedVariables false
set_option linter.unusedSimpArgs false
open Go.RowKit
set_option maxRecDepth 100000 in
theorem cst7 (o0 o2 : Obj) (b0 b2 : Nat) (s : Strm) (K : KdR) : (rq b0 b2 99992).code [0, 1] 24 223 false [] (nthC 7 c24) K (F7 b0 b2 s) (L7 o0 o2 b0 b2 s) (tlk 168 s) = K .normal [] (F8 b0 b2 s) (L8 o0 o2 b0 b2 s) (tlk 173 s) := by kernel_rfl
end Go.Proofs.YthmokdfigjffjaaGreatDoor

namespace Go.Proofs.YthmokdfigjffjaaGreatDoor
set_option linter.unusedVariables false
set_option linter.unusedSimpArgs false
open Go.RowKit
set_option maxRecDepth 100000 in
theorem cst8 (o0 o2 : Obj) (b0 b2 : Nat) (s : Strm) (K : KdR) : (rq b0 b2 99991).code [0, 1] 24 223 false [] (nthC 8 c24) K (F8 b0 b2 s) (L8 o0 o2 b0 b2 s) (tlk 173 s) = K .normal [] (F9 b0 b2 s) (L9 o0 o2 b0 b2 s) (tlk 179 s) := by kernel_rfl
end Go.Proofs.YthmokdfigjffjaaGreatDoor

namespace Go.Proofs.YthmokdfigjffjaaGreatDoor
set_option linter.unusedVariables false
set_option linter.unusedSimpArgs false
open Go.RowKit
set_option maxRecDepth 100000 in
theorem cst9 (o0 o2 : Obj) (b0 b2 : Nat) (s : Strm) (K : KdR) : (rq b0 b2 99990).code [0, 1] 24 223 false [] (nthC 9 c24) K (F9 b0 b2 s) (L9 o0 o2 b0 b2 s) (tlk 179 s) = K .normal [] (F10 b0 b2 s) (L10 o0 o2 b0 b2 s) (tlk 194 s) := by kernel_rfl
end Go.Proofs.YthmokdfigjffjaaGreatDoor

namespace Go.Proofs.YthmokdfigjffjaaGreatDoor
set_option linter.unusedVariables false
set_option linter.unusedSimpArgs false
open Go.RowKit
set_option maxRecDepth 100000 in
theorem cst11 (o0 o2 : Obj) (b0 b2 : Nat) (s : Strm) (K : KdR) : (rq b0 b2 99988).code [0, 1] 24 223 false [] (nthC 11 c24) K (F11 b0 b2 s) (L11 o0 o2 b0 b2 s) (tlk 283 s) = K .normal [] (F12 b0 b2 s) (L12 o0 o2 b0 b2 s) (tlk 295 s) := by kernel_rfl
end Go.Proofs.YthmokdfigjffjaaGreatDoor

namespace Go.Proofs.YthmokdfigjffjaaGreatDoor
set_option linter.unusedVariables false
set_option linter.unusedSimpArgs false
open Go.RowKit
set_option maxRecDepth 100000 in
theorem cst12 (o0 o2 : Obj) (b0 b2 : Nat) (s : Strm) (K : KdR) : (rq b0 b2 99987).code [0, 1] 24 223 false [] (nthC 12 c24) K (F12 b0 b2 s) (L12 o0 o2 b0 b2 s) (tlk 295 s) = K .normal [] (F13 b0 b2 s) (L13 o0 o2 b0 b2 s) (tlk 303 s) := by kernel_rfl
end Go.Proofs.YthmokdfigjffjaaGreatDoor

namespace Go.Proofs.YthmokdfigjffjaaGreatDoor
set_option linter.unusedVariables false
set_option linter.unusedSimpArgs false
open Go.RowKit
set_option maxRecDepth 100000 in
theorem cst14 (o0 o2 : Obj) (b0 b2 : Nat) (s : Strm) (K : KdR) : (rq b0 b2 99985).code [0, 1] 24 223 false [] (nthC 14 c24) K (F14 b0 b2 s) (L14 o0 o2 b0 b2 s) (tlk 346 s) = K .normal [] (F15 b0 b2 s) (L15 o0 o2 b0 b2 s) (tlk 358 s) := by kernel_rfl
end Go.Proofs.YthmokdfigjffjaaGreatDoor

namespace Go.Proofs.YthmokdfigjffjaaGreatDoor
set_option linter.unusedVariables false
set_option linter.unusedSimpArgs false
open Go.RowKit
set_option maxRecDepth 100000 in
theorem cst15 (o0 o2 : Obj) (b0 b2 : Nat) (s : Strm) (K : KdR) : (rq b0 b2 99984).code [0, 1] 24 223 false [] (nthC 15 c24) K (F15 b0 b2 s) (L15 o0 o2 b0 b2 s) (tlk 358 s) = K .normal [] (F16 b0 b2 s) (L16 o0 o2 b0 b2 s) (tlk 358 s) := by kernel_rfl
end Go.Proofs.YthmokdfigjffjaaGreatDoor

namespace Go.Proofs.YthmokdfigjffjaaGreatDoor
set_option linter.unusedVariables false
set_option linter.unusedSimpArgs false
open Go.RowKit
set_option maxRecDepth 100000 in
theorem cst16 (o0 o2 : Obj) (b0 b2 : Nat) (s : Strm) (K : KdR) : (rq b0 b2 99983).code [0, 1] 24 223 false [] (nthC 16 c24) K (F16 b0 b2 s) (L16 o0 o2 b0 b2 s) (tlk 358 s) = K .normal [] (F17 b0 b2 s) (L17 o0 o2 b0 b2 s) (tlk 358 s) := by kernel_rfl
end Go.Proofs.YthmokdfigjffjaaGreatDoor

namespace Go.Proofs.YthmokdfigjffjaaGreatDoor
set_option linter.unusedVariables false
set_option linter.unusedSimpArgs false
open Go.RowKit
set_option maxRecDepth 100000 in
theorem cst17 (o0 o2 : Obj) (b0 b2 : Nat) (s : Strm) (K : KdR) : (rq b0 b2 99982).code [0, 1] 24 223 false [] (nthC 17 c24) K (F17 b0 b2 s) (L17 o0 o2 b0 b2 s) (tlk 358 s) = K .normal [] (F18 b0 b2 s) (L18 o0 o2 b0 b2 s) (tlk 415 s) := by kernel_rfl
end Go.Proofs.YthmokdfigjffjaaGreatDoor

namespace Go.Proofs.YthmokdfigjffjaaGreatDoor
set_option linter.unusedVariables false
set_option linter.unusedSimpArgs false
open Go.RowKit
set_option maxRecDepth 100000 in
theorem cst18 (o0 o2 : Obj) (b0 b2 : Nat) (s : Strm) (K : KdR) : (rq b0 b2 99981).code [0, 1] 24 223 false [] (nthC 18 c24) K (F18 b0 b2 s) (L18 o0 o2 b0 b2 s) (tlk 415 s) = K .normal [] (F19 b0 b2 s) (L19 o0 o2 b0 b2 s) (tlk 434 s) := by kernel_rfl
end Go.Proofs.YthmokdfigjffjaaGreatDoor

namespace Go.Proofs.YthmokdfigjffjaaGreatDoor
set_option linter.unusedVariables false
set_option linter.unusedSimpArgs false
open Go.RowKit
set_option maxRecDepth 100000 in
theorem cst19 (o0 o2 : Obj) (b0 b2 : Nat) (s : Strm) (K : KdR) : (rq b0 b2 99980).code [0, 1] 24 223 false [] (nthC 19 c24) K (F19 b0 b2 s) (L19 o0 o2 b0 b2 s) (tlk 434 s) = K .normal [] (F20 b0 b2 s) (L20 o0 o2 b0 b2 s) (tlk 441 s) := by kernel_rfl
end Go.Proofs.YthmokdfigjffjaaGreatDoor

namespace Go.Proofs.YthmokdfigjffjaaGreatDoor
set_option linter.unusedVariables false
set_option linter.unusedSimpArgs false
open Go.RowKit
set_option maxRecDepth 100000 in
theorem cst20 (o0 o2 : Obj) (b0 b2 : Nat) (s : Strm) (K : KdR) : (rq b0 b2 99979).code [0, 1] 24 223 false [] (nthC 20 c24) K (F20 b0 b2 s) (L20 o0 o2 b0 b2 s) (tlk 441 s) = K .normal [] (F21 b0 b2 s) (L21 o0 o2 b0 b2 s) (tlk 441 s) := by kernel_rfl
end Go.Proofs.YthmokdfigjffjaaGreatDoor

namespace Go.Proofs.YthmokdfigjffjaaGreatDoor
set_option linter.unusedVariables false
set_option linter.unusedSimpArgs false
open Go.RowKit
set_option maxRecDepth 100000 in
theorem cst21 (o0 o2 : Obj) (b0 b2 : Nat) (s : Strm) (K : KdR) : (rq b0 b2 99978).code [0, 1] 24 223 false [] (nthC 21 c24) K (F21 b0 b2 s) (L21 o0 o2 b0 b2 s) (tlk 441 s) = K .normal [] (F22 b0 b2 s) (L22 o0 o2 b0 b2 s) (tlk 447 s) := by kernel_rfl
end Go.Proofs.YthmokdfigjffjaaGreatDoor

namespace Go.Proofs.YthmokdfigjffjaaGreatDoor
set_option linter.unusedVariables false
set_option linter.unusedSimpArgs false
open Go.RowKit
set_option maxRecDepth 100000 in
theorem cst22 (o0 o2 : Obj) (b0 b2 : Nat) (s : Strm) (K : KdR) : (rq b0 b2 99977).code [0, 1] 24 223 false [] (nthC 22 c24) K (F22 b0 b2 s) (L22 o0 o2 b0 b2 s) (tlk 447 s) = K .normal [] (F23 b0 b2 s) (L23 o0 o2 b0 b2 s) (tlk 447 s) := by kernel_rfl
end Go.Proofs.YthmokdfigjffjaaGreatDoor
