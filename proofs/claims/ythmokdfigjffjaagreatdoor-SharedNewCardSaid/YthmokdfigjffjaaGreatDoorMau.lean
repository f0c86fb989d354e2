/- Texts of this proof, merged: EnD. -/
import Derived.Test.YthmokdfigjffjaaGreatDoorMar
import Derived.Deep.RegionHeld3
import Derived.Test.YthmokdfigjffjaaGreatDoorMaa
import Derived.Laws.StructEq
namespace Go.Proofs.YthmokdfigjffjaaGreatDoor
set_option linter.unusedVariables false
set_option linter.unusedSimpArgs false
open Go.RowKit Go.Lib Go.Sort

def pt (a : Nat) : List (List UInt8) := [decDigits (a / 16777216), decDigits (a / 65536 % 256), decDigits (a / 256 % 256), decDigits (a % 256)]
theorem add_eq0 (b i : Nat) : (⟨b, 0, none⟩ : Addr).add i = ⟨b, i, none⟩ := by unfold Addr.add; split <;> simp_all

end Go.Proofs.YthmokdfigjffjaaGreatDoor
namespace Go.Proofs.YthmokdfigjffjaaGreatDoor
set_option linter.unusedVariables false
set_option linter.unusedSimpArgs false
open Go.RowKit Go.Lib Go.Sort
end Go.Proofs.YthmokdfigjffjaaGreatDoor
namespace Go.Proofs.YthmokdfigjffjaaGreatDoor
set_option linter.unusedVariables false
set_option linter.unusedSimpArgs false
open Go.RowKit Go.Lib Go.Sort
end Go.Proofs.YthmokdfigjffjaaGreatDoor
namespace Go.Proofs.YthmokdfigjffjaaGreatDoor
set_option linter.unusedVariables false
set_option linter.unusedSimpArgs false
open Go.RowKit Go.Lib Go.Sort

end Go.Proofs.YthmokdfigjffjaaGreatDoor
namespace Go.Proofs.YthmokdfigjffjaaGreatDoor
set_option linter.unusedVariables false
set_option linter.unusedSimpArgs false
open Go.RowKit Go.Lib Go.Sort

end Go.Proofs.YthmokdfigjffjaaGreatDoor
