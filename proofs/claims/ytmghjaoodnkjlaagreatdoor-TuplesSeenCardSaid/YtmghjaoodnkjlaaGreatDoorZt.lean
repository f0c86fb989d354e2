/- Chapter 08, 18: the document's texts of a tuple and of an entry (written by genzt.py). -/
import Derived.Test.YtmghjaoodnkjlaaGreatDoorZd
import Derived.Test.YtmghjaoodnkjlaaGreatDoorZc
namespace Go.Proofs.YtmghjaoodnkjlaaGreatDoor
set_option linter.unusedVariables false
set_option linter.unusedSimpArgs false
open Go.RowKit Go.Lib Go.Sort

end Go.Proofs.YtmghjaoodnkjlaaGreatDoor
