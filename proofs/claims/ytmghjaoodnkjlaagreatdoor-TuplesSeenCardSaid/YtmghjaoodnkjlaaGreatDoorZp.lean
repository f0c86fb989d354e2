/- Chapter 18, 08: the document's reading of a tuple (written by genzp.py). -/
import Derived.Test.YtmghjaoodnkjlaaGreatDoorZx
import Derived.Test.YtmghjaoodnkjlaaGreatDoorZc
import Derived.Test.YtmghjaoodnkjlaaGreatDoorEpT
namespace Go.Proofs.YtmghjaoodnkjlaaGreatDoor
set_option linter.unusedVariables false
set_option linter.unusedSimpArgs false
open Go.RowKit Go.Lib Go.Sort
end Go.Proofs.YtmghjaoodnkjlaaGreatDoor
