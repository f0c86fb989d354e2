/- Chapter 18: the document's reading of a tuple and of an entry (plain). -/
import Derived.Test.YtmghjaoodnkjlaaGreatDoorEpG
import Derived.Test.YtmghjaoodnkjlaaGreatDoorZd
import Derived.Test.YtmghjaoodnkjlaaGreatDoorZw
namespace Go.Proofs.YtmghjaoodnkjlaaGreatDoor
set_option linter.unusedVariables false
set_option linter.unusedSimpArgs false
open Go.RowKit Go.Lib Go.Sort
section
variable {l : List UInt8} {p0 p1 p2 p3 p4 p5 p6 p7 p8 : List UInt8} {hs : List (List UInt8)}
end
end Go.Proofs.YtmghjaoodnkjlaaGreatDoor
