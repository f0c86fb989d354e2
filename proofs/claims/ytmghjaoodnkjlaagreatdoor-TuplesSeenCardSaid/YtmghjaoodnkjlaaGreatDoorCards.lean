/-
  DERIVED. GIVEN WITH THE SEED: THE CARDS: each row of YtmghjaoodnkjlaaGreatDoorRows.lean that lists a variable, with what it lists TIED to the program's text (the seventh form; the later family's looks); each row that meets fmt, with fmt's text TOLD by the authors' own Lean function (tested against real Go, not proved from fmt's source: count such statements apart). THE CARD IS WHAT COUNTS. Prove the row's statement (the work); the ties are given (YtmghjaoodnkjlaaGreatDoorTie.lean); close each card by the builder's one call (the guide's Derived/Test/ToyasCard.lean, 'card_holds'). Laid BY PROGRAM, IN A SANDBOX (cutbox-door.mjs). By AI agents, Wed Nov 11 2026. No macro, syntax, notation, axiom, sorry.
-/
import Derived.Test.YtmghjaoodnkjlaaGreatDoorRows
import GoSem.ClaimSeven
namespace Go.Proofs.YtmghjaoodnkjlaaGreatDoor
namespace Rows

/-- THE TIED CARD OF 'porterlaw08.TuplesOf'. -/
def tuplesOfCard : Claim7 := { stood := { row := tuplesOfRow, standIns := [], harness := (true, "d385adaee1684a79559b1ca9778cab90511536586007db24fdfd422d2b54b450"), looks := true }, kinds := [], alts := [], laidByText := true, laidKinds := [.data, .data, .data, .data, .sentinel, .sentinel, .mapped, .mapped, .pinned], laidTests := true, laidLooks := .later }
def TuplesOfCardSaid : Prop := Claim7.holds Tryz.pinned (.plain (OpenSpec.ofChange tuplesOfSpec)) tuplesOfCard

/-- THE TIED CARD OF 'porterlaw08.TuplesNone'. -/
def tuplesNoneCard : Claim7 := { stood := { row := tuplesNoneRow, standIns := [], harness := (true, "d385adaee1684a79559b1ca9778cab90511536586007db24fdfd422d2b54b450"), looks := true }, kinds := [], alts := [], laidByText := true, laidKinds := [.data, .data, .data, .data, .sentinel, .sentinel, .mapped, .mapped, .pinned], laidTests := true, laidLooks := .later }
def TuplesNoneCardSaid : Prop := Claim7.holds Tryz.pinned (.plain (OpenSpec.ofChange tuplesNoneSpec)) tuplesNoneCard

/-- THE TIED CARD OF 'porterlaw08.TuplesForm'. -/
def tuplesFormCard : Claim7 := { stood := { row := tuplesFormRow, standIns := [], harness := (true, "d385adaee1684a79559b1ca9778cab90511536586007db24fdfd422d2b54b450"), looks := true }, kinds := [], alts := [], laidByText := true, laidKinds := [.data, .data, .data, .data, .sentinel, .sentinel, .mapped, .mapped, .pinned], laidTests := true, laidLooks := .later }
def TuplesFormCardSaid : Prop := Claim7.holds Tryz.pinned (.plain (OpenSpec.ofChange tuplesFormSpec)) tuplesFormCard

/-- THE TIED CARD OF 'porterlaw08.TuplesTell'. -/
def tuplesTellCard : Claim7 := { stood := { row := tuplesTellRow, standIns := [], harness := (true, "d385adaee1684a79559b1ca9778cab90511536586007db24fdfd422d2b54b450"), looks := true }, kinds := [], alts := [], laidByText := true, laidKinds := [.data, .data, .data, .data, .sentinel, .sentinel, .mapped, .mapped, .pinned], laidTests := true, laidLooks := .later }
def TuplesTellCardSaid : Prop := Claim7.holds Tryz.pinned (.plain (OpenSpec.ofChange tuplesTellSpec)) tuplesTellCard

/-- THE TIED CARD OF 'porterlaw08.TuplesBack'. -/
def tuplesBackCard : Claim7 := { stood := { row := tuplesBackRow, standIns := [], harness := (true, "d385adaee1684a79559b1ca9778cab90511536586007db24fdfd422d2b54b450"), looks := true }, kinds := [], alts := [], laidByText := true, laidKinds := [.data, .data, .data, .data, .sentinel, .sentinel, .mapped, .mapped, .pinned], laidTests := true, laidLooks := .later }
def TuplesBackCardSaid : Prop := Claim7.holds Tryz.pinned (.plain (OpenSpec.ofChange tuplesBackSpec)) tuplesBackCard

/-- THE TIED CARD OF 'porterlaw08.TuplesSeen'. -/
def tuplesSeenCard : Claim7 := { stood := { row := tuplesSeenRow, standIns := [], harness := (true, "d385adaee1684a79559b1ca9778cab90511536586007db24fdfd422d2b54b450"), looks := true }, kinds := [], alts := [], laidByText := true, laidKinds := [.data, .data, .data, .data, .sentinel, .sentinel, .mapped, .mapped, .pinned], laidTests := true, laidLooks := .later }
def TuplesSeenCardSaid : Prop := Claim7.holds Tryz.pinned (.plain (OpenSpec.ofChange tuplesSeenSpec)) tuplesSeenCard

/-- THE SECOND FORM's CARD OF 'porterlaw08.TuplesOf'. -/
def tuplesOfUptoCard : Claim7 := { stood := { row := tuplesOfUptoRow, standIns := [], harness := (true, "d385adaee1684a79559b1ca9778cab90511536586007db24fdfd422d2b54b450"), looks := true }, kinds := [], alts := [], laidByText := true, laidKinds := [.data, .data, .data, .data, .sentinel, .sentinel, .mapped, .mapped, .pinned], laidTests := true, laidLooks := .later }
def TuplesOfUptoCardSaid : Prop := Claim7.holds Tryz.pinned (.plain (OpenSpec.upto tuplesOfSpec)) tuplesOfUptoCard

/-- THE SECOND FORM's CARD OF 'porterlaw08.TuplesNone'. -/
def tuplesNoneUptoCard : Claim7 := { stood := { row := tuplesNoneUptoRow, standIns := [], harness := (true, "d385adaee1684a79559b1ca9778cab90511536586007db24fdfd422d2b54b450"), looks := true }, kinds := [], alts := [], laidByText := true, laidKinds := [.data, .data, .data, .data, .sentinel, .sentinel, .mapped, .mapped, .pinned], laidTests := true, laidLooks := .later }
def TuplesNoneUptoCardSaid : Prop := Claim7.holds Tryz.pinned (.plain (OpenSpec.upto tuplesNoneSpec)) tuplesNoneUptoCard

/-- THE SECOND FORM's CARD OF 'porterlaw08.TuplesForm'. -/
def tuplesFormUptoCard : Claim7 := { stood := { row := tuplesFormUptoRow, standIns := [], harness := (true, "d385adaee1684a79559b1ca9778cab90511536586007db24fdfd422d2b54b450"), looks := true }, kinds := [], alts := [], laidByText := true, laidKinds := [.data, .data, .data, .data, .sentinel, .sentinel, .mapped, .mapped, .pinned], laidTests := true, laidLooks := .later }
def TuplesFormUptoCardSaid : Prop := Claim7.holds Tryz.pinned (.plain (OpenSpec.upto tuplesFormSpec)) tuplesFormUptoCard

/-- THE SECOND FORM's CARD OF 'porterlaw08.TuplesTell'. -/
def tuplesTellUptoCard : Claim7 := { stood := { row := tuplesTellUptoRow, standIns := [], harness := (true, "d385adaee1684a79559b1ca9778cab90511536586007db24fdfd422d2b54b450"), looks := true }, kinds := [], alts := [], laidByText := true, laidKinds := [.data, .data, .data, .data, .sentinel, .sentinel, .mapped, .mapped, .pinned], laidTests := true, laidLooks := .later }
def TuplesTellUptoCardSaid : Prop := Claim7.holds Tryz.pinned (.plain (OpenSpec.upto tuplesTellSpec)) tuplesTellUptoCard

/-- THE SECOND FORM's CARD OF 'porterlaw08.TuplesBack'. -/
def tuplesBackUptoCard : Claim7 := { stood := { row := tuplesBackUptoRow, standIns := [], harness := (true, "d385adaee1684a79559b1ca9778cab90511536586007db24fdfd422d2b54b450"), looks := true }, kinds := [], alts := [], laidByText := true, laidKinds := [.data, .data, .data, .data, .sentinel, .sentinel, .mapped, .mapped, .pinned], laidTests := true, laidLooks := .later }
def TuplesBackUptoCardSaid : Prop := Claim7.holds Tryz.pinned (.plain (OpenSpec.upto tuplesBackSpec)) tuplesBackUptoCard

/-- THE SECOND FORM's CARD OF 'porterlaw08.TuplesSeen'. -/
def tuplesSeenUptoCard : Claim7 := { stood := { row := tuplesSeenUptoRow, standIns := [], harness := (true, "d385adaee1684a79559b1ca9778cab90511536586007db24fdfd422d2b54b450"), looks := true }, kinds := [], alts := [], laidByText := true, laidKinds := [.data, .data, .data, .data, .sentinel, .sentinel, .mapped, .mapped, .pinned], laidTests := true, laidLooks := .later }
def TuplesSeenUptoCardSaid : Prop := Claim7.holds Tryz.pinned (.plain (OpenSpec.upto tuplesSeenSpec)) tuplesSeenUptoCard
end Rows
end Go.Proofs.YtmghjaoodnkjlaaGreatDoor
