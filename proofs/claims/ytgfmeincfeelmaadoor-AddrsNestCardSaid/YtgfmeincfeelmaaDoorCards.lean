/-
  DERIVED. GIVEN WITH THE SEED: THE CARDS: each row of YtgfmeincfeelmaaDoorRows.lean that lists a variable, with what it lists TIED to the program's text (the seventh form; the later family's looks); each row that meets fmt, with fmt's text TOLD by the authors' own Lean function (tested against real Go, not proved from fmt's source: count such statements apart). THE CARD IS WHAT COUNTS. Prove the row's statement (the work); the ties are given (YtgfmeincfeelmaaDoorTie.lean); close each card by the builder's one call (the guide's Derived/Test/ToyasCard.lean, 'card_holds'). Laid BY PROGRAM, IN A SANDBOX (cutbox-door.mjs). By AI agents, Wed Nov 11 2026. No macro, syntax, notation, axiom, sorry.
-/
import Derived.Test.YtgfmeincfeelmaaDoorRows
import GoSem.ClaimSeven
namespace Go.Proofs.YtgfmeincfeelmaaDoor
namespace Rows

/-- THE TIED CARD OF 'porterlaw03.AddrsParse'. -/
def addrsParseCard : Claim7 := { stood := { row := addrsParseRow, standIns := [], harness := (true, "38727ad2cd17f72d1f75f68d17afe31225548577457537ba99d7791bcace951f"), looks := true }, kinds := [], alts := [], laidByText := true, laidKinds := [.data, .data, .data, .data, .sentinel, .sentinel, .pinned], laidTests := true, laidLooks := .later }
def AddrsParseCardSaid : Prop := Claim7.holds Tryd.pinned (.plain (OpenSpec.ofChange addrsParseSpec)) addrsParseCard

/-- THE TIED CARD OF 'porterlaw03.AddrsNest'. -/
def addrsNestCard : Claim7 := { stood := { row := addrsNestRow, standIns := [], harness := (true, "38727ad2cd17f72d1f75f68d17afe31225548577457537ba99d7791bcace951f"), looks := true }, kinds := [], alts := [], laidByText := true, laidKinds := [.data, .data, .data, .data, .sentinel, .sentinel, .pinned], laidTests := true, laidLooks := .later }
def AddrsNestCardSaid : Prop := Claim7.holds Tryd.pinned (.plain (OpenSpec.ofChange addrsNestSpec)) addrsNestCard

/-- THE TIED CARD OF 'porterlaw03.AddrsForm'. -/
def addrsFormCard : Claim7 := { stood := { row := addrsFormRow, standIns := [], harness := (true, "38727ad2cd17f72d1f75f68d17afe31225548577457537ba99d7791bcace951f"), looks := true }, kinds := [], alts := [], laidByText := true, laidKinds := [.data, .data, .data, .data, .sentinel, .sentinel, .pinned], laidTests := true, laidLooks := .later }
def AddrsFormCardSaid : Prop := Claim7.holds Tryd.pinned (.plain (OpenSpec.ofChange addrsFormSpec)) addrsFormCard

/-- THE TIED CARD OF 'porterlaw03.AddrsTell'. -/
def addrsTellCard : Claim7 := { stood := { row := addrsTellRow, standIns := [], harness := (true, "38727ad2cd17f72d1f75f68d17afe31225548577457537ba99d7791bcace951f"), looks := true }, kinds := [], alts := [], laidByText := true, laidKinds := [.data, .data, .data, .data, .sentinel, .sentinel, .pinned], laidTests := true, laidLooks := .later }
def AddrsTellCardSaid : Prop := Claim7.holds Tryd.pinned (.plain (OpenSpec.ofChange addrsTellSpec)) addrsTellCard

/-- THE TIED CARD OF 'porterlaw03.AddrsBack'. -/
def addrsBackCard : Claim7 := { stood := { row := addrsBackRow, standIns := [], harness := (true, "38727ad2cd17f72d1f75f68d17afe31225548577457537ba99d7791bcace951f"), looks := true }, kinds := [], alts := [], laidByText := true, laidKinds := [.data, .data, .data, .data, .sentinel, .sentinel, .pinned], laidTests := true, laidLooks := .later }
def AddrsBackCardSaid : Prop := Claim7.holds Tryd.pinned (.plain (OpenSpec.ofChange addrsBackSpec)) addrsBackCard

/-- THE SECOND FORM's CARD OF 'porterlaw03.AddrsParse'. -/
def addrsParseUptoCard : Claim7 := { stood := { row := addrsParseUptoRow, standIns := [], harness := (true, "38727ad2cd17f72d1f75f68d17afe31225548577457537ba99d7791bcace951f"), looks := true }, kinds := [], alts := [], laidByText := true, laidKinds := [.data, .data, .data, .data, .sentinel, .sentinel, .pinned], laidTests := true, laidLooks := .later }
def AddrsParseUptoCardSaid : Prop := Claim7.holds Tryd.pinned (.plain (OpenSpec.upto addrsParseSpec)) addrsParseUptoCard

/-- THE SECOND FORM's CARD OF 'porterlaw03.AddrsNest'. -/
def addrsNestUptoCard : Claim7 := { stood := { row := addrsNestUptoRow, standIns := [], harness := (true, "38727ad2cd17f72d1f75f68d17afe31225548577457537ba99d7791bcace951f"), looks := true }, kinds := [], alts := [], laidByText := true, laidKinds := [.data, .data, .data, .data, .sentinel, .sentinel, .pinned], laidTests := true, laidLooks := .later }
def AddrsNestUptoCardSaid : Prop := Claim7.holds Tryd.pinned (.plain (OpenSpec.upto addrsNestSpec)) addrsNestUptoCard

/-- THE SECOND FORM's CARD OF 'porterlaw03.AddrsForm'. -/
def addrsFormUptoCard : Claim7 := { stood := { row := addrsFormUptoRow, standIns := [], harness := (true, "38727ad2cd17f72d1f75f68d17afe31225548577457537ba99d7791bcace951f"), looks := true }, kinds := [], alts := [], laidByText := true, laidKinds := [.data, .data, .data, .data, .sentinel, .sentinel, .pinned], laidTests := true, laidLooks := .later }
def AddrsFormUptoCardSaid : Prop := Claim7.holds Tryd.pinned (.plain (OpenSpec.upto addrsFormSpec)) addrsFormUptoCard

/-- THE SECOND FORM's CARD OF 'porterlaw03.AddrsTell'. -/
def addrsTellUptoCard : Claim7 := { stood := { row := addrsTellUptoRow, standIns := [], harness := (true, "38727ad2cd17f72d1f75f68d17afe31225548577457537ba99d7791bcace951f"), looks := true }, kinds := [], alts := [], laidByText := true, laidKinds := [.data, .data, .data, .data, .sentinel, .sentinel, .pinned], laidTests := true, laidLooks := .later }
def AddrsTellUptoCardSaid : Prop := Claim7.holds Tryd.pinned (.plain (OpenSpec.upto addrsTellSpec)) addrsTellUptoCard

/-- THE SECOND FORM's CARD OF 'porterlaw03.AddrsBack'. -/
def addrsBackUptoCard : Claim7 := { stood := { row := addrsBackUptoRow, standIns := [], harness := (true, "38727ad2cd17f72d1f75f68d17afe31225548577457537ba99d7791bcace951f"), looks := true }, kinds := [], alts := [], laidByText := true, laidKinds := [.data, .data, .data, .data, .sentinel, .sentinel, .pinned], laidTests := true, laidLooks := .later }
def AddrsBackUptoCardSaid : Prop := Claim7.holds Tryd.pinned (.plain (OpenSpec.upto addrsBackSpec)) addrsBackUptoCard
end Rows
end Go.Proofs.YtgfmeincfeelmaaDoor
