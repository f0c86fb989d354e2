/-
  DERIVED. GIVEN WITH THE SEED: THE CARDS: each row of YtdmbjndhdldggaaDoorRows.lean that lists a variable, with what it lists TIED to the program's text (the seventh form; the later family's looks); each row that meets fmt, with fmt's text TOLD by the authors' own Lean function (tested against real Go, not proved from fmt's source: count such statements apart). THE CARD IS WHAT COUNTS. Prove the row's statement (the work); the ties are given (YtdmbjndhdldggaaDoorTie.lean); close each card by the builder's one call (the guide's Derived/Test/ToyasCard.lean, 'card_holds'). Laid BY PROGRAM, IN A SANDBOX (cutbox-door.mjs). By AI agents, Wed Nov 11 2026. No macro, syntax, notation, axiom, sorry.
-/
import Derived.Test.YtdmbjndhdldggaaDoorRows
import GoSem.ClaimSeven
namespace Go.Proofs.YtdmbjndhdldggaaDoor
namespace Rows

/-- THE TIED CARD OF 'porterlaw18.EntriesAnswer'. -/
def entriesAnswerCard : Claim7 := { stood := { row := entriesAnswerRow, standIns := [], harness := (true, "d7e9610690cb0aa75a916d45a8a8cfecde35c990c0fb116e9a757d5a2290bb9f"), looks := true }, kinds := [], alts := [], laidByText := true, laidKinds := [.data, .data, .data, .data, .mapped], laidTests := true, laidLooks := .later }
def EntriesAnswerCardSaid : Prop := Claim7.holds Tryd.pinned (.plain (OpenSpec.ofChange entriesAnswerSpec)) entriesAnswerCard

/-- THE TIED CARD OF 'porterlaw18.EntriesRoom'. -/
def entriesRoomCard : Claim7 := { stood := { row := entriesRoomRow, standIns := [], harness := (true, "d7e9610690cb0aa75a916d45a8a8cfecde35c990c0fb116e9a757d5a2290bb9f"), looks := true }, kinds := [], alts := [], laidByText := true, laidKinds := [.data, .data, .data, .data, .mapped], laidTests := true, laidLooks := .later }
def EntriesRoomCardSaid : Prop := Claim7.holds Tryd.pinned (.plain (OpenSpec.ofChange entriesRoomSpec)) entriesRoomCard

/-- THE TIED CARD OF 'porterlaw18.EntriesTell'. -/
def entriesTellCard : Claim7 := { stood := { row := entriesTellRow, standIns := [], harness := (true, "d7e9610690cb0aa75a916d45a8a8cfecde35c990c0fb116e9a757d5a2290bb9f"), looks := true }, kinds := [], alts := [], laidByText := true, laidKinds := [.data, .data, .data, .data, .mapped], laidTests := true, laidLooks := .later }
def EntriesTellCardSaid : Prop := Claim7.holds Tryd.pinned (.plain (OpenSpec.ofChange entriesTellSpec)) entriesTellCard

/-- THE TIED CARD OF 'porterlaw18.EntriesAmong'. -/
def entriesAmongCard : Claim7 := { stood := { row := entriesAmongRow, standIns := [], harness := (true, "d7e9610690cb0aa75a916d45a8a8cfecde35c990c0fb116e9a757d5a2290bb9f"), looks := true }, kinds := [], alts := [], laidByText := true, laidKinds := [.data, .data, .data, .data, .mapped], laidTests := true, laidLooks := .later }
def EntriesAmongCardSaid : Prop := Claim7.holds Tryd.pinned (.plain (OpenSpec.ofChange entriesAmongSpec)) entriesAmongCard

/-- THE TIED CARD OF 'porterlaw18.EntriesBack'. -/
def entriesBackCard : Claim7 := { stood := { row := entriesBackRow, standIns := [], harness := (true, "d7e9610690cb0aa75a916d45a8a8cfecde35c990c0fb116e9a757d5a2290bb9f"), looks := true }, kinds := [], alts := [], laidByText := true, laidKinds := [.data, .data, .data, .data, .data, .sentinel, .sentinel, .mapped, .pinned], laidTests := true, laidLooks := .later }
def EntriesBackCardSaid : Prop := Claim7.holds Tryd.pinned (.plain (OpenSpec.ofChange entriesBackSpec)) entriesBackCard

/-- THE SECOND FORM's CARD OF 'porterlaw18.EntriesAnswer'. -/
def entriesAnswerUptoCard : Claim7 := { stood := { row := entriesAnswerUptoRow, standIns := [], harness := (true, "d7e9610690cb0aa75a916d45a8a8cfecde35c990c0fb116e9a757d5a2290bb9f"), looks := true }, kinds := [], alts := [], laidByText := true, laidKinds := [.data, .data, .data, .data, .mapped], laidTests := true, laidLooks := .later }
def EntriesAnswerUptoCardSaid : Prop := Claim7.holds Tryd.pinned (.plain (OpenSpec.upto entriesAnswerSpec)) entriesAnswerUptoCard

/-- THE SECOND FORM's CARD OF 'porterlaw18.EntriesRoom'. -/
def entriesRoomUptoCard : Claim7 := { stood := { row := entriesRoomUptoRow, standIns := [], harness := (true, "d7e9610690cb0aa75a916d45a8a8cfecde35c990c0fb116e9a757d5a2290bb9f"), looks := true }, kinds := [], alts := [], laidByText := true, laidKinds := [.data, .data, .data, .data, .mapped], laidTests := true, laidLooks := .later }
def EntriesRoomUptoCardSaid : Prop := Claim7.holds Tryd.pinned (.plain (OpenSpec.upto entriesRoomSpec)) entriesRoomUptoCard

/-- THE SECOND FORM's CARD OF 'porterlaw18.EntriesTell'. -/
def entriesTellUptoCard : Claim7 := { stood := { row := entriesTellUptoRow, standIns := [], harness := (true, "d7e9610690cb0aa75a916d45a8a8cfecde35c990c0fb116e9a757d5a2290bb9f"), looks := true }, kinds := [], alts := [], laidByText := true, laidKinds := [.data, .data, .data, .data, .mapped], laidTests := true, laidLooks := .later }
def EntriesTellUptoCardSaid : Prop := Claim7.holds Tryd.pinned (.plain (OpenSpec.upto entriesTellSpec)) entriesTellUptoCard

/-- THE SECOND FORM's CARD OF 'porterlaw18.EntriesAmong'. -/
def entriesAmongUptoCard : Claim7 := { stood := { row := entriesAmongUptoRow, standIns := [], harness := (true, "d7e9610690cb0aa75a916d45a8a8cfecde35c990c0fb116e9a757d5a2290bb9f"), looks := true }, kinds := [], alts := [], laidByText := true, laidKinds := [.data, .data, .data, .data, .mapped], laidTests := true, laidLooks := .later }
def EntriesAmongUptoCardSaid : Prop := Claim7.holds Tryd.pinned (.plain (OpenSpec.upto entriesAmongSpec)) entriesAmongUptoCard

/-- THE SECOND FORM's CARD OF 'porterlaw18.EntriesBack'. -/
def entriesBackUptoCard : Claim7 := { stood := { row := entriesBackUptoRow, standIns := [], harness := (true, "d7e9610690cb0aa75a916d45a8a8cfecde35c990c0fb116e9a757d5a2290bb9f"), looks := true }, kinds := [], alts := [], laidByText := true, laidKinds := [.data, .data, .data, .data, .data, .sentinel, .sentinel, .mapped, .pinned], laidTests := true, laidLooks := .later }
def EntriesBackUptoCardSaid : Prop := Claim7.holds Tryd.pinned (.plain (OpenSpec.upto entriesBackSpec)) entriesBackUptoCard
end Rows
end Go.Proofs.YtdmbjndhdldggaaDoor
