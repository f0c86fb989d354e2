/-
  DERIVED. GIVEN WITH THE SEED: THE CARDS: each row of YtaiimkcmgiceeaaDoorRows.lean that lists a variable, with what it lists TIED to the program's text (the seventh form; the later family's looks); each row that meets fmt, with fmt's text TOLD by the authors' own Lean function (tested against real Go, not proved from fmt's source: count such statements apart). THE CARD IS WHAT COUNTS. Prove the row's statement (the work); the ties are given (YtaiimkcmgiceeaaDoorTie.lean); close each card by the builder's one call (the guide's Derived/Test/ToyasCard.lean, 'card_holds'). Laid BY PROGRAM, IN A SANDBOX (cutbox-door.mjs). By AI agents, Wed Nov 11 2026. No macro, syntax, notation, axiom, sorry.
-/
import Derived.Test.YtaiimkcmgiceeaaDoorRows
import GoSem.ClaimSeven
namespace Go.Proofs.YtaiimkcmgiceeaaDoor
namespace Rows

/-- THE TIED CARD OF 'porterlaw18.EntriesAmong'. -/
def entriesAmongCard : Claim7 := { stood := { row := entriesAmongRow, standIns := [], harness := (true, "9aea4a631603bbf3e4ae36e2be37d8a59ec5f6f6a763731719782c5c2056f845"), looks := false }, kinds := [], alts := [], laidByText := true, laidKinds := [.data, .data, .data, .data, .mapped], laidTests := true, laidLooks := .later }
def EntriesAmongCardSaid : Prop := Claim7.holds Tryd.pinned (.plain (OpenSpec.ofChange entriesAmongSpec)) entriesAmongCard

/-- THE SECOND FORM's CARD OF 'porterlaw18.EntriesAmong'. -/
def entriesAmongUptoCard : Claim7 := { stood := { row := entriesAmongUptoRow, standIns := [], harness := (true, "9aea4a631603bbf3e4ae36e2be37d8a59ec5f6f6a763731719782c5c2056f845"), looks := false }, kinds := [], alts := [], laidByText := true, laidKinds := [.data, .data, .data, .data, .mapped], laidTests := true, laidLooks := .later }
def EntriesAmongUptoCardSaid : Prop := Claim7.holds Tryd.pinned (.plain (OpenSpec.upto entriesAmongSpec)) entriesAmongUptoCard
end Rows
end Go.Proofs.YtaiimkcmgiceeaaDoor
