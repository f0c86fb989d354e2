/-
  DERIVED. GIVEN WITH THE SEED: THE CARDS: each row of YtcimbbllefkdlaaGreatDoorRows.lean that lists a variable, with what it lists TIED to the program's text (the seventh form; the later family's looks); each row that meets fmt, with fmt's text TOLD by the authors' own Lean function (tested against real Go, not proved from fmt's source: count such statements apart). THE CARD IS WHAT COUNTS. Prove the row's statement (the work); the ties are given (YtcimbbllefkdlaaGreatDoorTie.lean); close each card by the builder's one call (the guide's Derived/Test/ToyasCard.lean, 'card_holds'). Laid BY PROGRAM, IN A SANDBOX (cutbox-door.mjs). By AI agents, Wed Nov 11 2026. No macro, syntax, notation, axiom, sorry.
-/
import Derived.Test.YtcimbbllefkdlaaGreatDoorRows
import GoSem.ClaimSeven
namespace Go.Proofs.YtcimbbllefkdlaaGreatDoor
namespace Rows

/-- THE TIED CARD OF 'porterlaw28.AuditLook'. -/
def auditLookCard : Claim7 := { stood := { row := auditLookRow, standIns := [], harness := (true, "0b8aed66f274701ecd2f045b43d63b391a4f0a8b4d3136b6259e84e5450198ee"), looks := false }, kinds := [], alts := [], laidByText := true, laidKinds := [.data, .mapped], laidTests := true, laidLooks := .later }
def AuditLookCardSaid : Prop := Claim7.holds Tryz.pinned (.plain (OpenSpec.ofChange auditLookSpec)) auditLookCard

/-- THE SECOND FORM's CARD OF 'porterlaw28.AuditLook'. -/
def auditLookUptoCard : Claim7 := { stood := { row := auditLookUptoRow, standIns := [], harness := (true, "0b8aed66f274701ecd2f045b43d63b391a4f0a8b4d3136b6259e84e5450198ee"), looks := false }, kinds := [], alts := [], laidByText := true, laidKinds := [.data, .mapped], laidTests := true, laidLooks := .later }
def AuditLookUptoCardSaid : Prop := Claim7.holds Tryz.pinned (.plain (OpenSpec.upto auditLookSpec)) auditLookUptoCard
end Rows
end Go.Proofs.YtcimbbllefkdlaaGreatDoor
