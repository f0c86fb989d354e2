/-
  DERIVED. GIVEN WITH THE SEED: THE CARDS: each row of YthmokdfigjffjaaGreatDoorRows.lean that lists a variable, with what it lists TIED to the program's text (the seventh form; the later family's looks); each row that meets fmt, with fmt's text TOLD by the authors' own Lean function (tested against real Go, not proved from fmt's source: count such statements apart). THE CARD IS WHAT COUNTS. Prove the row's statement (the work); the ties are given (YthmokdfigjffjaaGreatDoorTie.lean); close each card by the builder's one call (the guide's Derived/Test/ToyasCard.lean, 'card_holds'). Laid BY PROGRAM, IN A SANDBOX (cutbox-door.mjs). By AI agents, Wed Nov 11 2026. No macro, syntax, notation, axiom, sorry.
-/
import Derived.Test.YthmokdfigjffjaaGreatDoorRows
import GoSem.ClaimSeven
namespace Go.Proofs.YthmokdfigjffjaaGreatDoor
namespace Rows

/-- THE TIED CARD OF 'porterlaw22.SharedNew'. -/
def sharedNewCard : Claim7 := { stood := { row := sharedNewRow, standIns := [], harness := (true, "e95a0196c5e4cdb14defa15d23ca23f4328e5882ff24cfeab53bf9f85421b39d"), looks := false }, kinds := [], alts := [], laidByText := true, laidKinds := [.data, .mapped, .mapped], laidTests := true, laidLooks := .later }
def SharedNewCardSaid : Prop := Claim7.holds Tryz.pinned (.plain (OpenSpec.ofChange sharedNewSpec)) sharedNewCard

/-- THE SECOND FORM's CARD OF 'porterlaw22.SharedNew'. -/
def sharedNewUptoCard : Claim7 := { stood := { row := sharedNewUptoRow, standIns := [], harness := (true, "e95a0196c5e4cdb14defa15d23ca23f4328e5882ff24cfeab53bf9f85421b39d"), looks := false }, kinds := [], alts := [], laidByText := true, laidKinds := [.data, .mapped, .mapped], laidTests := true, laidLooks := .later }
def SharedNewUptoCardSaid : Prop := Claim7.holds Tryz.pinned (.plain (OpenSpec.upto sharedNewSpec)) sharedNewUptoCard
end Rows
end Go.Proofs.YthmokdfigjffjaaGreatDoor
