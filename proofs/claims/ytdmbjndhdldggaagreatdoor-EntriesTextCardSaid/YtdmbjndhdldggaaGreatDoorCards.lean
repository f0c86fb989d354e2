/-
  DERIVED. GIVEN WITH THE SEED: THE CARDS: each row of YtdmbjndhdldggaaGreatDoorRows.lean that lists a variable, with what it lists TIED to the program's text (the seventh form; the later family's looks); each row that meets fmt, with fmt's text TOLD by the authors' own Lean function (tested against real Go, not proved from fmt's source: count such statements apart). THE CARD IS WHAT COUNTS. Prove the row's statement (the work); the ties are given (YtdmbjndhdldggaaGreatDoorTie.lean); close each card by the builder's one call (the guide's Derived/Test/ToyasCard.lean, 'card_holds'). Laid BY PROGRAM, IN A SANDBOX (cutbox-door.mjs). By AI agents, Wed Nov 11 2026. No macro, syntax, notation, axiom, sorry.
-/
import Derived.Test.YtdmbjndhdldggaaGreatDoorRows
import GoSem.ClaimSeven
namespace Go.Proofs.YtdmbjndhdldggaaGreatDoor
namespace Rows

/-- THE TIED CARD OF 'porterlaw18.EntriesText'. -/
def entriesTextCard : Claim7 := { stood := { row := entriesTextRow, standIns := [], harness := (true, "d324e351113e6e986d14f7e94292b681bb442daa37ce9d083bd649a58c17d3a1"), looks := true }, kinds := [], alts := [], laidByText := true, laidKinds := [.data, .data, .data, .data, .data, .sentinel, .sentinel, .mapped, .pinned], laidTests := true, laidLooks := .later }
def EntriesTextCardSaid : Prop := Claim7.holds Tryz.pinned (.plain (OpenSpec.ofChange entriesTextSpec)) entriesTextCard

/-- THE SECOND FORM's CARD OF 'porterlaw18.EntriesText'. -/
def entriesTextUptoCard : Claim7 := { stood := { row := entriesTextUptoRow, standIns := [], harness := (true, "d324e351113e6e986d14f7e94292b681bb442daa37ce9d083bd649a58c17d3a1"), looks := true }, kinds := [], alts := [], laidByText := true, laidKinds := [.data, .data, .data, .data, .data, .sentinel, .sentinel, .mapped, .pinned], laidTests := true, laidLooks := .later }
def EntriesTextUptoCardSaid : Prop := Claim7.holds Tryz.pinned (.plain (OpenSpec.upto entriesTextSpec)) entriesTextUptoCard
end Rows
end Go.Proofs.YtdmbjndhdldggaaGreatDoor
