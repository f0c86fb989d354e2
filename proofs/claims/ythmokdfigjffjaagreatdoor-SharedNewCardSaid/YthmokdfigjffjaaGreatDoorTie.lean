/-
  DERIVED. GIVEN WITH THE SEED: THE PROGRAM's TIES (one call each: nine closed facts by the kernel) AND EACH ROW's TIE, after the 31st guide's Derived/Test/Toyas{Tie, Card}.lean. No idea stands in it: it is a product of the set-up. Laid BY PROGRAM, IN A SANDBOX (cutbox-door.mjs). By AI agents, Wed Nov 11 2026. No macro, syntax, notation, axiom, sorry.
-/
import Derived.Test.YthmokdfigjffjaaGreatDoorRows
import Derived.LaidByTextLater
import Derived.SevenTiedAt
import Derived.LaidSub
import Derived.LaidOnce
namespace Go.Proofs.YthmokdfigjffjaaGreatDoor
open Go
set_option maxRecDepth 100000
theorem seatTie1 : Tryz.prog.laidByTextLater [("porter/track.lasts", Rows.laid_porter_track_lasts), ("porter/icmp.kinds", Rows.laid_porter_icmp_kinds), ("porter/tuples.words", Rows.laid_porter_tuples_words)] [.data, .mapped, .mapped] true :=
  Program.laidByTextLater_by_one 77 8 33 (by kernel_rfl) (by kernel_rfl) (by kernel_rfl) (by kernel_rfl) (by kernel_rfl) (by kernel_rfl) (fun _ _ => by kernel_rfl)
theorem noOwnUnsafe : Tryz.pinned.checked.prog.headLifts.contains "ownunsafe" = false := by kernel_rfl
theorem tie : Tryz.prog.laidByTextLater [("porter/track.lasts", Rows.laid_porter_track_lasts), ("porter/icmp.kinds", Rows.laid_porter_icmp_kinds), ("porter/tuples.words", Rows.laid_porter_tuples_words)] [.data, .mapped, .mapped] true :=
  Program.laidByTextLater.sub seatTie1 ["porter/track.lasts", "porter/icmp.kinds", "porter/tuples.words"] (by kernel_rfl) (by kernel_rfl)
theorem sharedNew_row_tie : Rows.sharedNewRow.laidByTextAt .later Tryz.pinned [.data, .mapped, .mapped] true :=
  OpenClaim.laidByTextAt_later rfl rfl tie noOwnUnsafe
theorem sharedNewUpto_row_tie : Rows.sharedNewUptoRow.laidByTextAt .later Tryz.pinned [.data, .mapped, .mapped] true :=
  OpenClaim.laidByTextAt_later rfl rfl tie noOwnUnsafe
end Go.Proofs.YthmokdfigjffjaaGreatDoor
