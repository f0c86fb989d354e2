/-
  NARROWER THAN 'FOR EVERY INPUT', by the rows' own cells (each row's printed sentence says how): AuditLook: laid.
  DERIVED. THE GIVEN ROWS OF THIS SEAT. 1 by the template 'for every input the law returns true; each argument reads behind the call as it read before'; 0 by the template 'total and deterministic' (their statements: YtcimbbllefkdlaaGreatDoorTotals.lean).
  GIVEN WITH THE SEED: the statements are not yours to turn. If you find one false, say at which input.
  Laid BY PROGRAM, IN A SANDBOX (cutbox-rows.mjs): the forced cells as the released guide's own fill.sh prints them over the translation 2c4061e295f4a1e1… (all of the seat's roots in one cut). By AI agents, Wed Nov 11 2026. No macro, syntax, notation, axiom, sorry.
-/
import Derived.Test.YtcimbbllefkdlaaGreatDoorChecked
import GoSem.Claim
import GoSem.ClaimJoined
import GoSem.ClaimMapViews
import Derived.JoinedTies
import Derived.KernelRfl
namespace Go.Proofs.YtcimbbllefkdlaaGreatDoor
/- THE CELL 'sum', in the pinned program and in every row, IS THE sha256 OF THE DUMP (.gsa) THAT YtcimbbllefkdlaaGreatDoorProg.lean LOADS. Nothing in Lean hashes anything: it is a label: what it is worth is what the hold of that sum in a sandbox is worth. -/
noncomputable def Tryz.pinned : Pinned := { name := "ytcimbbllefkdlaagreatdoor", sum := "2c4061e295f4a1e14153296e17a1d9285c00dceb8061fcf625296dbbc0d2fd4b", checked := Tryz.checked }
namespace Rows
def none {H : Type} : Left H := { results := [], args := [] }

/- WHAT THE LISTED PACKAGE-LEVEL VARIABLES READ AS WHEN THE CALL BEGINS. Each datum BY PROGRAM (the guide's laid-datum.mjs) off the statement by which the dump's own 'gosem.cut.vars' lays the variable. In a bare row this is a premise. The card (YtcimbbllefkdlaaGreatDoorCards.lean) ties it to the program's text. -/
def laid_porter_track_lasts {H : Type} : DataW H := .agg [.agg [.lit (.int .i64 0), .lit (.int .i64 0), .lit (.int .i64 0), .lit (.int .i64 0), .lit (.int .i64 0), .lit (.int .i64 0), .lit (.int .i64 0), .lit (.int .i64 0)], .agg [.lit (.int .i64 0), .lit (.int .i64 120), .lit (.int .i64 300), .lit (.int .i64 0), .lit (.int .i64 0), .lit (.int .i64 0), .lit (.int .i64 0), .lit (.int .i64 0)], .agg [.lit (.int .i64 0), .lit (.int .i64 60), .lit (.int .i64 60), .lit (.int .i64 0), .lit (.int .i64 0), .lit (.int .i64 0), .lit (.int .i64 0), .lit (.int .i64 0)], .agg [.lit (.int .i64 0), .lit (.int .i64 240), .lit (.int .i64 240), .lit (.int .i64 7440), .lit (.int .i64 240), .lit (.int .i64 240), .lit (.int .i64 240), .lit (.int .i64 240)]]
def laid_porter_tuples_words {H : Type} : DataW H := .map [(.int .u8 1, .lit (.string [105, 99, 109, 112])), (.int .u8 6, .lit (.string [116, 99, 112])), (.int .u8 17, .lit (.string [117, 100, 112]))]

/-- 'porterlaw28.AuditLook': WHATEVER THE INPUT: true; the input reads as it did. -/
def auditLookSpec : ChangeSpec := { name := "auditLook", fn := fun _ => fun
  | [d1, d2] => { results := [.lit (.bool true)], args := [d1, d2] }
  | _ => none }
def auditLookRow : OpenClaim := { program := "ytcimbbllefkdlaagreatdoor", sum := "2c4061e295f4a1e14153296e17a1d9285c00dceb8061fcf625296dbbc0d2fd4b", func := "porter/porterlaw28.AuditLook", spec := "auditLook", inPlace := ["internal/abi.NoEscape"], unfollowed := true, recurses := true, named := ["porter/tuples.words", "porter/track.lasts"], plainKeys := false, apart := false, laid := [("porter/track.lasts", laid_porter_track_lasts), ("porter/tuples.words", laid_porter_tuples_words)] }
def AuditLookSaid : Prop := auditLookRow.holds Tryz.pinned (OpenSpec.ofChange auditLookSpec)

/-- ITS FALSE NEIGHBOUR: 'it returns false'. Refute it at one input. -/
def auditLookWrong : ChangeSpec := { name := "auditLook", fn := fun _ => fun
  | [d1, d2] => { results := [.lit (.bool false)], args := [d1, d2] }
  | _ => none }
def AuditLookWrongFalsely : Prop := auditLookRow.holds Tryz.pinned (OpenSpec.ofChange auditLookWrong)

/- THE SECOND FORM. 'bulk': how many values and letters a reading holds, each counted each time it is reached (what is shared counts as often as it is met; a slice's spare places count too). A statement '..UptoSaid' is the law's where the arguments, and the package variables that the reading takes, are together of bulk at most 1048576: NARROWER than '..Said'. Prove '..Said' where nothing that the law and all that it calls make is longer than what came in: it says more and counts as full. Else prove '..UptoSaid'. A law counts once. -/
mutual
def uptoBulk {H : Type} : DataW H → Nat
  | .lit (.string bytes) => bytes.length + 1
  | .lit _ => 1
  | .nil => 1
  | .ptr d => uptoBulk d + 1
  | .slice elems spare => uptoBulkAll elems + uptoBulkAll spare + 1
  | .agg parts => uptoBulkAll parts + 1
  | .iface _ d => uptoBulk d + 1
  | .map entries => uptoBulkEntries entries + 1
  | .held _ => 1
def uptoBulkAll {H : Type} : List (DataW H) → Nat
  | [] => 0
  | d :: r => uptoBulk d + uptoBulkAll r
def uptoBulkEntries {H : Type} : List (Lit × DataW H) → Nat
  | [] => 0
  | x :: r => uptoBulkEntry x + uptoBulkEntries r
def uptoBulkEntry {H : Type} : Lit × DataW H → Nat
  | (.string bytes, d) => bytes.length + uptoBulk d + 1
  | (_, d) => uptoBulk d + 1
 end
def uptoSmall : (H : Type) → List (DataW H) → Bool := fun _ ds => decide (uptoBulkAll ds ≤ 1048576)
def OpenSpec.upto (s : _root_.Go.ChangeSpec) : _root_.Go.OpenSpec := { _root_.Go.OpenSpec.ofChange s with cond := some uptoSmall }

/-- 'porterlaw28.AuditLook', WHERE WHAT IT READS IS OF BULK AT MOST 1048576: true; the input reads as it did. -/
def auditLookUptoRow : OpenClaim := { program := "ytcimbbllefkdlaagreatdoor", sum := "2c4061e295f4a1e14153296e17a1d9285c00dceb8061fcf625296dbbc0d2fd4b", func := "porter/porterlaw28.AuditLook", spec := "auditLook", inPlace := ["internal/abi.NoEscape"], unfollowed := true, recurses := true, named := ["porter/tuples.words", "porter/track.lasts"], plainKeys := false, apart := false, laid := [("porter/track.lasts", laid_porter_track_lasts), ("porter/tuples.words", laid_porter_tuples_words)], narrowed := true }
def AuditLookUptoSaid : Prop := auditLookUptoRow.holds Tryz.pinned (OpenSpec.upto auditLookSpec)

end Rows
end Go.Proofs.YtcimbbllefkdlaaGreatDoor
