/-
  No cell of these rows narrows 'for every input' (looked for: loops, veiled, ifaces, maps, wideKeys, modest, calm, conditions, laid).
  DERIVED. THE GIVEN ROWS OF THIS SEAT. 4 by the template 'for every input the law returns true; each argument reads behind the call as it read before'; 0 by the template 'total and deterministic' (their statements: YtmhjdjndckeepaaTotals.lean).
  GIVEN WITH THE SEED: the statements are not yours to turn. If you find one false, say at which input.
  Laid BY PROGRAM, IN A SANDBOX (cutbox-rows.mjs): the forced cells as the released guide's own fill.sh prints them over the translation 6f67179348bf0c2f… (all of the seat's roots in one cut). By AI agents, Wed Nov 11 2026. No macro, syntax, notation, axiom, sorry.
-/
import Derived.Test.YtmhjdjndckeepaaChecked
import GoSem.Claim
import GoSem.ClaimJoined
import GoSem.ClaimMapViews
import Derived.JoinedTies
import Derived.KernelRfl
namespace Go.Proofs.Ytmhjdjndckeepaa
/- THE CELL 'sum', in the pinned program and in every row, IS THE sha256 OF THE DUMP (.gsa) THAT YtmhjdjndckeepaaProg.lean LOADS. Nothing in Lean hashes anything: it is a label: what it is worth is what the hold of that sum in a sandbox is worth. -/
noncomputable def Try.pinned : Pinned := { name := "ytmhjdjndckeepaa", sum := "6f67179348bf0c2fbc484800c620130871ce2e5f4ba84c2ec7b7a67d935d357e", checked := Try.checked }
namespace Rows
def none {H : Type} : Left H := { results := [], args := [] }

/-- 'porterlaw19.ChainsWalk': WHATEVER THE INPUT: true; the input reads as it did. -/
def chainsWalkSpec : ChangeSpec := { name := "chainsWalk", fn := fun _ => fun
  | [d1, d2] => { results := [.lit (.bool true)], args := [d1, d2] }
  | _ => none }
def chainsWalkRow : OpenClaim := { program := "ytmhjdjndckeepaa", sum := "6f67179348bf0c2fbc484800c620130871ce2e5f4ba84c2ec7b7a67d935d357e", func := "porter/porterlaw19.ChainsWalk", spec := "chainsWalk", plainKeys := false, apart := false }
def ChainsWalkSaid : Prop := chainsWalkRow.holds Try.pinned (OpenSpec.ofChange chainsWalkSpec)

/-- ITS FALSE NEIGHBOUR: 'it returns false'. Refute it at one input. -/
def chainsWalkWrong : ChangeSpec := { name := "chainsWalk", fn := fun _ => fun
  | [d1, d2] => { results := [.lit (.bool false)], args := [d1, d2] }
  | _ => none }
def ChainsWalkWrongFalsely : Prop := chainsWalkRow.holds Try.pinned (OpenSpec.ofChange chainsWalkWrong)

/-- 'porterlaw19.ChainsPlay': WHATEVER THE INPUT: true; the input reads as it did. -/
def chainsPlaySpec : ChangeSpec := { name := "chainsPlay", fn := fun _ => fun
  | [d1, d2] => { results := [.lit (.bool true)], args := [d1, d2] }
  | _ => none }
def chainsPlayRow : OpenClaim := { program := "ytmhjdjndckeepaa", sum := "6f67179348bf0c2fbc484800c620130871ce2e5f4ba84c2ec7b7a67d935d357e", func := "porter/porterlaw19.ChainsPlay", spec := "chainsPlay", plainKeys := false, apart := false }
def ChainsPlaySaid : Prop := chainsPlayRow.holds Try.pinned (OpenSpec.ofChange chainsPlaySpec)

/-- ITS FALSE NEIGHBOUR: 'it returns false'. Refute it at one input. -/
def chainsPlayWrong : ChangeSpec := { name := "chainsPlay", fn := fun _ => fun
  | [d1, d2] => { results := [.lit (.bool false)], args := [d1, d2] }
  | _ => none }
def ChainsPlayWrongFalsely : Prop := chainsPlayRow.holds Try.pinned (OpenSpec.ofChange chainsPlayWrong)

/-- 'porterlaw19.ChainsNone': WHATEVER THE INPUT: true; the input reads as it did. -/
def chainsNoneSpec : ChangeSpec := { name := "chainsNone", fn := fun _ => fun
  | [d] => { results := [.lit (.bool true)], args := [d] }
  | _ => none }
def chainsNoneRow : OpenClaim := { program := "ytmhjdjndckeepaa", sum := "6f67179348bf0c2fbc484800c620130871ce2e5f4ba84c2ec7b7a67d935d357e", func := "porter/porterlaw19.ChainsNone", spec := "chainsNone", plainKeys := false, apart := false }
def ChainsNoneSaid : Prop := chainsNoneRow.holds Try.pinned (OpenSpec.ofChange chainsNoneSpec)

/-- ITS FALSE NEIGHBOUR: 'it returns false'. Refute it at one input. -/
def chainsNoneWrong : ChangeSpec := { name := "chainsNone", fn := fun _ => fun
  | [d] => { results := [.lit (.bool false)], args := [d] }
  | _ => none }
def ChainsNoneWrongFalsely : Prop := chainsNoneRow.holds Try.pinned (OpenSpec.ofChange chainsNoneWrong)

/-- 'porterlaw19.ChainsApart': WHATEVER THE INPUT: true; the input reads as it did. -/
def chainsApartSpec : ChangeSpec := { name := "chainsApart", fn := fun _ => fun
  | [d1, d2] => { results := [.lit (.bool true)], args := [d1, d2] }
  | _ => none }
def chainsApartRow : OpenClaim := { program := "ytmhjdjndckeepaa", sum := "6f67179348bf0c2fbc484800c620130871ce2e5f4ba84c2ec7b7a67d935d357e", func := "porter/porterlaw19.ChainsApart", spec := "chainsApart", plainKeys := false, apart := false }
def ChainsApartSaid : Prop := chainsApartRow.holds Try.pinned (OpenSpec.ofChange chainsApartSpec)

/-- ITS FALSE NEIGHBOUR: 'it returns false'. Refute it at one input. -/
def chainsApartWrong : ChangeSpec := { name := "chainsApart", fn := fun _ => fun
  | [d1, d2] => { results := [.lit (.bool false)], args := [d1, d2] }
  | _ => none }
def ChainsApartWrongFalsely : Prop := chainsApartRow.holds Try.pinned (OpenSpec.ofChange chainsApartWrong)

/- THE SECOND FORM. 'bulk': how many values and letters a reading holds, each counted each time it is reached (what is shared counts as often as it is met; a slice's spare places count too). A statement '..UptoSaid' is the law's where the arguments, and the package variables that the reading takes, are together of bulk at most 1048576: NARROWER than '..Said'. Prove '..Said' where nothing that the law and all that it calls make is longer than what came in: it says more and counts as full. Else prove '..UptoSaid'. A law counts once. -/
mutual
def uptoBulk {H : Type} : DataW H → Nat
  | .lit (.string bytes) => bytes.length + 1
  | .lit _ => 1
  | .nil => 1
  | .ptr d => uptoBulk d + 1
  | .slice elems spare => uptoBulkAll elems + uptoBulkAll spare + 1
  | .agg parts => uptoBulkAll parts + 1
  | .iface _ d => uptoBulk d + 1
  | .map entries => uptoBulkEntries entries + 1
  | .held _ => 1
def uptoBulkAll {H : Type} : List (DataW H) → Nat
  | [] => 0
  | d :: r => uptoBulk d + uptoBulkAll r
def uptoBulkEntries {H : Type} : List (Lit × DataW H) → Nat
  | [] => 0
  | x :: r => uptoBulkEntry x + uptoBulkEntries r
def uptoBulkEntry {H : Type} : Lit × DataW H → Nat
  | (.string bytes, d) => bytes.length + uptoBulk d + 1
  | (_, d) => uptoBulk d + 1
 end
def uptoSmall : (H : Type) → List (DataW H) → Bool := fun _ ds => decide (uptoBulkAll ds ≤ 1048576)
def OpenSpec.upto (s : _root_.Go.ChangeSpec) : _root_.Go.OpenSpec := { _root_.Go.OpenSpec.ofChange s with cond := some uptoSmall }

/-- 'porterlaw19.ChainsWalk', WHERE WHAT IT READS IS OF BULK AT MOST 1048576: true; the input reads as it did. -/
def chainsWalkUptoRow : OpenClaim := { program := "ytmhjdjndckeepaa", sum := "6f67179348bf0c2fbc484800c620130871ce2e5f4ba84c2ec7b7a67d935d357e", func := "porter/porterlaw19.ChainsWalk", spec := "chainsWalk", plainKeys := false, apart := false, narrowed := true }
def ChainsWalkUptoSaid : Prop := chainsWalkUptoRow.holds Try.pinned (OpenSpec.upto chainsWalkSpec)

/-- 'porterlaw19.ChainsPlay', WHERE WHAT IT READS IS OF BULK AT MOST 1048576: true; the input reads as it did. -/
def chainsPlayUptoRow : OpenClaim := { program := "ytmhjdjndckeepaa", sum := "6f67179348bf0c2fbc484800c620130871ce2e5f4ba84c2ec7b7a67d935d357e", func := "porter/porterlaw19.ChainsPlay", spec := "chainsPlay", plainKeys := false, apart := false, narrowed := true }
def ChainsPlayUptoSaid : Prop := chainsPlayUptoRow.holds Try.pinned (OpenSpec.upto chainsPlaySpec)

/-- 'porterlaw19.ChainsNone', WHERE WHAT IT READS IS OF BULK AT MOST 1048576: true; the input reads as it did. -/
def chainsNoneUptoRow : OpenClaim := { program := "ytmhjdjndckeepaa", sum := "6f67179348bf0c2fbc484800c620130871ce2e5f4ba84c2ec7b7a67d935d357e", func := "porter/porterlaw19.ChainsNone", spec := "chainsNone", plainKeys := false, apart := false, narrowed := true }
def ChainsNoneUptoSaid : Prop := chainsNoneUptoRow.holds Try.pinned (OpenSpec.upto chainsNoneSpec)

/-- 'porterlaw19.ChainsApart', WHERE WHAT IT READS IS OF BULK AT MOST 1048576: true; the input reads as it did. -/
def chainsApartUptoRow : OpenClaim := { program := "ytmhjdjndckeepaa", sum := "6f67179348bf0c2fbc484800c620130871ce2e5f4ba84c2ec7b7a67d935d357e", func := "porter/porterlaw19.ChainsApart", spec := "chainsApart", plainKeys := false, apart := false, narrowed := true }
def ChainsApartUptoSaid : Prop := chainsApartUptoRow.holds Try.pinned (OpenSpec.upto chainsApartSpec)

end Rows
end Go.Proofs.Ytmhjdjndckeepaa
