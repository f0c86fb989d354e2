/- Chapter 18: numbers, and what the variables hold (of chapter 03's text, by gen18.py): what the library lays ahead; FormatUint; number. -/
import Derived.Test.YtaiimkcmgiceeaaDoorBase
import Derived.Test.YtaiimkcmgiceeaaDoorShelf
import Derived.Test.YtaiimkcmgiceeaaDoorAd
import Derived.Lib.AppendIntMem
import Derived.Lib.AtoiErrMem
import Derived.Lib.ItoaLen
import Derived.Shelf.Strconv.Itoa3
namespace Go.Proofs.YtaiimkcmgiceeaaDoor
set_option linter.unusedVariables false
set_option linter.unusedSimpArgs false
open Go.RowKit Go.Lib Go.Sort

/-- How long a state lasts. -/
def lastN (f s : Nat) : Int := (([[0, 0, 0, 0, 0, 0, 0, 0], [0, 120, 300, 0, 0, 0, 0, 0], [0, 60, 60, 0, 0, 0, 0, 0], [0, 240, 240, 7440, 240, 240, 240, 240]] : List (List Int)).getD f []).getD s 0
/-- A protocol's word. -/
def wordOf (k : Nat) : List UInt8 := if k = 1 then [105, 99, 109, 112] else if k = 6 then [116, 99, 112] else if k = 17 then [117, 100, 112] else []
def isWord (k : Nat) : Bool := decide (k = 1 ∨ k = 6 ∨ k = 17)
/-- What the library's and the program's variables hold. -/
structure Tb (w : World) : Prop where
  pow : TabIs Tryd.prog w "internal/strconv.uint64pow10" .u64 pow10Tab
  lasts : ∀ f s, f < 4 → s < 8 → w.cell? ⟨0, f * 8 + s, none⟩ = some (.int .i64 (lastN f s))
  words : ∃ bm o, w.cell? ⟨1, 0, none⟩ = some (.map (some bm)) ∧ w.heap[bm]? = some o ∧ ∀ W : World, W.heap[bm]? = some o → ∀ k : Nat, k < 256 →
    (Instr.lookup 91 (.map (some bm)) (.int .u8 k) true).run Tryd.prog W = .ok (.tuple #[.string ⟨(wordOf k).toArray⟩, .bool (isWord k)]) W ∧
    (Instr.lookup 91 (.map (some bm)) (.int .u8 k) false).run Tryd.prog W = .ok (.string ⟨(wordOf k).toArray⟩) W
theorem Tb.low {w w' : World} (h : Tb w) (hf : NoW w w') : Tb w' := by
  obtain ⟨hp, hl, bm, o, h1, h2, h3⟩ := h
  refine ⟨tabBelow_of_tabIs hp _ hf.below, fun f s a b => (hf.cell (cell_lt (hl f s a b)) id).trans (hl f s a b), bm, o, (hf.cell (cell_lt h1) id).trans h1, ?_, h3⟩
  exact (hf.block _ (Array.getElem?_eq_some_iff.1 h2).1 id).trans h2
theorem noW_grow (w : World) (k : Nat) (os : Array Obj) : NoW w (grow (w.drewN k) os) := Fp.of_below (below_grow _ w (Nat.le_refl _) k os)
theorem noW_bytes (w : World) (e : TypeId) (s : ByteArray) : NoW w (bytesWorld w e s) := Fp.of_below (bytesWorld_below w e s)

/-- A text, as a list of bytes. -/
abbrev str (l : List UInt8) : Value := .string ⟨l.toArray⟩
theorem str_of (s : ByteArray) : ∃ l : List UInt8, s = ⟨l.toArray⟩ ∧ l.length = s.size := ⟨s.data.toList, by cases s; simp, by cases s; simp [ByteArray.size]⟩

theorem holds_zero0 (w : World) (T : TypeId) (nd : Nat) (hs : nd ≤ 24) : Holds (fun (b : UInt8) => Value.int .u8 (b.toNat : Int)) (w.alloc (.cells zeros24 T)) w.heap.size 0 (Array.replicate nd (0 : UInt8)) := fun j hj => by
  have hj' : j < nd := by simpa using hj
  refine ⟨?_, World.frozen?_alloc_new _ _ _ _⟩
  rw [World.cell?_alloc_new, zeros24_at _ (by omega), getElem!_pos _ j hj]
  simp

end Go.Proofs.YtaiimkcmgiceeaaDoor
