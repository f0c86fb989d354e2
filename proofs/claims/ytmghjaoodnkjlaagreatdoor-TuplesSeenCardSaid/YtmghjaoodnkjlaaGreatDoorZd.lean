/- Chapter 18: the document's number. · Chapter 18: the document's Digits. -/
import Derived.Test.YtmghjaoodnkjlaaGreatDoorZr
import Derived.Laws.BytesString
import Derived.Laws.Cells
namespace Go.Proofs.YtmghjaoodnkjlaaGreatDoor
set_option linter.unusedVariables false
set_option linter.unusedSimpArgs false
open Go.RowKit Go.Lib Go.Sort
def digsB (l : List UInt8) : Bool := l.all fun c => decide (48 ≤ c.toNat ∧ c.toNat ≤ 57)
theorem digsB_iff {l : List UInt8} : digsB l = true ↔ ∀ c, c ∈ l → 48 ≤ c.toNat ∧ c.toNat ≤ 57 := by simp [digsB]
/-- What the document's number reads. -/
def numI (l : List UInt8) : Int := if l ≠ [] ∧ l.length ≤ 15 ∧ digsB l = true then (val l : Int) else -1
end Go.Proofs.YtmghjaoodnkjlaaGreatDoor
namespace Go.Proofs.YtmghjaoodnkjlaaGreatDoor
set_option linter.unusedVariables false
set_option linter.unusedSimpArgs false
open Go.RowKit Go.Lib Go.Sort
/-- A number's last digit, as a byte. -/
def dig (n : Nat) : UInt8 := UInt8.ofNat (48 + n % 10)
theorem byte_conv (n : Nat) (W : World) : (convert 122 9 (.slice (some ⟨W.heap.size, 0, none⟩) 1 1)).run Tryz.prog (W.alloc (.cells #[.int .u8 (48 + (n : Int) % 10)] 5)) = .ok (str [dig n]) (W.alloc (.cells #[.int .u8 (48 + (n : Int) % 10)] 5)) := by
  rw [run_convert_bytes_string _ _ _ 5 _ _ _ Tryz.underlying122 Tryz.underlying5 Tryz.underlying9]
  have hb := heap_alloc_new W (.cells #[.int .u8 (48 + (n : Int) % 10)] 5)
  generalize W.alloc (.cells #[.int .u8 (48 + (n : Int) % 10)] 5) = w1 at *
  have h := run_bytesToString (P := Tryz.prog) w1 ⟨W.heap.size, 0, none⟩ 1 1 [48 + (n : Int) % 10] (by
    have := run_loadCells_list (P := Tryz.prog) (w := w1) ⟨W.heap.size, 0, none⟩ [.int .u8 (48 + (n : Int) % 10)] (fun j v hj => by
      match j, hj with
      | 0, hj => simp at hj; simp [World.cell?, Addr.add, hb, ← hj]
      | j + 1, hj => simp at hj)
    simpa using this)
  rw [h]
  have e : (48 + (n : Int) % 10).toNat = 48 + n % 10 := by omega
  simp only [List.foldl_cons, List.foldl_nil, e]
  rfl
end Go.Proofs.YtmghjaoodnkjlaaGreatDoor
