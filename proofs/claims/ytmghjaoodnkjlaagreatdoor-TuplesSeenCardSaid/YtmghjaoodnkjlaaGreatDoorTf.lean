/- Chapter 08: slices of texts; stores of whole structs (written by gentf.py). -/
import Derived.Test.YtmghjaoodnkjlaaGreatDoorTe
import Derived.Test.YtmghjaoodnkjlaaGreatDoorEpT
import Derived.Test.YtmghjaoodnkjlaaGreatDoorZw
namespace Go.Proofs.YtmghjaoodnkjlaaGreatDoor
set_option linter.unusedVariables false
set_option linter.unusedSimpArgs false
open Go.RowKit Go.Lib Go.Sort
theorem ext_cut (l : List UInt8) (a b : Nat) : (⟨l.toArray⟩ : ByteArray).extract a b = ⟨((l.take b).drop a).toArray⟩ := by rw [ext_mid, ← List.drop_take]
theorem run_cut (l : List UInt8) {i j : Nat} {zi zj : Int} (hi : zi = (i : Int)) (hj : zj = (j : Int)) (h1 : i ≤ j) (h2 : j ≤ l.length) (W : World) :
    (Instr.sliceAt 9 (str l) (some (.int .i64 zi)) (some (.int .i64 zj)) none).run Tryz.prog W = .ok (str ((l.take j).drop i)) W := by
  subst hi; subst hj
  rw [run_sliceAt_string W 9 _ _ _ _ Tryz.underlying9, run_slice_string W 9 _ _ _ _ _ Tryz.underlying9 (by omega) (by omega) (by simpa [ByteArray.size] using h2)]
  simp only [Int.toNat_natCast]
  rw [ext_mid, ← List.drop_take]
theorem run_cutTo (l : List UInt8) {j : Nat} {zj : Int} (hj : zj = (j : Int)) (h2 : j ≤ l.length) (W : World) :
    (Instr.sliceAt 9 (str l) none (some (.int .i64 zj)) none).run Tryz.prog W = .ok (str (l.take j)) W := by
  subst hj
  rw [run_sliceAt_string W 9 _ _ _ _ Tryz.underlying9, run_slice_string_to_if W 9 _ _ _ Tryz.underlying9, if_pos (by simp [ByteArray.size]; omega)]
  simp only [Int.toNat_natCast]
  rw [ext_mid, ← List.drop_take, List.drop_zero]
theorem run_cutFrom (l : List UInt8) {i : Nat} {zi : Int} (hi : zi = (i : Int)) (h1 : i ≤ l.length) (W : World) :
    (Instr.sliceAt 9 (str l) (some (.int .i64 zi)) none none).run Tryz.prog W = .ok (str (l.drop i)) W := by
  subst hi
  rw [run_sliceAt_string W 9 _ _ _ _ Tryz.underlying9, run_slice_string_from_if W 9 _ _ _ Tryz.underlying9, if_pos (by simp [ByteArray.size]; omega)]
  simp only [Int.toNat_natCast]
  rw [show (⟨l.toArray⟩ : ByteArray).size = l.length by simp [ByteArray.size], ext_mid, ← List.drop_take, List.take_length]
theorem set8 (w : World) (g : Nat) (T : TypeId) (z0 z1 z2 z3 z4 z5 z6 z7 : Value) (h : w.heap[g]? = some (.cells #[z0, z1, z2, z3, z4, z5, z6, z7] T (0, 0))) (x0 x1 x2 x3 x4 x5 x6 x7 : Value) :
    ∃ W, W = ((((((((w.setCell ⟨g, 0, none⟩ x0).setCell ⟨g, 1, none⟩ x1).setCell ⟨g, 2, none⟩ x2).setCell ⟨g, 3, none⟩ x3).setCell ⟨g, 4, none⟩ x4).setCell ⟨g, 5, none⟩ x5).setCell ⟨g, 6, none⟩ x6).setCell ⟨g, 7, none⟩ x7) ∧ W.heap[g]? = some (.cells #[x0, x1, x2, x3, x4, x5, x6, x7] T (0, 0)) ∧ Fp (fun k => k = g) w W := by
  refine ⟨_, rfl, ?_, ?_⟩
  · have h0 := heap_set w g 0 _ T x0 h
    have h1 := heap_set _ g 1 _ T x1 h0
    have h2 := heap_set _ g 2 _ T x2 h1
    have h3 := heap_set _ g 3 _ T x3 h2
    have h4 := heap_set _ g 4 _ T x4 h3
    have h5 := heap_set _ g 5 _ T x5 h4
    have h6 := heap_set _ g 6 _ T x6 h5
    have h7 := heap_set _ g 7 _ T x7 h6
    rw [h7]; simp
  · exact (((((((((Fp.refl (fun k => k = g) w).setCell (p := ⟨g, 0, none⟩) (Or.inr rfl) x0).setCell (p := ⟨g, 1, none⟩) (Or.inr rfl) x1).setCell (p := ⟨g, 2, none⟩) (Or.inr rfl) x2).setCell (p := ⟨g, 3, none⟩) (Or.inr rfl) x3).setCell (p := ⟨g, 4, none⟩) (Or.inr rfl) x4).setCell (p := ⟨g, 5, none⟩) (Or.inr rfl) x5).setCell (p := ⟨g, 6, none⟩) (Or.inr rfl) x6).setCell (p := ⟨g, 7, none⟩) (Or.inr rfl) x7)
theorem set9 (w : World) (g : Nat) (T : TypeId) (z0 z1 z2 z3 z4 z5 z6 z7 z8 : Value) (h : w.heap[g]? = some (.cells #[z0, z1, z2, z3, z4, z5, z6, z7, z8] T (0, 0))) (x0 x1 x2 x3 x4 x5 x6 x7 x8 : Value) :
    ∃ W, W = (((((((((w.setCell ⟨g, 0, none⟩ x0).setCell ⟨g, 1, none⟩ x1).setCell ⟨g, 2, none⟩ x2).setCell ⟨g, 3, none⟩ x3).setCell ⟨g, 4, none⟩ x4).setCell ⟨g, 5, none⟩ x5).setCell ⟨g, 6, none⟩ x6).setCell ⟨g, 7, none⟩ x7).setCell ⟨g, 8, none⟩ x8) ∧ W.heap[g]? = some (.cells #[x0, x1, x2, x3, x4, x5, x6, x7, x8] T (0, 0)) ∧ Fp (fun k => k = g) w W := by
  refine ⟨_, rfl, ?_, ?_⟩
  · have h0 := heap_set w g 0 _ T x0 h
    have h1 := heap_set _ g 1 _ T x1 h0
    have h2 := heap_set _ g 2 _ T x2 h1
    have h3 := heap_set _ g 3 _ T x3 h2
    have h4 := heap_set _ g 4 _ T x4 h3
    have h5 := heap_set _ g 5 _ T x5 h4
    have h6 := heap_set _ g 6 _ T x6 h5
    have h7 := heap_set _ g 7 _ T x7 h6
    have h8 := heap_set _ g 8 _ T x8 h7
    rw [h8]; simp
  · exact ((((((((((Fp.refl (fun k => k = g) w).setCell (p := ⟨g, 0, none⟩) (Or.inr rfl) x0).setCell (p := ⟨g, 1, none⟩) (Or.inr rfl) x1).setCell (p := ⟨g, 2, none⟩) (Or.inr rfl) x2).setCell (p := ⟨g, 3, none⟩) (Or.inr rfl) x3).setCell (p := ⟨g, 4, none⟩) (Or.inr rfl) x4).setCell (p := ⟨g, 5, none⟩) (Or.inr rfl) x5).setCell (p := ⟨g, 6, none⟩) (Or.inr rfl) x6).setCell (p := ⟨g, 7, none⟩) (Or.inr rfl) x7).setCell (p := ⟨g, 8, none⟩) (Or.inr rfl) x8)
theorem set10 (w : World) (g : Nat) (T : TypeId) (z0 z1 z2 z3 z4 z5 z6 z7 z8 z9 : Value) (h : w.heap[g]? = some (.cells #[z0, z1, z2, z3, z4, z5, z6, z7, z8, z9] T (0, 0))) (x0 x1 x2 x3 x4 x5 x6 x7 x8 x9 : Value) :
    ∃ W, W = ((((((((((w.setCell ⟨g, 0, none⟩ x0).setCell ⟨g, 1, none⟩ x1).setCell ⟨g, 2, none⟩ x2).setCell ⟨g, 3, none⟩ x3).setCell ⟨g, 4, none⟩ x4).setCell ⟨g, 5, none⟩ x5).setCell ⟨g, 6, none⟩ x6).setCell ⟨g, 7, none⟩ x7).setCell ⟨g, 8, none⟩ x8).setCell ⟨g, 9, none⟩ x9) ∧ W.heap[g]? = some (.cells #[x0, x1, x2, x3, x4, x5, x6, x7, x8, x9] T (0, 0)) ∧ Fp (fun k => k = g) w W := by
  refine ⟨_, rfl, ?_, ?_⟩
  · have h0 := heap_set w g 0 _ T x0 h
    have h1 := heap_set _ g 1 _ T x1 h0
    have h2 := heap_set _ g 2 _ T x2 h1
    have h3 := heap_set _ g 3 _ T x3 h2
    have h4 := heap_set _ g 4 _ T x4 h3
    have h5 := heap_set _ g 5 _ T x5 h4
    have h6 := heap_set _ g 6 _ T x6 h5
    have h7 := heap_set _ g 7 _ T x7 h6
    have h8 := heap_set _ g 8 _ T x8 h7
    have h9 := heap_set _ g 9 _ T x9 h8
    rw [h9]; simp
  · exact (((((((((((Fp.refl (fun k => k = g) w).setCell (p := ⟨g, 0, none⟩) (Or.inr rfl) x0).setCell (p := ⟨g, 1, none⟩) (Or.inr rfl) x1).setCell (p := ⟨g, 2, none⟩) (Or.inr rfl) x2).setCell (p := ⟨g, 3, none⟩) (Or.inr rfl) x3).setCell (p := ⟨g, 4, none⟩) (Or.inr rfl) x4).setCell (p := ⟨g, 5, none⟩) (Or.inr rfl) x5).setCell (p := ⟨g, 6, none⟩) (Or.inr rfl) x6).setCell (p := ⟨g, 7, none⟩) (Or.inr rfl) x7).setCell (p := ⟨g, 8, none⟩) (Or.inr rfl) x8).setCell (p := ⟨g, 9, none⟩) (Or.inr rfl) x9)
end Go.Proofs.YtmghjaoodnkjlaaGreatDoor
