/- Chapter 18: the law's own flow. -/
import Derived.Test.YtdmbjndhdldggaaGreatDoorEnJ
namespace Go.Proofs.YtdmbjndhdldggaaGreatDoor
set_option linter.unusedVariables false
set_option linter.unusedSimpArgs false
open Go.RowKit Go.Lib Go.Sort
set_option maxHeartbeats 1000000 in
theorem flow18 (w : World) : Calls Tryz.prog 12 #[] w fun e w' => ∃ b, e = .returned (.agg #[.int .u8 17, .int .u32 167772161, .int .u16 4000, .int .u32 134744072, .int .u16 53, .int .u8 17, .int .u32 134744072, .int .u16 53, .int .u32 151587081, .int .u16 1006, .int .i64 1, .int .i64 120, .slice (some ⟨b, 0, none⟩) 1 1]) ∧ w.heap.size ≤ b ∧
    Holds w' b 0 1 [.int .u32 151587081, .int .u16 1006, .int .u32 167772161, .int .u16 4000] ∧ NoW w w' := by
  go_enter Tryz.func12, Tryz.ntmps12
  go_wp2_with fail
  have hb := heap_alloc_new ((((w.alloc (.cells #[.int .u8 17, .int .u32 167772161, .int .u16 4000, .int .u32 134744072, .int .u16 53, .int .u8 17, .int .u32 134744072, .int .u16 53, .int .u32 151587081, .int .u16 1006, .int .i64 1, .int .i64 120, .slice (some ⟨w.heap.size + 1 + 1 + 1 + 1, 0, none⟩) 1 1] 31)).alloc (.cells #[.int .u32 167772161, .int .u16 4000] 26)).alloc (.cells #[.int .u32 151587081, .int .u16 1006] 26)).alloc (.cells #[.int .u32 134744072, .int .u16 53] 26)) (.cells #[.int .u32 151587081, .int .u16 1006, .int .u32 167772161, .int .u16 4000] 59)
  rw [show ((((w.alloc (.cells #[.int .u8 17, .int .u32 167772161, .int .u16 4000, .int .u32 134744072, .int .u16 53, .int .u8 17, .int .u32 134744072, .int .u16 53, .int .u32 151587081, .int .u16 1006, .int .i64 1, .int .i64 120, .slice (some ⟨w.heap.size + 1 + 1 + 1 + 1, 0, none⟩) 1 1] 31)).alloc (.cells #[.int .u32 167772161, .int .u16 4000] 26)).alloc (.cells #[.int .u32 151587081, .int .u16 1006] 26)).alloc (.cells #[.int .u32 134744072, .int .u16 53] 26)).heap.size = w.heap.size + 1 + 1 + 1 + 1 by simp] at hb
  refine bodyPost_ret (v := .agg #[.int .u8 17, .int .u32 167772161, .int .u16 4000, .int .u32 134744072, .int .u16 53, .int .u8 17, .int .u32 134744072, .int .u16 53, .int .u32 151587081, .int .u16 1006, .int .i64 1, .int .i64 120, .slice (some ⟨w.heap.size + 1 + 1 + 1 + 1, 0, none⟩) 1 1]) (by simp only [results, Tryz.results12]; go_simp) rfl ⟨w.heap.size + 1 + 1 + 1 + 1, rfl, by omega, ⟨rfl, ?_, ?_, ?_⟩, ?_⟩
  · intro j x hj
    match j, hj with
    | 0, hj => (simp at hj; simp only [World.cell?, hb]; simp [← hj])
    | 1, hj => (simp at hj; simp only [World.cell?, hb]; simp [← hj])
    | 2, hj => (simp at hj; simp only [World.cell?, hb]; simp [← hj])
    | 3, hj => (simp at hj; simp only [World.cell?, hb]; simp [← hj])
    | j + 4, hj => simp at hj
  · intro x hx
    simp at hx
    rcases hx with rfl | rfl | rfl | rfl <;> rfl
  · simp
  · exact (((((Fp.refl _ _).alloc _).alloc _).alloc _).alloc _).alloc _
end Go.Proofs.YtdmbjndhdldggaaGreatDoor
