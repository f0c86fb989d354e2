/- Chapter 18: the law's own flow. -/
import Derived.Test.YtaiimkcmgiceeaaDoorEnL
namespace Go.Proofs.YtaiimkcmgiceeaaDoor
set_option linter.unusedVariables false
set_option linter.unusedSimpArgs false
open Go.RowKit Go.Lib Go.Sort
set_option maxHeartbeats 1000000 in
theorem flow18 (w : World) : Calls Tryd.prog 15 #[] w fun e w' => ∃ b, e = .returned (.agg #[.int .u8 17, .int .u32 167772161, .int .u16 4000, .int .u32 134744072, .int .u16 53, .int .u8 17, .int .u32 134744072, .int .u16 53, .int .u32 151587081, .int .u16 1006, .int .i64 1, .int .i64 120, .slice (some ⟨b, 0, none⟩) 1 1]) ∧ w.heap.size ≤ b ∧
    Holds w' b 0 1 [.int .u32 151587081, .int .u16 1006, .int .u32 167772161, .int .u16 4000] ∧ NoW w w' := by
  go_enter Tryd.func15, Tryd.ntmps15
  go_wp2_with fail
  have hb := heap_alloc_new ((((w.alloc (.cells #[.int .u8 17, .int .u32 167772161, .int .u16 4000, .int .u32 134744072, .int .u16 53, .int .u8 17, .int .u32 134744072, .int .u16 53, .int .u32 151587081, .int .u16 1006, .int .i64 1, .int .i64 120, .slice (some ⟨w.heap.size + 1 + 1 + 1 + 1, 0, none⟩) 1 1] 32)).alloc (.cells #[.int .u32 167772161, .int .u16 4000] 27)).alloc (.cells #[.int .u32 151587081, .int .u16 1006] 27)).alloc (.cells #[.int .u32 134744072, .int .u16 53] 27)) (.cells #[.int .u32 151587081, .int .u16 1006, .int .u32 167772161, .int .u16 4000] 49)
  rw [show ((((w.alloc (.cells #[.int .u8 17, .int .u32 167772161, .int .u16 4000, .int .u32 134744072, .int .u16 53, .int .u8 17, .int .u32 134744072, .int .u16 53, .int .u32 151587081, .int .u16 1006, .int .i64 1, .int .i64 120, .slice (some ⟨w.heap.size + 1 + 1 + 1 + 1, 0, none⟩) 1 1] 32)).alloc (.cells #[.int .u32 167772161, .int .u16 4000] 27)).alloc (.cells #[.int .u32 151587081, .int .u16 1006] 27)).alloc (.cells #[.int .u32 134744072, .int .u16 53] 27)).heap.size = w.heap.size + 1 + 1 + 1 + 1 by simp] at hb
  refine bodyPost_ret (v := .agg #[.int .u8 17, .int .u32 167772161, .int .u16 4000, .int .u32 134744072, .int .u16 53, .int .u8 17, .int .u32 134744072, .int .u16 53, .int .u32 151587081, .int .u16 1006, .int .i64 1, .int .i64 120, .slice (some ⟨w.heap.size + 1 + 1 + 1 + 1, 0, none⟩) 1 1]) (by simp only [results, Tryd.results15]; go_simp) rfl ⟨w.heap.size + 1 + 1 + 1 + 1, rfl, by omega, ⟨rfl, ?_, ?_, ?_⟩, ?_⟩
  · intro j x hj
    match j, hj with
    | 0, hj => (simp at hj; simp only [World.cell?, hb]; simp [← hj])
    | 1, hj => (simp at hj; simp only [World.cell?, hb]; simp [← hj])
    | 2, hj => (simp at hj; simp only [World.cell?, hb]; simp [← hj])
    | 3, hj => (simp at hj; simp only [World.cell?, hb]; simp [← hj])
    | j + 4, hj => simp at hj
  · intro x hx
    simp at hx
    rcases hx with rfl | rfl | rfl | rfl <;> rfl
  · simp
  · exact (((((Fp.refl _ _).alloc _).alloc _).alloc _).alloc _).alloc _
end Go.Proofs.YtaiimkcmgiceeaaDoor
