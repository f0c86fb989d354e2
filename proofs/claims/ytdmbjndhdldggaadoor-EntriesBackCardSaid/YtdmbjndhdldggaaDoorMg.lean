/- Texts of this proof, merged: EnM EnP EbW EpC. -/
import Derived.Test.YtdmbjndhdldggaaDoorMf
import Derived.Test.YtdmbjndhdldggaaDoorMb
import Derived.Test.YtdmbjndhdldggaaDoorMe
import Derived.Test.YtdmbjndhdldggaaDoorMa
import Derived.Test.YtdmbjndhdldggaaDoorMc
import Derived.Test.YtdmbjndhdldggaaDoorMd
namespace Go.Proofs.YtdmbjndhdldggaaDoor
set_option linter.unusedVariables false
set_option linter.unusedSimpArgs false
open Go.RowKit Go.Lib Go.Sort
def n3 (x y z : Nat) : Fin 3 → Nat := fun j => match j with | 0 => x | 1 => y | 2 => z
def v3 (x y z : Array Value) : Fin 3 → Array Value := fun j => match j with | 0 => x | 1 => y | 2 => z

set_option maxHeartbeats 4000000 in
set_option maxRecDepth 100000 in
theorem passes18 (w : World) (ht : Tb w) : Calls Tryd.prog 9 #[] w (Ret1 (.bool true) w) := by
  have Ht := Lib.hid ht
  clear ht
  go_enter Tryd.func9, Tryd.ntmps9
  go_wp2_with fail
  refine (flow18 w).mono ?_
  rintro e v ⟨b, rfl, hwb, hh, hp⟩
  have l1 := fun W => live_ok 17 167772161 4000 134744072 53 17 134744072 53 151587081 1006 1 120 (.slice (some ⟨b, 0, none⟩) 1 1) 119 W
  have l2 := fun W => live_ok 17 167772161 4000 134744072 53 17 134744072 53 151587081 1006 1 120 (.slice (some ⟨b, 0, none⟩) 1 1) 120 W
  rw [show decide ((119 : Int) < 120) = true by decide] at l1
  rw [show decide ((120 : Int) < 120) = false by decide] at l2
  have L1 := Lib.hid l1
  have L2 := Lib.hid l2
  clear l1 l2
  have hq : NoW v (v.alloc (.cells #[.int .u8 17, .int .u32 167772161, .int .u16 4000, .int .u32 134744072, .int .u16 53, .int .u8 17, .int .u32 134744072, .int .u16 53, .int .u32 151587081, .int .u16 1006, .int .i64 1, .int .i64 120, (.slice (some ⟨b, 0, none⟩) 1 1)] 31)) := (Fp.refl _ _).alloc _
  have hb1 := heap_alloc_new v (.cells #[.int .u8 17, .int .u32 167772161, .int .u16 4000, .int .u32 134744072, .int .u16 53, .int .u8 17, .int .u32 134744072, .int .u16 53, .int .u32 151587081, .int .u16 1006, .int .i64 1, .int .i64 120, (.slice (some ⟨b, 0, none⟩) 1 1)] 31)
  have hh1 := hh.low hq
  have hf1 := hp.trans hq (fun _ _ h => h)
  have hbl := hh.lt
  go_wp2_with fail
  generalize v.alloc (.cells #[.int .u8 17, .int .u32 167772161, .int .u16 4000, .int .u32 134744072, .int .u16 53, .int .u8 17, .int .u32 134744072, .int .u16 53, .int .u32 151587081, .int .u16 1006, .int .i64 1, .int .i64 120, (.slice (some ⟨b, 0, none⟩) 1 1)] 31) = w1 at *
  generalize v.heap.size = g1 at *
  have x0 : w1.cell? ⟨g1, 0, none⟩ = some (.int .u8 17) := by simp [World.cell?, hb1]
  have x1 : w1.cell? ⟨g1, 1, none⟩ = some (.int .u32 167772161) := by simp [World.cell?, hb1]
  have x2 : w1.cell? ⟨g1, 2, none⟩ = some (.int .u16 4000) := by simp [World.cell?, hb1]
  have x3 : w1.cell? ⟨g1, 3, none⟩ = some (.int .u32 134744072) := by simp [World.cell?, hb1]
  have x4 : w1.cell? ⟨g1, 4, none⟩ = some (.int .u16 53) := by simp [World.cell?, hb1]
  have x5 : w1.cell? ⟨g1, 5, none⟩ = some (.int .u8 17) := by simp [World.cell?, hb1]
  have x6 : w1.cell? ⟨g1, 6, none⟩ = some (.int .u32 134744072) := by simp [World.cell?, hb1]
  have x7 : w1.cell? ⟨g1, 7, none⟩ = some (.int .u16 53) := by simp [World.cell?, hb1]
  have x8 : w1.cell? ⟨g1, 8, none⟩ = some (.int .u32 151587081) := by simp [World.cell?, hb1]
  have x9 : w1.cell? ⟨g1, 9, none⟩ = some (.int .u16 1006) := by simp [World.cell?, hb1]
  have x10 : w1.cell? ⟨g1, 10, none⟩ = some (.int .i64 1) := by simp [World.cell?, hb1]
  have x11 : w1.cell? ⟨g1, 11, none⟩ = some (.int .i64 120) := by simp [World.cell?, hb1]
  have x12 : w1.cell? ⟨g1, 12, none⟩ = some ((.slice (some ⟨b, 0, none⟩) 1 1)) := by simp [World.cell?, hb1]

  have lg : g1 < w1.heap.size := cell_lt x0
  have Hb1 := Lib.hid hb1
  have Hh1 := Lib.hid hh1
  have Hf1 := Lib.hid hf1
  clear hb1 hh1 hf1 hq hp hh
  refine wp_region_held_drew (S := fun wx => NoW w1 wx) (by kernel_rfl) (Fp.drew (Fp.refl _ _)) (fun hHeld => ?_)
  (refine take_at 0 (some 8) rfl rfl (by kernel_rfl) (by kernel_rfl) (by kernel_rfl) (fun _ _ _ h => h) (v := ?_) (by kernel_rfl) ?_ (by assumption) ?_; rotate_left; (focus (intro wS hSw; (have y0 := (hSw.cell (p := ⟨g1, 0, none⟩) lg id).trans x0); (have y1 := (hSw.cell (p := ⟨g1, 1, none⟩) lg id).trans x1); (have y2 := (hSw.cell (p := ⟨g1, 2, none⟩) lg id).trans x2); (have y3 := (hSw.cell (p := ⟨g1, 3, none⟩) lg id).trans x3); (have y4 := (hSw.cell (p := ⟨g1, 4, none⟩) lg id).trans x4); (have y5 := (hSw.cell (p := ⟨g1, 5, none⟩) lg id).trans x5); (have y6 := (hSw.cell (p := ⟨g1, 6, none⟩) lg id).trans x6); (have y7 := (hSw.cell (p := ⟨g1, 7, none⟩) lg id).trans x7); (have y8 := (hSw.cell (p := ⟨g1, 8, none⟩) lg id).trans x8); (have y9 := (hSw.cell (p := ⟨g1, 9, none⟩) lg id).trans x9); (have y10 := (hSw.cell (p := ⟨g1, 10, none⟩) lg id).trans x10); (have y11 := (hSw.cell (p := ⟨g1, 11, none⟩) lg id).trans x11); (have y12 := (hSw.cell (p := ⟨g1, 12, none⟩) lg id).trans x12); go_simp; try with_reducible rfl)); (try simp only [Act.put, List.setIfInBounds_toArray, List.set_cons_zero, List.set_cons_succ]))
  (refine take_at 2 (some 10) rfl rfl (by kernel_rfl) (by kernel_rfl) (by kernel_rfl) (fun _ _ _ h => h) (v := ?_) (by kernel_rfl) ?_ (by assumption) ?_; rotate_left; (focus (intro wS hSw; (have y0 := (hSw.cell (p := ⟨g1, 0, none⟩) lg id).trans x0); (have y1 := (hSw.cell (p := ⟨g1, 1, none⟩) lg id).trans x1); (have y2 := (hSw.cell (p := ⟨g1, 2, none⟩) lg id).trans x2); (have y3 := (hSw.cell (p := ⟨g1, 3, none⟩) lg id).trans x3); (have y4 := (hSw.cell (p := ⟨g1, 4, none⟩) lg id).trans x4); (have y5 := (hSw.cell (p := ⟨g1, 5, none⟩) lg id).trans x5); (have y6 := (hSw.cell (p := ⟨g1, 6, none⟩) lg id).trans x6); (have y7 := (hSw.cell (p := ⟨g1, 7, none⟩) lg id).trans x7); (have y8 := (hSw.cell (p := ⟨g1, 8, none⟩) lg id).trans x8); (have y9 := (hSw.cell (p := ⟨g1, 9, none⟩) lg id).trans x9); (have y10 := (hSw.cell (p := ⟨g1, 10, none⟩) lg id).trans x10); (have y11 := (hSw.cell (p := ⟨g1, 11, none⟩) lg id).trans x11); (have y12 := (hSw.cell (p := ⟨g1, 12, none⟩) lg id).trans x12); go_simp; try with_reducible rfl)); (try simp only [Act.put, List.setIfInBounds_toArray, List.set_cons_zero, List.set_cons_succ]))
  (refine take_at 4 (some 12) rfl rfl (by kernel_rfl) (by kernel_rfl) (by kernel_rfl) (fun _ _ _ h => h) (v := ?_) (by kernel_rfl) ?_ (by assumption) ?_; rotate_left; (focus (intro wS hSw; (have y0 := (hSw.cell (p := ⟨g1, 0, none⟩) lg id).trans x0); (have y1 := (hSw.cell (p := ⟨g1, 1, none⟩) lg id).trans x1); (have y2 := (hSw.cell (p := ⟨g1, 2, none⟩) lg id).trans x2); (have y3 := (hSw.cell (p := ⟨g1, 3, none⟩) lg id).trans x3); (have y4 := (hSw.cell (p := ⟨g1, 4, none⟩) lg id).trans x4); (have y5 := (hSw.cell (p := ⟨g1, 5, none⟩) lg id).trans x5); (have y6 := (hSw.cell (p := ⟨g1, 6, none⟩) lg id).trans x6); (have y7 := (hSw.cell (p := ⟨g1, 7, none⟩) lg id).trans x7); (have y8 := (hSw.cell (p := ⟨g1, 8, none⟩) lg id).trans x8); (have y9 := (hSw.cell (p := ⟨g1, 9, none⟩) lg id).trans x9); (have y10 := (hSw.cell (p := ⟨g1, 10, none⟩) lg id).trans x10); (have y11 := (hSw.cell (p := ⟨g1, 11, none⟩) lg id).trans x11); (have y12 := (hSw.cell (p := ⟨g1, 12, none⟩) lg id).trans x12); go_simp; try with_reducible rfl)); (try simp only [Act.put, List.setIfInBounds_toArray, List.set_cons_zero, List.set_cons_succ]))
  clear x0 x1 x2 x3 x4 x5 x6 x7 x8 x9 x10 x11 x12
  refine boxes3 (d := n3 9 11 13) (b := n3 2 3 4) (ld := n3 8 10 12) (V := v3 #[.int .u32 151587081, .int .u16 1006, .int .u32 134744072, .int .u16 53] #[.int .u32 134744072, .int .u16 53, .int .u32 167772161, .int .u16 4000] #[.int .u32 167772161, .int .u16 4000, .int .u32 134744072, .int .u16 53]) (Z := #[.int .u32 0, .int .u16 0, .int .u32 0, .int .u16 0]) (T := 36) (by decide) (by decide) (by decide) (fin3 (by simp [n3]) (by simp [n3]) (by simp [n3])) (fin3 (by simp [n3]) (by simp [n3]) (by simp [n3])) (by decide) (by decide) (by kernel_rfl) hHeld ?_ ?_ ?_ ?_
  · refine fin3 ?_ ?_ ?_
    · intro a W h
      have he : a.tmps[8]? = some (.agg #[.int .u8 17, .int .u32 167772161, .int .u16 4000, .int .u32 134744072, .int .u16 53, .int .u8 17, .int .u32 134744072, .int .u16 53, .int .u32 151587081, .int .u16 1006, .int .i64 1, .int .i64 120, (.slice (some ⟨b, 0, none⟩) 1 1)]) := h
      refine ⟨_, 10, #[.agg #[.int .u8 17, .int .u32 167772161, .int .u16 4000, .int .u32 134744072, .int .u16 53, .int .u8 17, .int .u32 134744072, .int .u16 53, .int .u32 151587081, .int .u16 1006, .int .i64 1, .int .i64 120, (.slice (some ⟨b, 0, none⟩) 1 1)], .bool false], rfl, rfl, rfl, ?_, fun _ => turn_f 17 167772161 4000 134744072 53 17 134744072 53 151587081 1006 1 120 _ W⟩
      clear h
      go_simp
    · intro a W h
      have he : a.tmps[10]? = some (.agg #[.int .u8 17, .int .u32 167772161, .int .u16 4000, .int .u32 134744072, .int .u16 53, .int .u8 17, .int .u32 134744072, .int .u16 53, .int .u32 151587081, .int .u16 1006, .int .i64 1, .int .i64 120, (.slice (some ⟨b, 0, none⟩) 1 1)]) := h
      refine ⟨_, 10, #[.agg #[.int .u8 17, .int .u32 167772161, .int .u16 4000, .int .u32 134744072, .int .u16 53, .int .u8 17, .int .u32 134744072, .int .u16 53, .int .u32 151587081, .int .u16 1006, .int .i64 1, .int .i64 120, (.slice (some ⟨b, 0, none⟩) 1 1)], .bool true], rfl, rfl, rfl, ?_, fun _ => turn_t 17 167772161 4000 134744072 53 17 134744072 53 151587081 1006 1 120 _ W⟩
      clear h
      go_simp
    · intro a W h
      have he : a.tmps[12]? = some (.agg #[.int .u8 17, .int .u32 167772161, .int .u16 4000, .int .u32 134744072, .int .u16 53, .int .u8 17, .int .u32 134744072, .int .u16 53, .int .u32 151587081, .int .u16 1006, .int .i64 1, .int .i64 120, (.slice (some ⟨b, 0, none⟩) 1 1)]) := h
      refine ⟨_, 12, #[.agg #[.int .u8 17, .int .u32 167772161, .int .u16 4000, .int .u32 134744072, .int .u16 53, .int .u8 17, .int .u32 134744072, .int .u16 53, .int .u32 151587081, .int .u16 1006, .int .i64 1, .int .i64 120, (.slice (some ⟨b, 0, none⟩) 1 1)], .bool true], rfl, rfl, rfl, ?_, fun _ => inside_t 17 167772161 4000 134744072 53 17 134744072 53 151587081 1006 1 120 _ W⟩
      clear h
      go_simp
  · refine fin3 ?_ ?_ ?_ <;> (intro a W; refine ⟨_, rfl, rfl, rfl, ?_⟩; go_simp)
  · refine fin3 ?_ ?_ ?_
    · intro a W g h1 h2 h3
      have e1 : a.tmps[2]? = some (.pointer (some ⟨g, 0, none⟩)) := h1
      have e2 : a.tmps[9]? = some (.agg #[.int .u32 151587081, .int .u16 1006, .int .u32 134744072, .int .u16 53]) := h2
      have c0 : W.cell? ⟨g, 0, none⟩ = some (.int .u32 0) := by simp [World.cell?, h3]
      have c1 : W.cell? ⟨g, 1, none⟩ = some (.int .u16 0) := by simp [World.cell?, h3]
      have c2 : W.cell? ⟨g, 2, none⟩ = some (.int .u32 0) := by simp [World.cell?, h3]
      have c3 : W.cell? ⟨g, 3, none⟩ = some (.int .u16 0) := by simp [World.cell?, h3]
      have z0 : W.frozen? ⟨g, 0, none⟩ = false := by simp [World.frozen?, h3]
      have z1 : W.frozen? ⟨g, 1, none⟩ = false := by simp [World.frozen?, h3]
      have z2 : W.frozen? ⟨g, 2, none⟩ = false := by simp [World.frozen?, h3]
      have z3 : W.frozen? ⟨g, 3, none⟩ = false := by simp [World.frozen?, h3]
      obtain ⟨W', hW', q1, q2⟩ := set4 W g 36 (.int .u32 0) (.int .u16 0) (.int .u32 0) (.int .u16 0) h3 (.int .u32 151587081) (.int .u16 1006) (.int .u32 134744072) (.int .u16 53)
      refine ⟨_, W', .skip, rfl, rfl, rfl, ?_, .inl rfl, q1, q2⟩
      clear h1 h2 h3 q1 q2
      rw [hW']
      clear hW'
      go_simp
    · intro a W g h1 h2 h3
      have e1 : a.tmps[3]? = some (.pointer (some ⟨g, 0, none⟩)) := h1
      have e2 : a.tmps[11]? = some (.agg #[.int .u32 134744072, .int .u16 53, .int .u32 167772161, .int .u16 4000]) := h2
      have c0 : W.cell? ⟨g, 0, none⟩ = some (.int .u32 0) := by simp [World.cell?, h3]
      have c1 : W.cell? ⟨g, 1, none⟩ = some (.int .u16 0) := by simp [World.cell?, h3]
      have c2 : W.cell? ⟨g, 2, none⟩ = some (.int .u32 0) := by simp [World.cell?, h3]
      have c3 : W.cell? ⟨g, 3, none⟩ = some (.int .u16 0) := by simp [World.cell?, h3]
      have z0 : W.frozen? ⟨g, 0, none⟩ = false := by simp [World.frozen?, h3]
      have z1 : W.frozen? ⟨g, 1, none⟩ = false := by simp [World.frozen?, h3]
      have z2 : W.frozen? ⟨g, 2, none⟩ = false := by simp [World.frozen?, h3]
      have z3 : W.frozen? ⟨g, 3, none⟩ = false := by simp [World.frozen?, h3]
      obtain ⟨W', hW', q1, q2⟩ := set4 W g 36 (.int .u32 0) (.int .u16 0) (.int .u32 0) (.int .u16 0) h3 (.int .u32 134744072) (.int .u16 53) (.int .u32 167772161) (.int .u16 4000)
      refine ⟨_, W', .skip, rfl, rfl, rfl, ?_, .inl rfl, q1, q2⟩
      clear h1 h2 h3 q1 q2
      rw [hW']
      clear hW'
      go_simp
    · intro a W g h1 h2 h3
      have e1 : a.tmps[4]? = some (.pointer (some ⟨g, 0, none⟩)) := h1
      have e2 : a.tmps[13]? = some (.agg #[.int .u32 167772161, .int .u16 4000, .int .u32 134744072, .int .u16 53]) := h2
      have c0 : W.cell? ⟨g, 0, none⟩ = some (.int .u32 0) := by simp [World.cell?, h3]
      have c1 : W.cell? ⟨g, 1, none⟩ = some (.int .u16 0) := by simp [World.cell?, h3]
      have c2 : W.cell? ⟨g, 2, none⟩ = some (.int .u32 0) := by simp [World.cell?, h3]
      have c3 : W.cell? ⟨g, 3, none⟩ = some (.int .u16 0) := by simp [World.cell?, h3]
      have z0 : W.frozen? ⟨g, 0, none⟩ = false := by simp [World.frozen?, h3]
      have z1 : W.frozen? ⟨g, 1, none⟩ = false := by simp [World.frozen?, h3]
      have z2 : W.frozen? ⟨g, 2, none⟩ = false := by simp [World.frozen?, h3]
      have z3 : W.frozen? ⟨g, 3, none⟩ = false := by simp [World.frozen?, h3]
      obtain ⟨W', hW', q1, q2⟩ := set4 W g 36 (.int .u32 0) (.int .u16 0) (.int .u32 0) (.int .u16 0) h3 (.int .u32 167772161) (.int .u16 4000) (.int .u32 134744072) (.int .u16 53)
      refine ⟨_, W', .skip, rfl, rfl, rfl, ?_, .inl rfl, q1, q2⟩
      clear h1 h2 h3 q1 q2
      rw [hW']
      clear hW'
      go_simp
  · intro g2 g3 g4 W hf l2 l3 l4 n23 n24 n34 hb2 hb3 hb4
    simp only [n3, v3] at hb2 hb3 hb4
    simp only [n3, v3, List.setIfInBounds_toArray, List.set_cons_zero, List.set_cons_succ]
    have hb1 := (hf.block _ (Array.getElem?_eq_some_iff.1 Hb1.out).1 id).trans Hb1.out
    have Hm := Lib.hid (Hf1.out.trans hf (fun _ _ h => h))
    have Hh2 := Lib.hid (Hh1.out.low hf)
    have x0 : W.cell? ⟨g1, 0, none⟩ = some (.int .u8 17) := by simp [World.cell?, hb1]
    have x1 : W.cell? ⟨g1, 1, none⟩ = some (.int .u32 167772161) := by simp [World.cell?, hb1]
    have x2 : W.cell? ⟨g1, 2, none⟩ = some (.int .u16 4000) := by simp [World.cell?, hb1]
    have x3 : W.cell? ⟨g1, 3, none⟩ = some (.int .u32 134744072) := by simp [World.cell?, hb1]
    have x4 : W.cell? ⟨g1, 4, none⟩ = some (.int .u16 53) := by simp [World.cell?, hb1]
    have x5 : W.cell? ⟨g1, 5, none⟩ = some (.int .u8 17) := by simp [World.cell?, hb1]
    have x6 : W.cell? ⟨g1, 6, none⟩ = some (.int .u32 134744072) := by simp [World.cell?, hb1]
    have x7 : W.cell? ⟨g1, 7, none⟩ = some (.int .u16 53) := by simp [World.cell?, hb1]
    have x8 : W.cell? ⟨g1, 8, none⟩ = some (.int .u32 151587081) := by simp [World.cell?, hb1]
    have x9 : W.cell? ⟨g1, 9, none⟩ = some (.int .u16 1006) := by simp [World.cell?, hb1]
    have x10 : W.cell? ⟨g1, 10, none⟩ = some (.int .i64 1) := by simp [World.cell?, hb1]
    have x11 : W.cell? ⟨g1, 11, none⟩ = some (.int .i64 120) := by simp [World.cell?, hb1]
    have x12 : W.cell? ⟨g1, 12, none⟩ = some ((.slice (some ⟨b, 0, none⟩) 1 1)) := by simp [World.cell?, hb1]

    have B1 := Lib.hid hb1
    have B2 := Lib.hid hb2
    have B3 := Lib.hid hb3
    have B4 := Lib.hid hb4
    clear hb1 hb2 hb3 hb4 Hb1 Hh1 Hf1 hf
    go_wp2_with fail
    clear x0 x1 x2 x3 x4 x5 x6 x7 x8 x9 x10 x11 x12
    refine (touch18 b W (Ht.out.low Hm.out) Hh2.out).mono ?_
    rintro e v2 ⟨b', c', rfl, hc', hB', hh', hp⟩
    have Hm2 := Lib.hid (Hm.out.trans hp (fun _ _ h => h))
    have Hh3 := Lib.hid (Hh2.out.low hp)
    have hb0 := (hp.block _ (Array.getElem?_eq_some_iff.1 B1.out).1 id).trans B1.out
    clear B1
    have B1 := Lib.hid hb0
    clear hb0
    have hb0 := (hp.block _ (Array.getElem?_eq_some_iff.1 B2.out).1 id).trans B2.out
    clear B2
    have B2 := Lib.hid hb0
    clear hb0
    have hb0 := (hp.block _ (Array.getElem?_eq_some_iff.1 B3.out).1 id).trans B3.out
    clear B3
    have B3 := Lib.hid hb0
    clear hb0
    have hb0 := (hp.block _ (Array.getElem?_eq_some_iff.1 B4.out).1 id).trans B4.out
    clear B4
    have B4 := Lib.hid hb0
    clear hb0
    have x0 : v2.cell? ⟨g1, 0, none⟩ = some (.int .u8 17) := by simp [World.cell?, B1.out]
    have x1 : v2.cell? ⟨g1, 1, none⟩ = some (.int .u32 167772161) := by simp [World.cell?, B1.out]
    have x2 : v2.cell? ⟨g1, 2, none⟩ = some (.int .u16 4000) := by simp [World.cell?, B1.out]
    have x3 : v2.cell? ⟨g1, 3, none⟩ = some (.int .u32 134744072) := by simp [World.cell?, B1.out]
    have x4 : v2.cell? ⟨g1, 4, none⟩ = some (.int .u16 53) := by simp [World.cell?, B1.out]
    have x5 : v2.cell? ⟨g1, 5, none⟩ = some (.int .u8 17) := by simp [World.cell?, B1.out]
    have x6 : v2.cell? ⟨g1, 6, none⟩ = some (.int .u32 134744072) := by simp [World.cell?, B1.out]
    have x7 : v2.cell? ⟨g1, 7, none⟩ = some (.int .u16 53) := by simp [World.cell?, B1.out]
    have x8 : v2.cell? ⟨g1, 8, none⟩ = some (.int .u32 151587081) := by simp [World.cell?, B1.out]
    have x9 : v2.cell? ⟨g1, 9, none⟩ = some (.int .u16 1006) := by simp [World.cell?, B1.out]
    have x10 : v2.cell? ⟨g1, 10, none⟩ = some (.int .i64 1) := by simp [World.cell?, B1.out]
    have x11 : v2.cell? ⟨g1, 11, none⟩ = some (.int .i64 120) := by simp [World.cell?, B1.out]
    have x12 : v2.cell? ⟨g1, 12, none⟩ = some ((.slice (some ⟨b, 0, none⟩) 1 1)) := by simp [World.cell?, B1.out]

    have lg2 : g1 < v2.heap.size := cell_lt x0
    clear hp Hm Hh2 hc' hB' hh'
    go_wp2_with fail
    clear lg2 x0 x1 x2 x3 x4 x5 x6 x7 x8 x9 x10 x11 x12
    have hq : NoW v2 (v2.alloc (.cells #[.int .u8 17, .int .u32 167772161, .int .u16 4000, .int .u32 134744072, .int .u16 53, .int .u8 17, .int .u32 134744072, .int .u16 53, .int .u32 151587081, .int .u16 1006, .int .i64 2, .int .i64 305, (.slice (some ⟨b', 0, none⟩) 1 c')] 31)) := (Fp.refl _ _).alloc _
    have B5 := Lib.hid (heap_alloc_new v2 (.cells #[.int .u8 17, .int .u32 167772161, .int .u16 4000, .int .u32 134744072, .int .u16 53, .int .u8 17, .int .u32 134744072, .int .u16 53, .int .u32 151587081, .int .u16 1006, .int .i64 2, .int .i64 305, (.slice (some ⟨b', 0, none⟩) 1 c')] 31))
    have Hm3 := Lib.hid (Hm2.out.trans hq (fun _ _ h => h))
    have Hh4 := Lib.hid (Hh3.out.low hq)
    have hb0 := (hq.block _ (Array.getElem?_eq_some_iff.1 B1.out).1 id).trans B1.out
    clear B1
    have B1 := Lib.hid hb0
    clear hb0
    have hb0 := (hq.block _ (Array.getElem?_eq_some_iff.1 B2.out).1 id).trans B2.out
    clear B2
    have B2 := Lib.hid hb0
    clear hb0
    have hb0 := (hq.block _ (Array.getElem?_eq_some_iff.1 B3.out).1 id).trans B3.out
    clear B3
    have B3 := Lib.hid hb0
    clear hb0
    have hb0 := (hq.block _ (Array.getElem?_eq_some_iff.1 B4.out).1 id).trans B4.out
    clear B4
    have B4 := Lib.hid hb0
    clear hb0

    clear hq Hm2 Hh3
    generalize v2.alloc (.cells #[.int .u8 17, .int .u32 167772161, .int .u16 4000, .int .u32 134744072, .int .u16 53, .int .u8 17, .int .u32 134744072, .int .u16 53, .int .u32 151587081, .int .u16 1006, .int .i64 2, .int .i64 305, (.slice (some ⟨b', 0, none⟩) 1 c')] 31) = v3 at *
    generalize v2.heap.size = g5 at *
    refine (chk18 b v3 (Ht.out.low Hm3.out)).mono ?_
    rintro e v4 ⟨rfl, hp⟩
    have Hm4 := Lib.hid (Hm3.out.trans hp (fun _ _ h => h))
    have Hh5 := Lib.hid (Hh4.out.low hp)
    have hb0 := (hp.block _ (Array.getElem?_eq_some_iff.1 B1.out).1 id).trans B1.out
    clear B1
    have B1 := Lib.hid hb0
    clear hb0
    have hb0 := (hp.block _ (Array.getElem?_eq_some_iff.1 B2.out).1 id).trans B2.out
    clear B2
    have B2 := Lib.hid hb0
    clear hb0
    have hb0 := (hp.block _ (Array.getElem?_eq_some_iff.1 B3.out).1 id).trans B3.out
    clear B3
    have B3 := Lib.hid hb0
    clear hb0
    have hb0 := (hp.block _ (Array.getElem?_eq_some_iff.1 B4.out).1 id).trans B4.out
    clear B4
    have B4 := Lib.hid hb0
    clear hb0
    have hb0 := (hp.block _ (Array.getElem?_eq_some_iff.1 B5.out).1 id).trans B5.out
    clear B5
    have B5 := Lib.hid hb0
    clear hb0
    have x0 : v4.cell? ⟨g1, 0, none⟩ = some (.int .u8 17) := by simp [World.cell?, B1.out]
    have x1 : v4.cell? ⟨g1, 1, none⟩ = some (.int .u32 167772161) := by simp [World.cell?, B1.out]
    have x2 : v4.cell? ⟨g1, 2, none⟩ = some (.int .u16 4000) := by simp [World.cell?, B1.out]
    have x3 : v4.cell? ⟨g1, 3, none⟩ = some (.int .u32 134744072) := by simp [World.cell?, B1.out]
    have x4 : v4.cell? ⟨g1, 4, none⟩ = some (.int .u16 53) := by simp [World.cell?, B1.out]
    have x5 : v4.cell? ⟨g1, 5, none⟩ = some (.int .u8 17) := by simp [World.cell?, B1.out]
    have x6 : v4.cell? ⟨g1, 6, none⟩ = some (.int .u32 134744072) := by simp [World.cell?, B1.out]
    have x7 : v4.cell? ⟨g1, 7, none⟩ = some (.int .u16 53) := by simp [World.cell?, B1.out]
    have x8 : v4.cell? ⟨g1, 8, none⟩ = some (.int .u32 151587081) := by simp [World.cell?, B1.out]
    have x9 : v4.cell? ⟨g1, 9, none⟩ = some (.int .u16 1006) := by simp [World.cell?, B1.out]
    have x10 : v4.cell? ⟨g1, 10, none⟩ = some (.int .i64 1) := by simp [World.cell?, B1.out]
    have x11 : v4.cell? ⟨g1, 11, none⟩ = some (.int .i64 120) := by simp [World.cell?, B1.out]
    have x12 : v4.cell? ⟨g1, 12, none⟩ = some ((.slice (some ⟨b, 0, none⟩) 1 1)) := by simp [World.cell?, B1.out]
    have a0 : v4.cell? ⟨g2, 0, none⟩ = some (.int .u32 151587081) := by simp [World.cell?, B2.out]
    have a1 : v4.cell? ⟨g2, 1, none⟩ = some (.int .u16 1006) := by simp [World.cell?, B2.out]
    have a2 : v4.cell? ⟨g2, 2, none⟩ = some (.int .u32 134744072) := by simp [World.cell?, B2.out]
    have a3 : v4.cell? ⟨g2, 3, none⟩ = some (.int .u16 53) := by simp [World.cell?, B2.out]
    have d0 : v4.cell? ⟨g3, 0, none⟩ = some (.int .u32 134744072) := by simp [World.cell?, B3.out]
    have d1 : v4.cell? ⟨g3, 1, none⟩ = some (.int .u16 53) := by simp [World.cell?, B3.out]
    have d2 : v4.cell? ⟨g3, 2, none⟩ = some (.int .u32 167772161) := by simp [World.cell?, B3.out]
    have d3 : v4.cell? ⟨g3, 3, none⟩ = some (.int .u16 4000) := by simp [World.cell?, B3.out]
    have f0 : v4.cell? ⟨g4, 0, none⟩ = some (.int .u32 167772161) := by simp [World.cell?, B4.out]
    have f1 : v4.cell? ⟨g4, 1, none⟩ = some (.int .u16 4000) := by simp [World.cell?, B4.out]
    have f2 : v4.cell? ⟨g4, 2, none⟩ = some (.int .u32 134744072) := by simp [World.cell?, B4.out]
    have f3 : v4.cell? ⟨g4, 3, none⟩ = some (.int .u16 53) := by simp [World.cell?, B4.out]
    have y0 : v4.cell? ⟨g5, 0, none⟩ = some (.int .u8 17) := by simp [World.cell?, B5.out]
    have y1 : v4.cell? ⟨g5, 1, none⟩ = some (.int .u32 167772161) := by simp [World.cell?, B5.out]
    have y2 : v4.cell? ⟨g5, 2, none⟩ = some (.int .u16 4000) := by simp [World.cell?, B5.out]
    have y3 : v4.cell? ⟨g5, 3, none⟩ = some (.int .u32 134744072) := by simp [World.cell?, B5.out]
    have y4 : v4.cell? ⟨g5, 4, none⟩ = some (.int .u16 53) := by simp [World.cell?, B5.out]
    have y5 : v4.cell? ⟨g5, 5, none⟩ = some (.int .u8 17) := by simp [World.cell?, B5.out]
    have y6 : v4.cell? ⟨g5, 6, none⟩ = some (.int .u32 134744072) := by simp [World.cell?, B5.out]
    have y7 : v4.cell? ⟨g5, 7, none⟩ = some (.int .u16 53) := by simp [World.cell?, B5.out]
    have y8 : v4.cell? ⟨g5, 8, none⟩ = some (.int .u32 151587081) := by simp [World.cell?, B5.out]
    have y9 : v4.cell? ⟨g5, 9, none⟩ = some (.int .u16 1006) := by simp [World.cell?, B5.out]
    have y10 : v4.cell? ⟨g5, 10, none⟩ = some (.int .i64 2) := by simp [World.cell?, B5.out]
    have y11 : v4.cell? ⟨g5, 11, none⟩ = some (.int .i64 305) := by simp [World.cell?, B5.out]
    have y12 : v4.cell? ⟨g5, 12, none⟩ = some ((.slice (some ⟨b', 0, none⟩) 1 c')) := by simp [World.cell?, B5.out]

    clear hp Hm3 Hh4
    go_wp2_with fail
    clear x0 y0 x1 y1 x2 y2 x3 y3 x4 y4 x5 y5 x6 y6 x7 y7 x8 y8 x9 y9 x10 y10 x11 y11 x12 y12 a0 d0 f0 a1 d1 f1 a2 d2 f2 a3 d3 f3 B2 B3 B4 B5
    refine (L1.out _).mono ?_
    rintro e v5 ⟨rfl, hp⟩
    have Hm5 := Lib.hid (Hm4.out.trans hp (fun _ _ h => h))
    have Hh6 := Lib.hid (Hh5.out.low hp)
    have hb0 := (hp.block _ (Array.getElem?_eq_some_iff.1 B1.out).1 id).trans B1.out
    clear B1
    have B1 := Lib.hid hb0
    clear hb0
    have x0 : v5.cell? ⟨g1, 0, none⟩ = some (.int .u8 17) := by simp [World.cell?, B1.out]
    have x1 : v5.cell? ⟨g1, 1, none⟩ = some (.int .u32 167772161) := by simp [World.cell?, B1.out]
    have x2 : v5.cell? ⟨g1, 2, none⟩ = some (.int .u16 4000) := by simp [World.cell?, B1.out]
    have x3 : v5.cell? ⟨g1, 3, none⟩ = some (.int .u32 134744072) := by simp [World.cell?, B1.out]
    have x4 : v5.cell? ⟨g1, 4, none⟩ = some (.int .u16 53) := by simp [World.cell?, B1.out]
    have x5 : v5.cell? ⟨g1, 5, none⟩ = some (.int .u8 17) := by simp [World.cell?, B1.out]
    have x6 : v5.cell? ⟨g1, 6, none⟩ = some (.int .u32 134744072) := by simp [World.cell?, B1.out]
    have x7 : v5.cell? ⟨g1, 7, none⟩ = some (.int .u16 53) := by simp [World.cell?, B1.out]
    have x8 : v5.cell? ⟨g1, 8, none⟩ = some (.int .u32 151587081) := by simp [World.cell?, B1.out]
    have x9 : v5.cell? ⟨g1, 9, none⟩ = some (.int .u16 1006) := by simp [World.cell?, B1.out]
    have x10 : v5.cell? ⟨g1, 10, none⟩ = some (.int .i64 1) := by simp [World.cell?, B1.out]
    have x11 : v5.cell? ⟨g1, 11, none⟩ = some (.int .i64 120) := by simp [World.cell?, B1.out]
    have x12 : v5.cell? ⟨g1, 12, none⟩ = some ((.slice (some ⟨b, 0, none⟩) 1 1)) := by simp [World.cell?, B1.out]

    clear hp Hm4 Hh5
    go_wp2_with fail
    clear x0 x1 x2 x3 x4 x5 x6 x7 x8 x9 x10 x11 x12
    refine (L2.out _).mono ?_
    rintro e v6 ⟨rfl, hp⟩
    have Hm6 := Lib.hid (Hm5.out.trans hp (fun _ _ h => h))
    have Hh7 := Lib.hid (Hh6.out.low hp)
    have hb0 := (hp.block _ (Array.getElem?_eq_some_iff.1 B1.out).1 id).trans B1.out
    clear B1
    have B1 := Lib.hid hb0
    clear hb0
    have x0 : v6.cell? ⟨g1, 0, none⟩ = some (.int .u8 17) := by simp [World.cell?, B1.out]
    have x1 : v6.cell? ⟨g1, 1, none⟩ = some (.int .u32 167772161) := by simp [World.cell?, B1.out]
    have x2 : v6.cell? ⟨g1, 2, none⟩ = some (.int .u16 4000) := by simp [World.cell?, B1.out]
    have x3 : v6.cell? ⟨g1, 3, none⟩ = some (.int .u32 134744072) := by simp [World.cell?, B1.out]
    have x4 : v6.cell? ⟨g1, 4, none⟩ = some (.int .u16 53) := by simp [World.cell?, B1.out]
    have x5 : v6.cell? ⟨g1, 5, none⟩ = some (.int .u8 17) := by simp [World.cell?, B1.out]
    have x6 : v6.cell? ⟨g1, 6, none⟩ = some (.int .u32 134744072) := by simp [World.cell?, B1.out]
    have x7 : v6.cell? ⟨g1, 7, none⟩ = some (.int .u16 53) := by simp [World.cell?, B1.out]
    have x8 : v6.cell? ⟨g1, 8, none⟩ = some (.int .u32 151587081) := by simp [World.cell?, B1.out]
    have x9 : v6.cell? ⟨g1, 9, none⟩ = some (.int .u16 1006) := by simp [World.cell?, B1.out]
    have x10 : v6.cell? ⟨g1, 10, none⟩ = some (.int .i64 1) := by simp [World.cell?, B1.out]
    have x11 : v6.cell? ⟨g1, 11, none⟩ = some (.int .i64 120) := by simp [World.cell?, B1.out]
    have x12 : v6.cell? ⟨g1, 12, none⟩ = some ((.slice (some ⟨b, 0, none⟩) 1 1)) := by simp [World.cell?, B1.out]

    clear hp Hm5 Hh6
    go_wp2_with fail
    clear x0 x1 x2 x3 x4 x5 x6 x7 x8 x9 x10 x11 x12
    refine (text18 b _ (Ht.out.low Hm6.out) Hh7.out).mono ?_
    rintro e v7 ⟨rfl, hp⟩
    have Hm7 := Lib.hid (Hm6.out.trans hp (fun _ _ h => h))
    clear hp Hm6
    go_wp2_with fail
    go_ret
    exact ⟨rfl, Hm7.out⟩
end Go.Proofs.YtdmbjndhdldggaaDoor

namespace Go.Proofs.YtdmbjndhdldggaaDoor
set_option linter.unusedVariables false
set_option linter.unusedSimpArgs false
open Go.RowKit Go.Lib Go.Sort
def longB (n : Nat) (hl : Nat → Nat) (most : Int) : Bool := (List.range n).any (fun i => decide (5 < hl i)) || decide (most < (n : Int))
set_option maxHeartbeats 1000000 in
theorem long_ok (a : Option Addr) (n c : Nat) (hl cp : Nat → Nat) (ad : Nat → Option Addr) (most : Int) (hnm : n ≤ maxLen) (hnc : n ≤ c) (w : World)
    (h : ∀ i, i < n → ∃ b o, a = some ⟨b, o, none⟩ ∧ w.cell? ⟨b, o + i * 13 + 12, none⟩ = some (.slice (ad i) (hl i) (cp i)) ∧ hl i ≤ maxLen) :
    Calls Tryd.prog 8 #[.slice a n c, .int .i64 most] w (Ret1 (.bool (longB n hl most)) w) := by
  have H := Lib.hid h
  have Hm := Lib.hid hnm
  clear h
  unfold maxLen at hnm
  go_enter Tryd.func8, Tryd.ntmps8
  go_wp2_with fail
  go_loopg [5] (n + 1) (fun gg i wx => ∃ (k : Nat), k ≤ n ∧ gg = n + 1 - k ∧ i = .int .i64 (k : Int) ∧ NoW w wx ∧ ∀ j, j < k → ¬ 5 < hl j)
  case atStart => exact ⟨0, by omega, by omega, rfl, Fp.refl _ _, fun j hj => by omega⟩
  case round =>
    obtain ⟨k, hk, hg, rfl, hf, hno⟩ := hrel
    have Hg := Lib.hid hg
    have Hf := Lib.hid hf
    have Hno := Lib.hid hno
    clear hg hf hno
    by_cases hlt : k < n
    · obtain ⟨b, o, rfl, hc, hm⟩ := H.out k hlt
      have hc' : wr.cell? ⟨b, o + k * 13 + 12, none⟩ = some (.slice (ad k) (hl k) (cp k)) := (Hf.out.cell (p := ⟨b, o + k * 13 + 12, none⟩) (cell_lt hc) id).trans hc
      clear hc
      by_cases h5 : 5 < hl k
      · have hd : decide ((5 : Int) < (hl k : Int)) = true := by simp; omega
        rw [show longB n hl most = true by
          simp only [longB, Bool.or_eq_true, List.any_eq_true, List.mem_range, decide_eq_true_eq]
          exact .inl ⟨k, hlt, h5⟩]
        clear h5
        go_wp2_with fail
        go_ret
        exact ⟨rfl, Hf.out⟩
      · have hd : decide ((5 : Int) < (hl k : Int)) = false := by simp; omega
        have H5 := Lib.hid h5
        clear h5
        go_wp2_with fail
        go_roundg (n - k)
        case measure => have := Hg.out; omega
        case rel => exact ⟨k + 1, by omega, by omega, by go_num, Hf.out, fun j hj => by
            by_cases e : j = k
            · rw [e]; exact H5.out
            · exact Hno.out j (by omega)⟩
    · obtain rfl : k = n := by omega
      have HL := Lib.hid (show longB k hl most = decide (most < (k : Int)) by
        have : (List.range k).any (fun i => decide (5 < hl i)) = false := by
          rw [List.any_eq_false]
          intro j hj
          simpa using Hno.out j (List.mem_range.1 hj)
        rw [longB, this, Bool.false_or])
      go_wp2_with fail
      go_ret
      exact ⟨by rw [HL.out]; rfl, Hf.out⟩
end Go.Proofs.YtdmbjndhdldggaaDoor

namespace Go.Proofs.YtdmbjndhdldggaaDoor
set_option linter.unusedVariables false
set_option linter.unusedSimpArgs false
open Go.RowKit Go.Lib Go.Sort

set_option maxHeartbeats 8000000 in
set_option maxRecDepth 100000 in
theorem back_long (r a p b q r2 a2 p2 b2 q2 : Nat) (st dl : Int) (ad : Option Addr) (n c : Nat) (l : List UInt8) (hcm : n ≤ maxLen) (hL : longB 1 (fun _ => n) 1 = true) (w : World) (ht : TbQ w)
 : Calls Tryd.prog 7 #[.agg #[.int .u8 r, .int .u32 a, .int .u16 p, .int .u32 b, .int .u16 q, .int .u8 r2, .int .u32 a2, .int .u16 p2, .int .u32 b2, .int .u16 q2, .int .i64 st, .int .i64 dl, .slice ad n c], str l] w (Ret1 (.bool true) w) := by
  have Ht := Lib.hid ht
  have Hcm := Lib.hid hcm
  have kp := fun W (hW : TbQ W) => passes18 W hW.toP.base
  have Kp := Lib.hid kp
  clear ht kp hcm 
  go_enter Tryd.func7, Tryd.ntmps7
  go_wp2_with fail
  have hw0 : NoW w ((w.alloc (.cells #[.int .u8 r, .int .u32 a, .int .u16 p, .int .u32 b, .int .u16 q, .int .u8 r2, .int .u32 a2, .int .u16 p2, .int .u32 b2, .int .u16 q2, .int .i64 st, .int .i64 dl, .slice ad n c] 31)).alloc (.cells #[.int .u8 r, .int .u32 a, .int .u16 p, .int .u32 b, .int .u16 q, .int .u8 r2, .int .u32 a2, .int .u16 p2, .int .u32 b2, .int .u16 q2, .int .i64 st, .int .i64 dl, .slice ad n c] 31)) := ((Fp.refl _ _).alloc _).alloc _
  obtain ⟨hb0, hb1⟩ := box2 w (.cells #[.int .u8 r, .int .u32 a, .int .u16 p, .int .u32 b, .int .u16 q, .int .u8 r2, .int .u32 a2, .int .u16 p2, .int .u32 b2, .int .u16 q2, .int .i64 st, .int .i64 dl, .slice ad n c] 31) (.cells #[.int .u8 r, .int .u32 a, .int .u16 p, .int .u32 b, .int .u16 q, .int .u8 r2, .int .u32 a2, .int .u16 p2, .int .u32 b2, .int .u16 q2, .int .i64 st, .int .i64 dl, .slice ad n c] 31)
  generalize (w.alloc (.cells #[.int .u8 r, .int .u32 a, .int .u16 p, .int .u32 b, .int .u16 q, .int .u8 r2, .int .u32 a2, .int .u16 p2, .int .u32 b2, .int .u16 q2, .int .i64 st, .int .i64 dl, .slice ad n c] 31)).alloc (.cells #[.int .u8 r, .int .u32 a, .int .u16 p, .int .u32 b, .int .u16 q, .int .u8 r2, .int .u32 a2, .int .u16 p2, .int .u32 b2, .int .u16 q2, .int .i64 st, .int .i64 dl, .slice ad n c] 31) = w0 at *
  have BX := Lib.hid hb0
  have BL := Lib.hid hb1
  have Hn0 := Lib.hid hw0
  clear hb0 hb1 hw0
  generalize w.heap.size + 1 = gBL at *
  generalize w.heap.size = gBX at *
  have hlc : ∀ i, i < 1 → ∃ b o, (some ⟨gBL, 0, none⟩ : Option Addr) = some ⟨b, o, none⟩ ∧ w0.cell? ⟨b, o + i * 13 + 12, none⟩ = some (.slice ((fun _ => ad) i) ((fun _ => n) i) ((fun _ => c) i)) ∧ (fun _ => n) i ≤ maxLen := by
    intro i hi
    obtain rfl : i = 0 := by omega
    exact ⟨gBL, 0, rfl, by simp [World.cell?, BL.out], Hcm.out⟩
  have kl := long_ok (some ⟨gBL, 0, none⟩) 1 1 (fun _ => n) (fun _ => c) (fun _ => ad) 1 (by unfold maxLen; omega) (by omega) w0 hlc
  rw [hL] at kl
  clear hlc
  refine (kl).mono ?_
  rintro e v0 ⟨rfl, hp⟩
  have Hm0 := Lib.hid (Hn0.out.trans hp (fun _ _ h => h))
  have hb := (hp.block _ (Array.getElem?_eq_some_iff.1 BX.out).1 id).trans BX.out
  clear BX
  have BX := Lib.hid hb
  clear hb
  have hb := (hp.block _ (Array.getElem?_eq_some_iff.1 BL.out).1 id).trans BL.out
  clear BL
  have BL := Lib.hid hb
  clear hb
  clear hp Hn0
  go_wp2_with fail
  refine (Kp.out _ (Ht.out.low Hm0.out)).mono ?_
  rintro e v1 ⟨rfl, hp⟩
  have Hm1 := Lib.hid (Hm0.out.trans hp (fun _ _ h => h))
  have hb := (hp.block _ (Array.getElem?_eq_some_iff.1 BX.out).1 id).trans BX.out
  clear BX
  have BX := Lib.hid hb
  clear hb
  have hb := (hp.block _ (Array.getElem?_eq_some_iff.1 BL.out).1 id).trans BL.out
  clear BL
  have BL := Lib.hid hb
  clear hb
  clear hp Hm0
  go_wp2_with fail
  go_ret
  exact ⟨rfl, Hm1.out⟩

set_option maxHeartbeats 8000000 in
set_option maxRecDepth 100000 in
theorem back_big (r a p b q r2 a2 p2 b2 q2 : Nat) (st dl : Int) (ad : Option Addr) (n c : Nat) (l : List UInt8) (hcm : n ≤ maxLen) (hL : longB 1 (fun _ => n) 1 = false) (hl : 300 < l.length) (w : World) (ht : TbQ w)
 : Calls Tryd.prog 7 #[.agg #[.int .u8 r, .int .u32 a, .int .u16 p, .int .u32 b, .int .u16 q, .int .u8 r2, .int .u32 a2, .int .u16 p2, .int .u32 b2, .int .u16 q2, .int .i64 st, .int .i64 dl, .slice ad n c], str l] w (Ret1 (.bool true) w) := by
  have Ht := Lib.hid ht
  have Hcm := Lib.hid hcm
  have kp := fun W (hW : TbQ W) => passes18 W hW.toP.base
  have Kp := Lib.hid kp
  clear ht kp hcm 
  go_enter Tryd.func7, Tryd.ntmps7
  go_wp2_with fail
  have hw0 : NoW w ((w.alloc (.cells #[.int .u8 r, .int .u32 a, .int .u16 p, .int .u32 b, .int .u16 q, .int .u8 r2, .int .u32 a2, .int .u16 p2, .int .u32 b2, .int .u16 q2, .int .i64 st, .int .i64 dl, .slice ad n c] 31)).alloc (.cells #[.int .u8 r, .int .u32 a, .int .u16 p, .int .u32 b, .int .u16 q, .int .u8 r2, .int .u32 a2, .int .u16 p2, .int .u32 b2, .int .u16 q2, .int .i64 st, .int .i64 dl, .slice ad n c] 31)) := ((Fp.refl _ _).alloc _).alloc _
  obtain ⟨hb0, hb1⟩ := box2 w (.cells #[.int .u8 r, .int .u32 a, .int .u16 p, .int .u32 b, .int .u16 q, .int .u8 r2, .int .u32 a2, .int .u16 p2, .int .u32 b2, .int .u16 q2, .int .i64 st, .int .i64 dl, .slice ad n c] 31) (.cells #[.int .u8 r, .int .u32 a, .int .u16 p, .int .u32 b, .int .u16 q, .int .u8 r2, .int .u32 a2, .int .u16 p2, .int .u32 b2, .int .u16 q2, .int .i64 st, .int .i64 dl, .slice ad n c] 31)
  generalize (w.alloc (.cells #[.int .u8 r, .int .u32 a, .int .u16 p, .int .u32 b, .int .u16 q, .int .u8 r2, .int .u32 a2, .int .u16 p2, .int .u32 b2, .int .u16 q2, .int .i64 st, .int .i64 dl, .slice ad n c] 31)).alloc (.cells #[.int .u8 r, .int .u32 a, .int .u16 p, .int .u32 b, .int .u16 q, .int .u8 r2, .int .u32 a2, .int .u16 p2, .int .u32 b2, .int .u16 q2, .int .i64 st, .int .i64 dl, .slice ad n c] 31) = w0 at *
  have BX := Lib.hid hb0
  have BL := Lib.hid hb1
  have Hn0 := Lib.hid hw0
  clear hb0 hb1 hw0
  generalize w.heap.size + 1 = gBL at *
  generalize w.heap.size = gBX at *
  have hlc : ∀ i, i < 1 → ∃ b o, (some ⟨gBL, 0, none⟩ : Option Addr) = some ⟨b, o, none⟩ ∧ w0.cell? ⟨b, o + i * 13 + 12, none⟩ = some (.slice ((fun _ => ad) i) ((fun _ => n) i) ((fun _ => c) i)) ∧ (fun _ => n) i ≤ maxLen := by
    intro i hi
    obtain rfl : i = 0 := by omega
    exact ⟨gBL, 0, rfl, by simp [World.cell?, BL.out], Hcm.out⟩
  have kl := long_ok (some ⟨gBL, 0, none⟩) 1 1 (fun _ => n) (fun _ => c) (fun _ => ad) 1 (by unfold maxLen; omega) (by omega) w0 hlc
  rw [hL] at kl
  clear hlc
  refine (kl).mono ?_
  rintro e v0 ⟨rfl, hp⟩
  have Hm0 := Lib.hid (Hn0.out.trans hp (fun _ _ h => h))
  have hb := (hp.block _ (Array.getElem?_eq_some_iff.1 BX.out).1 id).trans BX.out
  clear BX
  have BX := Lib.hid hb
  clear hb
  have hb := (hp.block _ (Array.getElem?_eq_some_iff.1 BL.out).1 id).trans BL.out
  clear BL
  have BL := Lib.hid hb
  clear hb
  clear hp Hn0
  go_wp2_with fail
  refine (Kp.out _ (Ht.out.low Hm0.out)).mono ?_
  rintro e v1 ⟨rfl, hp⟩
  have Hm1 := Lib.hid (Hm0.out.trans hp (fun _ _ h => h))
  have hb := (hp.block _ (Array.getElem?_eq_some_iff.1 BX.out).1 id).trans BX.out
  clear BX
  have BX := Lib.hid hb
  clear hb
  have hb := (hp.block _ (Array.getElem?_eq_some_iff.1 BL.out).1 id).trans BL.out
  clear BL
  have BL := Lib.hid hb
  clear hb
  clear hp Hm0
  go_wp2_with fail
  go_ret
  exact ⟨rfl, Hm1.out⟩

set_option maxHeartbeats 8000000 in
set_option maxRecDepth 100000 in
theorem back_bad (r a p b q r2 a2 p2 b2 q2 : Nat) (st dl : Int) (ad : Option Addr) (n c : Nat) (l : List UInt8) (hcm : n ≤ maxLen) (hL : longB 1 (fun _ => n) 1 = false) (hl : l.length ≤ 300) (w : World) (ht : TbQ w)
    (kte : ∀ W, TbQ W → NoW w W → Calls Tryd.prog 37 #[.agg #[.int .u8 r, .int .u32 a, .int .u16 p, .int .u32 b, .int .u16 q, .int .u8 r2, .int .u32 a2, .int .u16 p2, .int .u32 b2, .int .u16 q2, .int .i64 st, .int .i64 dl, .slice ad n c]] W (Ret1 (str []) W))
    (kpe : ∀ W, TbQ W → Calls Tryd.prog 38 #[str []] W (Ret1 (.tuple #[.agg #[.int .u8 0, .int .u32 0, .int .u16 0, .int .u32 0, .int .u16 0, .int .u8 0, .int .u32 0, .int .u16 0, .int .u32 0, .int .u16 0, .int .i64 0, .int .i64 0, .slice none 0 0], .int .i64 3]) W))
    (kcb : ∀ W, TbQ W → Calls Tryd.prog 19 #[.agg #[.int .u8 r, .int .u32 a, .int .u16 p, .int .u32 b, .int .u16 q, .int .u8 r2, .int .u32 a2, .int .u16 p2, .int .u32 b2, .int .u16 q2, .int .i64 st, .int .i64 dl, .slice ad n c]] W (Ret1 (.int .i64 2) W)) : Calls Tryd.prog 7 #[.agg #[.int .u8 r, .int .u32 a, .int .u16 p, .int .u32 b, .int .u16 q, .int .u8 r2, .int .u32 a2, .int .u16 p2, .int .u32 b2, .int .u16 q2, .int .i64 st, .int .i64 dl, .slice ad n c], str l] w (Ret1 (.bool true) w) := by
  have Kte := Lib.hid kte
  have Kpe := Lib.hid kpe
  have Kcb := Lib.hid kcb
  have Ht := Lib.hid ht
  have Hcm := Lib.hid hcm
  have kp := fun W (hW : TbQ W) => passes18 W hW.toP.base
  have Kp := Lib.hid kp
  clear ht kp hcm kte kpe kcb
  go_enter Tryd.func7, Tryd.ntmps7
  go_wp2_with fail
  have hw0 : NoW w ((w.alloc (.cells #[.int .u8 r, .int .u32 a, .int .u16 p, .int .u32 b, .int .u16 q, .int .u8 r2, .int .u32 a2, .int .u16 p2, .int .u32 b2, .int .u16 q2, .int .i64 st, .int .i64 dl, .slice ad n c] 31)).alloc (.cells #[.int .u8 r, .int .u32 a, .int .u16 p, .int .u32 b, .int .u16 q, .int .u8 r2, .int .u32 a2, .int .u16 p2, .int .u32 b2, .int .u16 q2, .int .i64 st, .int .i64 dl, .slice ad n c] 31)) := ((Fp.refl _ _).alloc _).alloc _
  obtain ⟨hb0, hb1⟩ := box2 w (.cells #[.int .u8 r, .int .u32 a, .int .u16 p, .int .u32 b, .int .u16 q, .int .u8 r2, .int .u32 a2, .int .u16 p2, .int .u32 b2, .int .u16 q2, .int .i64 st, .int .i64 dl, .slice ad n c] 31) (.cells #[.int .u8 r, .int .u32 a, .int .u16 p, .int .u32 b, .int .u16 q, .int .u8 r2, .int .u32 a2, .int .u16 p2, .int .u32 b2, .int .u16 q2, .int .i64 st, .int .i64 dl, .slice ad n c] 31)
  generalize (w.alloc (.cells #[.int .u8 r, .int .u32 a, .int .u16 p, .int .u32 b, .int .u16 q, .int .u8 r2, .int .u32 a2, .int .u16 p2, .int .u32 b2, .int .u16 q2, .int .i64 st, .int .i64 dl, .slice ad n c] 31)).alloc (.cells #[.int .u8 r, .int .u32 a, .int .u16 p, .int .u32 b, .int .u16 q, .int .u8 r2, .int .u32 a2, .int .u16 p2, .int .u32 b2, .int .u16 q2, .int .i64 st, .int .i64 dl, .slice ad n c] 31) = w0 at *
  have BX := Lib.hid hb0
  have BL := Lib.hid hb1
  have Hn0 := Lib.hid hw0
  clear hb0 hb1 hw0
  generalize w.heap.size + 1 = gBL at *
  generalize w.heap.size = gBX at *
  have hlc : ∀ i, i < 1 → ∃ b o, (some ⟨gBL, 0, none⟩ : Option Addr) = some ⟨b, o, none⟩ ∧ w0.cell? ⟨b, o + i * 13 + 12, none⟩ = some (.slice ((fun _ => ad) i) ((fun _ => n) i) ((fun _ => c) i)) ∧ (fun _ => n) i ≤ maxLen := by
    intro i hi
    obtain rfl : i = 0 := by omega
    exact ⟨gBL, 0, rfl, by simp [World.cell?, BL.out], Hcm.out⟩
  have kl := long_ok (some ⟨gBL, 0, none⟩) 1 1 (fun _ => n) (fun _ => c) (fun _ => ad) 1 (by unfold maxLen; omega) (by omega) w0 hlc
  rw [hL] at kl
  clear hlc
  refine (kl).mono ?_
  rintro e v0 ⟨rfl, hp⟩
  have Hm0 := Lib.hid (Hn0.out.trans hp (fun _ _ h => h))
  have hb := (hp.block _ (Array.getElem?_eq_some_iff.1 BX.out).1 id).trans BX.out
  clear BX
  have BX := Lib.hid hb
  clear hb
  have hb := (hp.block _ (Array.getElem?_eq_some_iff.1 BL.out).1 id).trans BL.out
  clear BL
  have BL := Lib.hid hb
  clear hb
  clear hp Hn0
  have cBX0 : v0.cell? ⟨gBX, 0, none⟩ = some (.int .u8 r) := by simp [World.cell?, BX.out]
  have cBX1 : v0.cell? ⟨gBX, 1, none⟩ = some (.int .u32 a) := by simp [World.cell?, BX.out]
  have cBX2 : v0.cell? ⟨gBX, 2, none⟩ = some (.int .u16 p) := by simp [World.cell?, BX.out]
  have cBX3 : v0.cell? ⟨gBX, 3, none⟩ = some (.int .u32 b) := by simp [World.cell?, BX.out]
  have cBX4 : v0.cell? ⟨gBX, 4, none⟩ = some (.int .u16 q) := by simp [World.cell?, BX.out]
  have cBX5 : v0.cell? ⟨gBX, 5, none⟩ = some (.int .u8 r2) := by simp [World.cell?, BX.out]
  have cBX6 : v0.cell? ⟨gBX, 6, none⟩ = some (.int .u32 a2) := by simp [World.cell?, BX.out]
  have cBX7 : v0.cell? ⟨gBX, 7, none⟩ = some (.int .u16 p2) := by simp [World.cell?, BX.out]
  have cBX8 : v0.cell? ⟨gBX, 8, none⟩ = some (.int .u32 b2) := by simp [World.cell?, BX.out]
  have cBX9 : v0.cell? ⟨gBX, 9, none⟩ = some (.int .u16 q2) := by simp [World.cell?, BX.out]
  have cBX10 : v0.cell? ⟨gBX, 10, none⟩ = some (.int .i64 st) := by simp [World.cell?, BX.out]
  have cBX11 : v0.cell? ⟨gBX, 11, none⟩ = some (.int .i64 dl) := by simp [World.cell?, BX.out]
  have cBX12 : v0.cell? ⟨gBX, 12, none⟩ = some (.slice ad n c) := by simp [World.cell?, BX.out]
  have lBX : gBX < v0.heap.size := cell_lt cBX0
  go_wp2_with fail
  clear cBX0 cBX1 cBX2 cBX3 cBX4 cBX5 cBX6 cBX7 cBX8 cBX9 cBX10 cBX11 cBX12 lBX
  refine (Kte.out _ (Ht.out.low Hm0.out) Hm0.out).mono ?_
  rintro e v1 ⟨rfl, hp⟩
  have Hm1 := Lib.hid (Hm0.out.trans hp (fun _ _ h => h))
  have hb := (hp.block _ (Array.getElem?_eq_some_iff.1 BX.out).1 id).trans BX.out
  clear BX
  have BX := Lib.hid hb
  clear hb
  have hb := (hp.block _ (Array.getElem?_eq_some_iff.1 BL.out).1 id).trans BL.out
  clear BL
  have BL := Lib.hid hb
  clear hb
  clear hp Hm0
  go_wp2_with fail
  refine (Kpe.out _ (Ht.out.low Hm1.out)).mono ?_
  rintro e v2 ⟨rfl, hp⟩
  have Hm2 := Lib.hid (Hm1.out.trans hp (fun _ _ h => h))
  have hb := (hp.block _ (Array.getElem?_eq_some_iff.1 BX.out).1 id).trans BX.out
  clear BX
  have BX := Lib.hid hb
  clear hb
  have hb := (hp.block _ (Array.getElem?_eq_some_iff.1 BL.out).1 id).trans BL.out
  clear BL
  have BL := Lib.hid hb
  clear hb
  clear hp Hm1
  have cBX0 : v2.cell? ⟨gBX, 0, none⟩ = some (.int .u8 r) := by simp [World.cell?, BX.out]
  have cBX1 : v2.cell? ⟨gBX, 1, none⟩ = some (.int .u32 a) := by simp [World.cell?, BX.out]
  have cBX2 : v2.cell? ⟨gBX, 2, none⟩ = some (.int .u16 p) := by simp [World.cell?, BX.out]
  have cBX3 : v2.cell? ⟨gBX, 3, none⟩ = some (.int .u32 b) := by simp [World.cell?, BX.out]
  have cBX4 : v2.cell? ⟨gBX, 4, none⟩ = some (.int .u16 q) := by simp [World.cell?, BX.out]
  have cBX5 : v2.cell? ⟨gBX, 5, none⟩ = some (.int .u8 r2) := by simp [World.cell?, BX.out]
  have cBX6 : v2.cell? ⟨gBX, 6, none⟩ = some (.int .u32 a2) := by simp [World.cell?, BX.out]
  have cBX7 : v2.cell? ⟨gBX, 7, none⟩ = some (.int .u16 p2) := by simp [World.cell?, BX.out]
  have cBX8 : v2.cell? ⟨gBX, 8, none⟩ = some (.int .u32 b2) := by simp [World.cell?, BX.out]
  have cBX9 : v2.cell? ⟨gBX, 9, none⟩ = some (.int .u16 q2) := by simp [World.cell?, BX.out]
  have cBX10 : v2.cell? ⟨gBX, 10, none⟩ = some (.int .i64 st) := by simp [World.cell?, BX.out]
  have cBX11 : v2.cell? ⟨gBX, 11, none⟩ = some (.int .i64 dl) := by simp [World.cell?, BX.out]
  have cBX12 : v2.cell? ⟨gBX, 12, none⟩ = some (.slice ad n c) := by simp [World.cell?, BX.out]
  have lBX : gBX < v2.heap.size := cell_lt cBX0
  go_wp2_with fail
  clear cBX0 cBX1 cBX2 cBX3 cBX4 cBX5 cBX6 cBX7 cBX8 cBX9 cBX10 cBX11 cBX12 lBX
  have hq : NoW v2 (v2.alloc (.cells #[.int .u8 0, .int .u32 0, .int .u16 0, .int .u32 0, .int .u16 0, .int .u8 0, .int .u32 0, .int .u16 0, .int .u32 0, .int .u16 0, .int .i64 0, .int .i64 0, .slice none 0 0] 31)) := (Fp.refl _ _).alloc _
  have Hq0 := Lib.hid (Hm2.out.trans hq (fun _ _ h => h))
  have hb := (hq.block _ (Array.getElem?_eq_some_iff.1 BX.out).1 id).trans BX.out
  clear BX
  have BX := Lib.hid hb
  clear hb
  have hb := (hq.block _ (Array.getElem?_eq_some_iff.1 BL.out).1 id).trans BL.out
  clear BL
  have BL := Lib.hid hb
  clear hb
  have hb : (v2.alloc (.cells #[.int .u8 0, .int .u32 0, .int .u16 0, .int .u32 0, .int .u16 0, .int .u8 0, .int .u32 0, .int .u16 0, .int .u32 0, .int .u16 0, .int .i64 0, .int .i64 0, .slice none 0 0] 31)).heap[v2.heap.size]? = some (.cells #[.int .u8 0, .int .u32 0, .int .u16 0, .int .u32 0, .int .u16 0, .int .u8 0, .int .u32 0, .int .u16 0, .int .u32 0, .int .u16 0, .int .i64 0, .int .i64 0, .slice none 0 0] 31) := by simpa using heap_alloc_new v2 (.cells #[.int .u8 0, .int .u32 0, .int .u16 0, .int .u32 0, .int .u16 0, .int .u8 0, .int .u32 0, .int .u16 0, .int .u32 0, .int .u16 0, .int .i64 0, .int .i64 0, .slice none 0 0] 31)
  have B6 := Lib.hid hb
  clear hb hq Hm2
  generalize (v2.alloc (.cells #[.int .u8 0, .int .u32 0, .int .u16 0, .int .u32 0, .int .u16 0, .int .u8 0, .int .u32 0, .int .u16 0, .int .u32 0, .int .u16 0, .int .i64 0, .int .i64 0, .slice none 0 0] 31)) = x0 at *
  generalize v2.heap.size = gB6 at *
  refine (Kcb.out _ (Ht.out.low Hq0.out)).mono ?_
  rintro e v3 ⟨rfl, hp⟩
  have Hm3 := Lib.hid (Hq0.out.trans hp (fun _ _ h => h))
  have hb := (hp.block _ (Array.getElem?_eq_some_iff.1 BX.out).1 id).trans BX.out
  clear BX
  have BX := Lib.hid hb
  clear hb
  have hb := (hp.block _ (Array.getElem?_eq_some_iff.1 BL.out).1 id).trans BL.out
  clear BL
  have BL := Lib.hid hb
  clear hb
  have hb := (hp.block _ (Array.getElem?_eq_some_iff.1 B6.out).1 id).trans B6.out
  clear B6
  have B6 := Lib.hid hb
  clear hb
  clear hp Hq0
  go_wp2_with fail
  refine (Kp.out _ (Ht.out.low Hm3.out)).mono ?_
  rintro e v4 ⟨rfl, hp⟩
  have Hm4 := Lib.hid (Hm3.out.trans hp (fun _ _ h => h))
  have hb := (hp.block _ (Array.getElem?_eq_some_iff.1 BX.out).1 id).trans BX.out
  clear BX
  have BX := Lib.hid hb
  clear hb
  have hb := (hp.block _ (Array.getElem?_eq_some_iff.1 BL.out).1 id).trans BL.out
  clear BL
  have BL := Lib.hid hb
  clear hb
  have hb := (hp.block _ (Array.getElem?_eq_some_iff.1 B6.out).1 id).trans B6.out
  clear B6
  have B6 := Lib.hid hb
  clear hb
  clear hp Hm3
  go_wp2_with fail
  go_ret
  exact ⟨rfl, Hm4.out⟩

set_option maxHeartbeats 8000000 in
set_option maxRecDepth 100000 in
theorem back_np (r a p b q r2 a2 p2 b2 q2 : Nat) (st dl : Int) (ad : Option Addr) (n c : Nat) (oa op ia ip : Nat → Nat) (t l : List UInt8) (hcm : n ≤ maxLen) (hL : longB 1 (fun _ => n) 1 = false) (hl : l.length ≤ 300) (w : World) (ht : TbQ w)
    (ktx : ∀ W, TbQ W → NoW w W → Calls Tryd.prog 37 #[.agg #[.int .u8 r, .int .u32 a, .int .u16 p, .int .u32 b, .int .u16 q, .int .u8 r2, .int .u32 a2, .int .u16 p2, .int .u32 b2, .int .u16 q2, .int .i64 st, .int .i64 dl, .slice ad n c]] W (Ret1 (str t) W))
    (kpt : ∀ W, TbQ W → Calls Tryd.prog 38 #[str t] W fun e w' => ∃ o' c', e = .returned (.tuple #[.agg #[.int .u8 r, .int .u32 a, .int .u16 p, .int .u32 b, .int .u16 q, .int .u8 r2, .int .u32 a2, .int .u16 p2, .int .u32 b2, .int .u16 q2, .int .i64 st, .int .i64 dl, .slice o' n c'], .int .i64 0]) ∧ HoldsIn w' o' n (holdsV oa op ia ip n) ∧ NoW W w')
    (kck : ∀ W, TbQ W → Calls Tryd.prog 19 #[.agg #[.int .u8 r, .int .u32 a, .int .u16 p, .int .u32 b, .int .u16 q, .int .u8 r2, .int .u32 a2, .int .u16 p2, .int .u32 b2, .int .u16 q2, .int .i64 st, .int .i64 dl, .slice ad n c]] W (Ret1 (.int .i64 0) W))
    (ksm : ∀ W o c', NoW w W → HoldsIn W o n (holdsV oa op ia ip n) → Calls Tryd.prog 29 #[.agg #[.int .u8 r, .int .u32 a, .int .u16 p, .int .u32 b, .int .u16 q, .int .u8 r2, .int .u32 a2, .int .u16 p2, .int .u32 b2, .int .u16 q2, .int .i64 st, .int .i64 dl, .slice ad n c], .agg #[.int .u8 r, .int .u32 a, .int .u16 p, .int .u32 b, .int .u16 q, .int .u8 r2, .int .u32 a2, .int .u16 p2, .int .u32 b2, .int .u16 q2, .int .i64 st, .int .i64 dl, .slice o n c']] W (Ret1 (.bool true) W))
    (knp : ∀ W, TbQ W → Calls Tryd.prog 38 #[str l] W (Ret1 (.tuple #[.agg #[.int .u8 0, .int .u32 0, .int .u16 0, .int .u32 0, .int .u16 0, .int .u8 0, .int .u32 0, .int .u16 0, .int .u32 0, .int .u16 0, .int .i64 0, .int .i64 0, .slice none 0 0], .int .i64 3]) W)) : Calls Tryd.prog 7 #[.agg #[.int .u8 r, .int .u32 a, .int .u16 p, .int .u32 b, .int .u16 q, .int .u8 r2, .int .u32 a2, .int .u16 p2, .int .u32 b2, .int .u16 q2, .int .i64 st, .int .i64 dl, .slice ad n c], str l] w (Ret1 (.bool true) w) := by
  have Ktx := Lib.hid ktx
  have Kpt := Lib.hid kpt
  have Kck := Lib.hid kck
  have Ksm := Lib.hid ksm
  have Knp := Lib.hid knp
  have Ht := Lib.hid ht
  have Hcm := Lib.hid hcm
  have kp := fun W (hW : TbQ W) => passes18 W hW.toP.base
  have Kp := Lib.hid kp
  clear ht kp hcm ktx kpt kck ksm knp
  go_enter Tryd.func7, Tryd.ntmps7
  go_wp2_with fail
  have hw0 : NoW w ((w.alloc (.cells #[.int .u8 r, .int .u32 a, .int .u16 p, .int .u32 b, .int .u16 q, .int .u8 r2, .int .u32 a2, .int .u16 p2, .int .u32 b2, .int .u16 q2, .int .i64 st, .int .i64 dl, .slice ad n c] 31)).alloc (.cells #[.int .u8 r, .int .u32 a, .int .u16 p, .int .u32 b, .int .u16 q, .int .u8 r2, .int .u32 a2, .int .u16 p2, .int .u32 b2, .int .u16 q2, .int .i64 st, .int .i64 dl, .slice ad n c] 31)) := ((Fp.refl _ _).alloc _).alloc _
  obtain ⟨hb0, hb1⟩ := box2 w (.cells #[.int .u8 r, .int .u32 a, .int .u16 p, .int .u32 b, .int .u16 q, .int .u8 r2, .int .u32 a2, .int .u16 p2, .int .u32 b2, .int .u16 q2, .int .i64 st, .int .i64 dl, .slice ad n c] 31) (.cells #[.int .u8 r, .int .u32 a, .int .u16 p, .int .u32 b, .int .u16 q, .int .u8 r2, .int .u32 a2, .int .u16 p2, .int .u32 b2, .int .u16 q2, .int .i64 st, .int .i64 dl, .slice ad n c] 31)
  generalize (w.alloc (.cells #[.int .u8 r, .int .u32 a, .int .u16 p, .int .u32 b, .int .u16 q, .int .u8 r2, .int .u32 a2, .int .u16 p2, .int .u32 b2, .int .u16 q2, .int .i64 st, .int .i64 dl, .slice ad n c] 31)).alloc (.cells #[.int .u8 r, .int .u32 a, .int .u16 p, .int .u32 b, .int .u16 q, .int .u8 r2, .int .u32 a2, .int .u16 p2, .int .u32 b2, .int .u16 q2, .int .i64 st, .int .i64 dl, .slice ad n c] 31) = w0 at *
  have BX := Lib.hid hb0
  have BL := Lib.hid hb1
  have Hn0 := Lib.hid hw0
  clear hb0 hb1 hw0
  generalize w.heap.size + 1 = gBL at *
  generalize w.heap.size = gBX at *
  have hlc : ∀ i, i < 1 → ∃ b o, (some ⟨gBL, 0, none⟩ : Option Addr) = some ⟨b, o, none⟩ ∧ w0.cell? ⟨b, o + i * 13 + 12, none⟩ = some (.slice ((fun _ => ad) i) ((fun _ => n) i) ((fun _ => c) i)) ∧ (fun _ => n) i ≤ maxLen := by
    intro i hi
    obtain rfl : i = 0 := by omega
    exact ⟨gBL, 0, rfl, by simp [World.cell?, BL.out], Hcm.out⟩
  have kl := long_ok (some ⟨gBL, 0, none⟩) 1 1 (fun _ => n) (fun _ => c) (fun _ => ad) 1 (by unfold maxLen; omega) (by omega) w0 hlc
  rw [hL] at kl
  clear hlc
  refine (kl).mono ?_
  rintro e v0 ⟨rfl, hp⟩
  have Hm0 := Lib.hid (Hn0.out.trans hp (fun _ _ h => h))
  have hb := (hp.block _ (Array.getElem?_eq_some_iff.1 BX.out).1 id).trans BX.out
  clear BX
  have BX := Lib.hid hb
  clear hb
  have hb := (hp.block _ (Array.getElem?_eq_some_iff.1 BL.out).1 id).trans BL.out
  clear BL
  have BL := Lib.hid hb
  clear hb
  clear hp Hn0
  have cBX0 : v0.cell? ⟨gBX, 0, none⟩ = some (.int .u8 r) := by simp [World.cell?, BX.out]
  have cBX1 : v0.cell? ⟨gBX, 1, none⟩ = some (.int .u32 a) := by simp [World.cell?, BX.out]
  have cBX2 : v0.cell? ⟨gBX, 2, none⟩ = some (.int .u16 p) := by simp [World.cell?, BX.out]
  have cBX3 : v0.cell? ⟨gBX, 3, none⟩ = some (.int .u32 b) := by simp [World.cell?, BX.out]
  have cBX4 : v0.cell? ⟨gBX, 4, none⟩ = some (.int .u16 q) := by simp [World.cell?, BX.out]
  have cBX5 : v0.cell? ⟨gBX, 5, none⟩ = some (.int .u8 r2) := by simp [World.cell?, BX.out]
  have cBX6 : v0.cell? ⟨gBX, 6, none⟩ = some (.int .u32 a2) := by simp [World.cell?, BX.out]
  have cBX7 : v0.cell? ⟨gBX, 7, none⟩ = some (.int .u16 p2) := by simp [World.cell?, BX.out]
  have cBX8 : v0.cell? ⟨gBX, 8, none⟩ = some (.int .u32 b2) := by simp [World.cell?, BX.out]
  have cBX9 : v0.cell? ⟨gBX, 9, none⟩ = some (.int .u16 q2) := by simp [World.cell?, BX.out]
  have cBX10 : v0.cell? ⟨gBX, 10, none⟩ = some (.int .i64 st) := by simp [World.cell?, BX.out]
  have cBX11 : v0.cell? ⟨gBX, 11, none⟩ = some (.int .i64 dl) := by simp [World.cell?, BX.out]
  have cBX12 : v0.cell? ⟨gBX, 12, none⟩ = some (.slice ad n c) := by simp [World.cell?, BX.out]
  have lBX : gBX < v0.heap.size := cell_lt cBX0
  go_wp2_with fail
  clear cBX0 cBX1 cBX2 cBX3 cBX4 cBX5 cBX6 cBX7 cBX8 cBX9 cBX10 cBX11 cBX12 lBX
  refine (Ktx.out _ (Ht.out.low Hm0.out) Hm0.out).mono ?_
  rintro e v1 ⟨rfl, hp⟩
  have Hm1 := Lib.hid (Hm0.out.trans hp (fun _ _ h => h))
  have hb := (hp.block _ (Array.getElem?_eq_some_iff.1 BX.out).1 id).trans BX.out
  clear BX
  have BX := Lib.hid hb
  clear hb
  have hb := (hp.block _ (Array.getElem?_eq_some_iff.1 BL.out).1 id).trans BL.out
  clear BL
  have BL := Lib.hid hb
  clear hb
  clear hp Hm0
  go_wp2_with fail
  refine (Kpt.out _ (Ht.out.low Hm1.out)).mono ?_
  rintro e v2 ⟨o6, c6, rfl, hin, hp⟩
  have Hm2 := Lib.hid (Hm1.out.trans hp (fun _ _ h => h))
  have hb := (hp.block _ (Array.getElem?_eq_some_iff.1 BX.out).1 id).trans BX.out
  clear BX
  have BX := Lib.hid hb
  clear hb
  have hb := (hp.block _ (Array.getElem?_eq_some_iff.1 BL.out).1 id).trans BL.out
  clear BL
  have BL := Lib.hid hb
  clear hb
  have Hin6 := Lib.hid hin
  clear hin
  clear hp Hm1
  have cBX0 : v2.cell? ⟨gBX, 0, none⟩ = some (.int .u8 r) := by simp [World.cell?, BX.out]
  have cBX1 : v2.cell? ⟨gBX, 1, none⟩ = some (.int .u32 a) := by simp [World.cell?, BX.out]
  have cBX2 : v2.cell? ⟨gBX, 2, none⟩ = some (.int .u16 p) := by simp [World.cell?, BX.out]
  have cBX3 : v2.cell? ⟨gBX, 3, none⟩ = some (.int .u32 b) := by simp [World.cell?, BX.out]
  have cBX4 : v2.cell? ⟨gBX, 4, none⟩ = some (.int .u16 q) := by simp [World.cell?, BX.out]
  have cBX5 : v2.cell? ⟨gBX, 5, none⟩ = some (.int .u8 r2) := by simp [World.cell?, BX.out]
  have cBX6 : v2.cell? ⟨gBX, 6, none⟩ = some (.int .u32 a2) := by simp [World.cell?, BX.out]
  have cBX7 : v2.cell? ⟨gBX, 7, none⟩ = some (.int .u16 p2) := by simp [World.cell?, BX.out]
  have cBX8 : v2.cell? ⟨gBX, 8, none⟩ = some (.int .u32 b2) := by simp [World.cell?, BX.out]
  have cBX9 : v2.cell? ⟨gBX, 9, none⟩ = some (.int .u16 q2) := by simp [World.cell?, BX.out]
  have cBX10 : v2.cell? ⟨gBX, 10, none⟩ = some (.int .i64 st) := by simp [World.cell?, BX.out]
  have cBX11 : v2.cell? ⟨gBX, 11, none⟩ = some (.int .i64 dl) := by simp [World.cell?, BX.out]
  have cBX12 : v2.cell? ⟨gBX, 12, none⟩ = some (.slice ad n c) := by simp [World.cell?, BX.out]
  have lBX : gBX < v2.heap.size := cell_lt cBX0
  go_wp2_with fail
  clear cBX0 cBX1 cBX2 cBX3 cBX4 cBX5 cBX6 cBX7 cBX8 cBX9 cBX10 cBX11 cBX12 lBX
  have hq : NoW v2 (v2.alloc (.cells #[.int .u8 r, .int .u32 a, .int .u16 p, .int .u32 b, .int .u16 q, .int .u8 r2, .int .u32 a2, .int .u16 p2, .int .u32 b2, .int .u16 q2, .int .i64 st, .int .i64 dl, .slice o6 n c6] 31)) := (Fp.refl _ _).alloc _
  have Hq0 := Lib.hid (Hm2.out.trans hq (fun _ _ h => h))
  have hb := (hq.block _ (Array.getElem?_eq_some_iff.1 BX.out).1 id).trans BX.out
  clear BX
  have BX := Lib.hid hb
  clear hb
  have hb := (hq.block _ (Array.getElem?_eq_some_iff.1 BL.out).1 id).trans BL.out
  clear BL
  have BL := Lib.hid hb
  clear hb
  have hb := Hin6.out.low hq
  clear Hin6
  have Hin6 := Lib.hid hb
  clear hb
  have hb : (v2.alloc (.cells #[.int .u8 r, .int .u32 a, .int .u16 p, .int .u32 b, .int .u16 q, .int .u8 r2, .int .u32 a2, .int .u16 p2, .int .u32 b2, .int .u16 q2, .int .i64 st, .int .i64 dl, .slice o6 n c6] 31)).heap[v2.heap.size]? = some (.cells #[.int .u8 r, .int .u32 a, .int .u16 p, .int .u32 b, .int .u16 q, .int .u8 r2, .int .u32 a2, .int .u16 p2, .int .u32 b2, .int .u16 q2, .int .i64 st, .int .i64 dl, .slice o6 n c6] 31) := by simpa using heap_alloc_new v2 (.cells #[.int .u8 r, .int .u32 a, .int .u16 p, .int .u32 b, .int .u16 q, .int .u8 r2, .int .u32 a2, .int .u16 p2, .int .u32 b2, .int .u16 q2, .int .i64 st, .int .i64 dl, .slice o6 n c6] 31)
  have B6 := Lib.hid hb
  clear hb hq Hm2
  generalize (v2.alloc (.cells #[.int .u8 r, .int .u32 a, .int .u16 p, .int .u32 b, .int .u16 q, .int .u8 r2, .int .u32 a2, .int .u16 p2, .int .u32 b2, .int .u16 q2, .int .i64 st, .int .i64 dl, .slice o6 n c6] 31)) = x0 at *
  generalize v2.heap.size = gB6 at *
  refine (Kck.out _ (Ht.out.low Hq0.out)).mono ?_
  rintro e v3 ⟨rfl, hp⟩
  have Hm3 := Lib.hid (Hq0.out.trans hp (fun _ _ h => h))
  have hb := (hp.block _ (Array.getElem?_eq_some_iff.1 BX.out).1 id).trans BX.out
  clear BX
  have BX := Lib.hid hb
  clear hb
  have hb := (hp.block _ (Array.getElem?_eq_some_iff.1 BL.out).1 id).trans BL.out
  clear BL
  have BL := Lib.hid hb
  clear hb
  have hb := (hp.block _ (Array.getElem?_eq_some_iff.1 B6.out).1 id).trans B6.out
  clear B6
  have B6 := Lib.hid hb
  clear hb
  have hb := Hin6.out.low hp
  clear Hin6
  have Hin6 := Lib.hid hb
  clear hb
  clear hp Hq0
  go_wp2_with fail
  refine (Knp.out _ (Ht.out.low Hm3.out)).mono ?_
  rintro e v4 ⟨rfl, hp⟩
  have Hm4 := Lib.hid (Hm3.out.trans hp (fun _ _ h => h))
  have hb := (hp.block _ (Array.getElem?_eq_some_iff.1 BX.out).1 id).trans BX.out
  clear BX
  have BX := Lib.hid hb
  clear hb
  have hb := (hp.block _ (Array.getElem?_eq_some_iff.1 BL.out).1 id).trans BL.out
  clear BL
  have BL := Lib.hid hb
  clear hb
  have hb := (hp.block _ (Array.getElem?_eq_some_iff.1 B6.out).1 id).trans B6.out
  clear B6
  have B6 := Lib.hid hb
  clear hb
  have hb := Hin6.out.low hp
  clear Hin6
  have Hin6 := Lib.hid hb
  clear hb
  clear hp Hm3
  have cBX0 : v4.cell? ⟨gBX, 0, none⟩ = some (.int .u8 r) := by simp [World.cell?, BX.out]
  have cBX1 : v4.cell? ⟨gBX, 1, none⟩ = some (.int .u32 a) := by simp [World.cell?, BX.out]
  have cBX2 : v4.cell? ⟨gBX, 2, none⟩ = some (.int .u16 p) := by simp [World.cell?, BX.out]
  have cBX3 : v4.cell? ⟨gBX, 3, none⟩ = some (.int .u32 b) := by simp [World.cell?, BX.out]
  have cBX4 : v4.cell? ⟨gBX, 4, none⟩ = some (.int .u16 q) := by simp [World.cell?, BX.out]
  have cBX5 : v4.cell? ⟨gBX, 5, none⟩ = some (.int .u8 r2) := by simp [World.cell?, BX.out]
  have cBX6 : v4.cell? ⟨gBX, 6, none⟩ = some (.int .u32 a2) := by simp [World.cell?, BX.out]
  have cBX7 : v4.cell? ⟨gBX, 7, none⟩ = some (.int .u16 p2) := by simp [World.cell?, BX.out]
  have cBX8 : v4.cell? ⟨gBX, 8, none⟩ = some (.int .u32 b2) := by simp [World.cell?, BX.out]
  have cBX9 : v4.cell? ⟨gBX, 9, none⟩ = some (.int .u16 q2) := by simp [World.cell?, BX.out]
  have cBX10 : v4.cell? ⟨gBX, 10, none⟩ = some (.int .i64 st) := by simp [World.cell?, BX.out]
  have cBX11 : v4.cell? ⟨gBX, 11, none⟩ = some (.int .i64 dl) := by simp [World.cell?, BX.out]
  have cBX12 : v4.cell? ⟨gBX, 12, none⟩ = some (.slice ad n c) := by simp [World.cell?, BX.out]
  have lBX : gBX < v4.heap.size := cell_lt cBX0
  have cB60 : v4.cell? ⟨gB6, 0, none⟩ = some (.int .u8 r) := by simp [World.cell?, B6.out]
  have cB61 : v4.cell? ⟨gB6, 1, none⟩ = some (.int .u32 a) := by simp [World.cell?, B6.out]
  have cB62 : v4.cell? ⟨gB6, 2, none⟩ = some (.int .u16 p) := by simp [World.cell?, B6.out]
  have cB63 : v4.cell? ⟨gB6, 3, none⟩ = some (.int .u32 b) := by simp [World.cell?, B6.out]
  have cB64 : v4.cell? ⟨gB6, 4, none⟩ = some (.int .u16 q) := by simp [World.cell?, B6.out]
  have cB65 : v4.cell? ⟨gB6, 5, none⟩ = some (.int .u8 r2) := by simp [World.cell?, B6.out]
  have cB66 : v4.cell? ⟨gB6, 6, none⟩ = some (.int .u32 a2) := by simp [World.cell?, B6.out]
  have cB67 : v4.cell? ⟨gB6, 7, none⟩ = some (.int .u16 p2) := by simp [World.cell?, B6.out]
  have cB68 : v4.cell? ⟨gB6, 8, none⟩ = some (.int .u32 b2) := by simp [World.cell?, B6.out]
  have cB69 : v4.cell? ⟨gB6, 9, none⟩ = some (.int .u16 q2) := by simp [World.cell?, B6.out]
  have cB610 : v4.cell? ⟨gB6, 10, none⟩ = some (.int .i64 st) := by simp [World.cell?, B6.out]
  have cB611 : v4.cell? ⟨gB6, 11, none⟩ = some (.int .i64 dl) := by simp [World.cell?, B6.out]
  have cB612 : v4.cell? ⟨gB6, 12, none⟩ = some (.slice o6 n c6) := by simp [World.cell?, B6.out]
  have lB6 : gB6 < v4.heap.size := cell_lt cB60
  go_wp2_with fail
  clear cBX0 cBX1 cBX2 cBX3 cBX4 cBX5 cBX6 cBX7 cBX8 cBX9 cBX10 cBX11 cBX12 lBX cB60 cB61 cB62 cB63 cB64 cB65 cB66 cB67 cB68 cB69 cB610 cB611 cB612 lB6
  have hq : NoW v4 (v4.alloc (.cells #[.int .u8 0, .int .u32 0, .int .u16 0, .int .u32 0, .int .u16 0, .int .u8 0, .int .u32 0, .int .u16 0, .int .u32 0, .int .u16 0, .int .i64 0, .int .i64 0, .slice none 0 0] 31)) := (Fp.refl _ _).alloc _
  have Hq1 := Lib.hid (Hm4.out.trans hq (fun _ _ h => h))
  have hb := (hq.block _ (Array.getElem?_eq_some_iff.1 BX.out).1 id).trans BX.out
  clear BX
  have BX := Lib.hid hb
  clear hb
  have hb := (hq.block _ (Array.getElem?_eq_some_iff.1 BL.out).1 id).trans BL.out
  clear BL
  have BL := Lib.hid hb
  clear hb
  have hb := (hq.block _ (Array.getElem?_eq_some_iff.1 B6.out).1 id).trans B6.out
  clear B6
  have B6 := Lib.hid hb
  clear hb
  have hb := Hin6.out.low hq
  clear Hin6
  have Hin6 := Lib.hid hb
  clear hb
  have hb : (v4.alloc (.cells #[.int .u8 0, .int .u32 0, .int .u16 0, .int .u32 0, .int .u16 0, .int .u8 0, .int .u32 0, .int .u16 0, .int .u32 0, .int .u16 0, .int .i64 0, .int .i64 0, .slice none 0 0] 31)).heap[v4.heap.size]? = some (.cells #[.int .u8 0, .int .u32 0, .int .u16 0, .int .u32 0, .int .u16 0, .int .u8 0, .int .u32 0, .int .u16 0, .int .u32 0, .int .u16 0, .int .i64 0, .int .i64 0, .slice none 0 0] 31) := by simpa using heap_alloc_new v4 (.cells #[.int .u8 0, .int .u32 0, .int .u16 0, .int .u32 0, .int .u16 0, .int .u8 0, .int .u32 0, .int .u16 0, .int .u32 0, .int .u16 0, .int .i64 0, .int .i64 0, .slice none 0 0] 31)
  have B8 := Lib.hid hb
  clear hb hq Hm4
  generalize (v4.alloc (.cells #[.int .u8 0, .int .u32 0, .int .u16 0, .int .u32 0, .int .u16 0, .int .u8 0, .int .u32 0, .int .u16 0, .int .u32 0, .int .u16 0, .int .i64 0, .int .i64 0, .slice none 0 0] 31)) = x1 at *
  generalize v4.heap.size = gB8 at *
  refine (Ksm.out _ o6 c6 Hq1.out Hin6.out).mono ?_
  rintro e v5 ⟨rfl, hp⟩
  have Hm5 := Lib.hid (Hq1.out.trans hp (fun _ _ h => h))
  have hb := (hp.block _ (Array.getElem?_eq_some_iff.1 BX.out).1 id).trans BX.out
  clear BX
  have BX := Lib.hid hb
  clear hb
  have hb := (hp.block _ (Array.getElem?_eq_some_iff.1 BL.out).1 id).trans BL.out
  clear BL
  have BL := Lib.hid hb
  clear hb
  have hb := (hp.block _ (Array.getElem?_eq_some_iff.1 B6.out).1 id).trans B6.out
  clear B6
  have B6 := Lib.hid hb
  clear hb
  have hb := (hp.block _ (Array.getElem?_eq_some_iff.1 B8.out).1 id).trans B8.out
  clear B8
  have B8 := Lib.hid hb
  clear hb
  have hb := Hin6.out.low hp
  clear Hin6
  have Hin6 := Lib.hid hb
  clear hb
  clear hp Hq1
  go_wp2_with fail
  refine (Kp.out _ (Ht.out.low Hm5.out)).mono ?_
  rintro e v6 ⟨rfl, hp⟩
  have Hm6 := Lib.hid (Hm5.out.trans hp (fun _ _ h => h))
  have hb := (hp.block _ (Array.getElem?_eq_some_iff.1 BX.out).1 id).trans BX.out
  clear BX
  have BX := Lib.hid hb
  clear hb
  have hb := (hp.block _ (Array.getElem?_eq_some_iff.1 BL.out).1 id).trans BL.out
  clear BL
  have BL := Lib.hid hb
  clear hb
  have hb := (hp.block _ (Array.getElem?_eq_some_iff.1 B6.out).1 id).trans B6.out
  clear B6
  have B6 := Lib.hid hb
  clear hb
  have hb := (hp.block _ (Array.getElem?_eq_some_iff.1 B8.out).1 id).trans B8.out
  clear B8
  have B8 := Lib.hid hb
  clear hb
  have hb := Hin6.out.low hp
  clear Hin6
  have Hin6 := Lib.hid hb
  clear hb
  clear hp Hm5
  go_wp2_with fail
  go_ret
  exact ⟨rfl, Hm6.out⟩

set_option maxHeartbeats 8000000 in
set_option maxRecDepth 100000 in
theorem back_yes (r a p b q r2 a2 p2 b2 q2 : Nat) (st dl : Int) (ad : Option Addr) (n c : Nat) (oa op ia ip : Nat → Nat) (r5 a5 p5 b5 q5 r6 a6 p6 b6 q6 : Nat) (zst zdl : Int) (zn : Nat) (oa3 op3 ia3 ip3 : Nat → Nat) (t l : List UInt8) (hcm : n ≤ maxLen) (hL : longB 1 (fun _ => n) 1 = false) (hl : l.length ≤ 300) (w : World) (ht : TbQ w)
    (ktx : ∀ W, TbQ W → NoW w W → Calls Tryd.prog 37 #[.agg #[.int .u8 r, .int .u32 a, .int .u16 p, .int .u32 b, .int .u16 q, .int .u8 r2, .int .u32 a2, .int .u16 p2, .int .u32 b2, .int .u16 q2, .int .i64 st, .int .i64 dl, .slice ad n c]] W (Ret1 (str t) W))
    (kpt : ∀ W, TbQ W → Calls Tryd.prog 38 #[str t] W fun e w' => ∃ o' c', e = .returned (.tuple #[.agg #[.int .u8 r, .int .u32 a, .int .u16 p, .int .u32 b, .int .u16 q, .int .u8 r2, .int .u32 a2, .int .u16 p2, .int .u32 b2, .int .u16 q2, .int .i64 st, .int .i64 dl, .slice o' n c'], .int .i64 0]) ∧ HoldsIn w' o' n (holdsV oa op ia ip n) ∧ NoW W w')
    (kck : ∀ W, TbQ W → Calls Tryd.prog 19 #[.agg #[.int .u8 r, .int .u32 a, .int .u16 p, .int .u32 b, .int .u16 q, .int .u8 r2, .int .u32 a2, .int .u16 p2, .int .u32 b2, .int .u16 q2, .int .i64 st, .int .i64 dl, .slice ad n c]] W (Ret1 (.int .i64 0) W))
    (ksm : ∀ W o c', NoW w W → HoldsIn W o n (holdsV oa op ia ip n) → Calls Tryd.prog 29 #[.agg #[.int .u8 r, .int .u32 a, .int .u16 p, .int .u32 b, .int .u16 q, .int .u8 r2, .int .u32 a2, .int .u16 p2, .int .u32 b2, .int .u16 q2, .int .i64 st, .int .i64 dl, .slice ad n c], .agg #[.int .u8 r, .int .u32 a, .int .u16 p, .int .u32 b, .int .u16 q, .int .u8 r2, .int .u32 a2, .int .u16 p2, .int .u32 b2, .int .u16 q2, .int .i64 st, .int .i64 dl, .slice o n c']] W (Ret1 (.bool true) W))
    (kps : ∀ W, TbQ W → Calls Tryd.prog 38 #[str l] W fun e w' => ∃ o' c', e = .returned (.tuple #[.agg #[.int .u8 r5, .int .u32 a5, .int .u16 p5, .int .u32 b5, .int .u16 q5, .int .u8 r6, .int .u32 a6, .int .u16 p6, .int .u32 b6, .int .u16 q6, .int .i64 zst, .int .i64 zdl, .slice o' zn c'], .int .i64 0]) ∧ HoldsIn w' o' zn (holdsV oa3 op3 ia3 ip3 zn) ∧ NoW W w')
    (ktz : ∀ W o c', TbQ W → HoldsIn W o zn (holdsV oa3 op3 ia3 ip3 zn) → Calls Tryd.prog 37 #[.agg #[.int .u8 r5, .int .u32 a5, .int .u16 p5, .int .u32 b5, .int .u16 q5, .int .u8 r6, .int .u32 a6, .int .u16 p6, .int .u32 b6, .int .u16 q6, .int .i64 zst, .int .i64 zdl, .slice o zn c']] W (Ret1 (str l) W))
    (kcz : ∀ W o c', TbQ W → Calls Tryd.prog 19 #[.agg #[.int .u8 r5, .int .u32 a5, .int .u16 p5, .int .u32 b5, .int .u16 q5, .int .u8 r6, .int .u32 a6, .int .u16 p6, .int .u32 b6, .int .u16 q6, .int .i64 zst, .int .i64 zdl, .slice o zn c']] W (Ret1 (.int .i64 0) W)) : Calls Tryd.prog 7 #[.agg #[.int .u8 r, .int .u32 a, .int .u16 p, .int .u32 b, .int .u16 q, .int .u8 r2, .int .u32 a2, .int .u16 p2, .int .u32 b2, .int .u16 q2, .int .i64 st, .int .i64 dl, .slice ad n c], str l] w (Ret1 (.bool true) w) := by
  have Ktx := Lib.hid ktx
  have Kpt := Lib.hid kpt
  have Kck := Lib.hid kck
  have Ksm := Lib.hid ksm
  have Kps := Lib.hid kps
  have Ktz := Lib.hid ktz
  have Kcz := Lib.hid kcz
  have Ht := Lib.hid ht
  have Hcm := Lib.hid hcm
  have kp := fun W (hW : TbQ W) => passes18 W hW.toP.base
  have Kp := Lib.hid kp
  clear ht kp hcm ktx kpt kck ksm kps ktz kcz
  go_enter Tryd.func7, Tryd.ntmps7
  go_wp2_with fail
  have hw0 : NoW w ((w.alloc (.cells #[.int .u8 r, .int .u32 a, .int .u16 p, .int .u32 b, .int .u16 q, .int .u8 r2, .int .u32 a2, .int .u16 p2, .int .u32 b2, .int .u16 q2, .int .i64 st, .int .i64 dl, .slice ad n c] 31)).alloc (.cells #[.int .u8 r, .int .u32 a, .int .u16 p, .int .u32 b, .int .u16 q, .int .u8 r2, .int .u32 a2, .int .u16 p2, .int .u32 b2, .int .u16 q2, .int .i64 st, .int .i64 dl, .slice ad n c] 31)) := ((Fp.refl _ _).alloc _).alloc _
  obtain ⟨hb0, hb1⟩ := box2 w (.cells #[.int .u8 r, .int .u32 a, .int .u16 p, .int .u32 b, .int .u16 q, .int .u8 r2, .int .u32 a2, .int .u16 p2, .int .u32 b2, .int .u16 q2, .int .i64 st, .int .i64 dl, .slice ad n c] 31) (.cells #[.int .u8 r, .int .u32 a, .int .u16 p, .int .u32 b, .int .u16 q, .int .u8 r2, .int .u32 a2, .int .u16 p2, .int .u32 b2, .int .u16 q2, .int .i64 st, .int .i64 dl, .slice ad n c] 31)
  generalize (w.alloc (.cells #[.int .u8 r, .int .u32 a, .int .u16 p, .int .u32 b, .int .u16 q, .int .u8 r2, .int .u32 a2, .int .u16 p2, .int .u32 b2, .int .u16 q2, .int .i64 st, .int .i64 dl, .slice ad n c] 31)).alloc (.cells #[.int .u8 r, .int .u32 a, .int .u16 p, .int .u32 b, .int .u16 q, .int .u8 r2, .int .u32 a2, .int .u16 p2, .int .u32 b2, .int .u16 q2, .int .i64 st, .int .i64 dl, .slice ad n c] 31) = w0 at *
  have BX := Lib.hid hb0
  have BL := Lib.hid hb1
  have Hn0 := Lib.hid hw0
  clear hb0 hb1 hw0
  generalize w.heap.size + 1 = gBL at *
  generalize w.heap.size = gBX at *
  have hlc : ∀ i, i < 1 → ∃ b o, (some ⟨gBL, 0, none⟩ : Option Addr) = some ⟨b, o, none⟩ ∧ w0.cell? ⟨b, o + i * 13 + 12, none⟩ = some (.slice ((fun _ => ad) i) ((fun _ => n) i) ((fun _ => c) i)) ∧ (fun _ => n) i ≤ maxLen := by
    intro i hi
    obtain rfl : i = 0 := by omega
    exact ⟨gBL, 0, rfl, by simp [World.cell?, BL.out], Hcm.out⟩
  have kl := long_ok (some ⟨gBL, 0, none⟩) 1 1 (fun _ => n) (fun _ => c) (fun _ => ad) 1 (by unfold maxLen; omega) (by omega) w0 hlc
  rw [hL] at kl
  clear hlc
  refine (kl).mono ?_
  rintro e v0 ⟨rfl, hp⟩
  have Hm0 := Lib.hid (Hn0.out.trans hp (fun _ _ h => h))
  have hb := (hp.block _ (Array.getElem?_eq_some_iff.1 BX.out).1 id).trans BX.out
  clear BX
  have BX := Lib.hid hb
  clear hb
  have hb := (hp.block _ (Array.getElem?_eq_some_iff.1 BL.out).1 id).trans BL.out
  clear BL
  have BL := Lib.hid hb
  clear hb
  clear hp Hn0
  have cBX0 : v0.cell? ⟨gBX, 0, none⟩ = some (.int .u8 r) := by simp [World.cell?, BX.out]
  have cBX1 : v0.cell? ⟨gBX, 1, none⟩ = some (.int .u32 a) := by simp [World.cell?, BX.out]
  have cBX2 : v0.cell? ⟨gBX, 2, none⟩ = some (.int .u16 p) := by simp [World.cell?, BX.out]
  have cBX3 : v0.cell? ⟨gBX, 3, none⟩ = some (.int .u32 b) := by simp [World.cell?, BX.out]
  have cBX4 : v0.cell? ⟨gBX, 4, none⟩ = some (.int .u16 q) := by simp [World.cell?, BX.out]
  have cBX5 : v0.cell? ⟨gBX, 5, none⟩ = some (.int .u8 r2) := by simp [World.cell?, BX.out]
  have cBX6 : v0.cell? ⟨gBX, 6, none⟩ = some (.int .u32 a2) := by simp [World.cell?, BX.out]
  have cBX7 : v0.cell? ⟨gBX, 7, none⟩ = some (.int .u16 p2) := by simp [World.cell?, BX.out]
  have cBX8 : v0.cell? ⟨gBX, 8, none⟩ = some (.int .u32 b2) := by simp [World.cell?, BX.out]
  have cBX9 : v0.cell? ⟨gBX, 9, none⟩ = some (.int .u16 q2) := by simp [World.cell?, BX.out]
  have cBX10 : v0.cell? ⟨gBX, 10, none⟩ = some (.int .i64 st) := by simp [World.cell?, BX.out]
  have cBX11 : v0.cell? ⟨gBX, 11, none⟩ = some (.int .i64 dl) := by simp [World.cell?, BX.out]
  have cBX12 : v0.cell? ⟨gBX, 12, none⟩ = some (.slice ad n c) := by simp [World.cell?, BX.out]
  have lBX : gBX < v0.heap.size := cell_lt cBX0
  go_wp2_with fail
  clear cBX0 cBX1 cBX2 cBX3 cBX4 cBX5 cBX6 cBX7 cBX8 cBX9 cBX10 cBX11 cBX12 lBX
  refine (Ktx.out _ (Ht.out.low Hm0.out) Hm0.out).mono ?_
  rintro e v1 ⟨rfl, hp⟩
  have Hm1 := Lib.hid (Hm0.out.trans hp (fun _ _ h => h))
  have hb := (hp.block _ (Array.getElem?_eq_some_iff.1 BX.out).1 id).trans BX.out
  clear BX
  have BX := Lib.hid hb
  clear hb
  have hb := (hp.block _ (Array.getElem?_eq_some_iff.1 BL.out).1 id).trans BL.out
  clear BL
  have BL := Lib.hid hb
  clear hb
  clear hp Hm0
  go_wp2_with fail
  refine (Kpt.out _ (Ht.out.low Hm1.out)).mono ?_
  rintro e v2 ⟨o6, c6, rfl, hin, hp⟩
  have Hm2 := Lib.hid (Hm1.out.trans hp (fun _ _ h => h))
  have hb := (hp.block _ (Array.getElem?_eq_some_iff.1 BX.out).1 id).trans BX.out
  clear BX
  have BX := Lib.hid hb
  clear hb
  have hb := (hp.block _ (Array.getElem?_eq_some_iff.1 BL.out).1 id).trans BL.out
  clear BL
  have BL := Lib.hid hb
  clear hb
  have Hin6 := Lib.hid hin
  clear hin
  clear hp Hm1
  have cBX0 : v2.cell? ⟨gBX, 0, none⟩ = some (.int .u8 r) := by simp [World.cell?, BX.out]
  have cBX1 : v2.cell? ⟨gBX, 1, none⟩ = some (.int .u32 a) := by simp [World.cell?, BX.out]
  have cBX2 : v2.cell? ⟨gBX, 2, none⟩ = some (.int .u16 p) := by simp [World.cell?, BX.out]
  have cBX3 : v2.cell? ⟨gBX, 3, none⟩ = some (.int .u32 b) := by simp [World.cell?, BX.out]
  have cBX4 : v2.cell? ⟨gBX, 4, none⟩ = some (.int .u16 q) := by simp [World.cell?, BX.out]
  have cBX5 : v2.cell? ⟨gBX, 5, none⟩ = some (.int .u8 r2) := by simp [World.cell?, BX.out]
  have cBX6 : v2.cell? ⟨gBX, 6, none⟩ = some (.int .u32 a2) := by simp [World.cell?, BX.out]
  have cBX7 : v2.cell? ⟨gBX, 7, none⟩ = some (.int .u16 p2) := by simp [World.cell?, BX.out]
  have cBX8 : v2.cell? ⟨gBX, 8, none⟩ = some (.int .u32 b2) := by simp [World.cell?, BX.out]
  have cBX9 : v2.cell? ⟨gBX, 9, none⟩ = some (.int .u16 q2) := by simp [World.cell?, BX.out]
  have cBX10 : v2.cell? ⟨gBX, 10, none⟩ = some (.int .i64 st) := by simp [World.cell?, BX.out]
  have cBX11 : v2.cell? ⟨gBX, 11, none⟩ = some (.int .i64 dl) := by simp [World.cell?, BX.out]
  have cBX12 : v2.cell? ⟨gBX, 12, none⟩ = some (.slice ad n c) := by simp [World.cell?, BX.out]
  have lBX : gBX < v2.heap.size := cell_lt cBX0
  go_wp2_with fail
  clear cBX0 cBX1 cBX2 cBX3 cBX4 cBX5 cBX6 cBX7 cBX8 cBX9 cBX10 cBX11 cBX12 lBX
  have hq : NoW v2 (v2.alloc (.cells #[.int .u8 r, .int .u32 a, .int .u16 p, .int .u32 b, .int .u16 q, .int .u8 r2, .int .u32 a2, .int .u16 p2, .int .u32 b2, .int .u16 q2, .int .i64 st, .int .i64 dl, .slice o6 n c6] 31)) := (Fp.refl _ _).alloc _
  have Hq0 := Lib.hid (Hm2.out.trans hq (fun _ _ h => h))
  have hb := (hq.block _ (Array.getElem?_eq_some_iff.1 BX.out).1 id).trans BX.out
  clear BX
  have BX := Lib.hid hb
  clear hb
  have hb := (hq.block _ (Array.getElem?_eq_some_iff.1 BL.out).1 id).trans BL.out
  clear BL
  have BL := Lib.hid hb
  clear hb
  have hb := Hin6.out.low hq
  clear Hin6
  have Hin6 := Lib.hid hb
  clear hb
  have hb : (v2.alloc (.cells #[.int .u8 r, .int .u32 a, .int .u16 p, .int .u32 b, .int .u16 q, .int .u8 r2, .int .u32 a2, .int .u16 p2, .int .u32 b2, .int .u16 q2, .int .i64 st, .int .i64 dl, .slice o6 n c6] 31)).heap[v2.heap.size]? = some (.cells #[.int .u8 r, .int .u32 a, .int .u16 p, .int .u32 b, .int .u16 q, .int .u8 r2, .int .u32 a2, .int .u16 p2, .int .u32 b2, .int .u16 q2, .int .i64 st, .int .i64 dl, .slice o6 n c6] 31) := by simpa using heap_alloc_new v2 (.cells #[.int .u8 r, .int .u32 a, .int .u16 p, .int .u32 b, .int .u16 q, .int .u8 r2, .int .u32 a2, .int .u16 p2, .int .u32 b2, .int .u16 q2, .int .i64 st, .int .i64 dl, .slice o6 n c6] 31)
  have B6 := Lib.hid hb
  clear hb hq Hm2
  generalize (v2.alloc (.cells #[.int .u8 r, .int .u32 a, .int .u16 p, .int .u32 b, .int .u16 q, .int .u8 r2, .int .u32 a2, .int .u16 p2, .int .u32 b2, .int .u16 q2, .int .i64 st, .int .i64 dl, .slice o6 n c6] 31)) = x0 at *
  generalize v2.heap.size = gB6 at *
  refine (Kck.out _ (Ht.out.low Hq0.out)).mono ?_
  rintro e v3 ⟨rfl, hp⟩
  have Hm3 := Lib.hid (Hq0.out.trans hp (fun _ _ h => h))
  have hb := (hp.block _ (Array.getElem?_eq_some_iff.1 BX.out).1 id).trans BX.out
  clear BX
  have BX := Lib.hid hb
  clear hb
  have hb := (hp.block _ (Array.getElem?_eq_some_iff.1 BL.out).1 id).trans BL.out
  clear BL
  have BL := Lib.hid hb
  clear hb
  have hb := (hp.block _ (Array.getElem?_eq_some_iff.1 B6.out).1 id).trans B6.out
  clear B6
  have B6 := Lib.hid hb
  clear hb
  have hb := Hin6.out.low hp
  clear Hin6
  have Hin6 := Lib.hid hb
  clear hb
  clear hp Hq0
  go_wp2_with fail
  refine (Kps.out _ (Ht.out.low Hm3.out)).mono ?_
  rintro e v4 ⟨o8, c8, rfl, hin, hp⟩
  have Hm4 := Lib.hid (Hm3.out.trans hp (fun _ _ h => h))
  have hb := (hp.block _ (Array.getElem?_eq_some_iff.1 BX.out).1 id).trans BX.out
  clear BX
  have BX := Lib.hid hb
  clear hb
  have hb := (hp.block _ (Array.getElem?_eq_some_iff.1 BL.out).1 id).trans BL.out
  clear BL
  have BL := Lib.hid hb
  clear hb
  have hb := (hp.block _ (Array.getElem?_eq_some_iff.1 B6.out).1 id).trans B6.out
  clear B6
  have B6 := Lib.hid hb
  clear hb
  have hb := Hin6.out.low hp
  clear Hin6
  have Hin6 := Lib.hid hb
  clear hb
  have Hin8 := Lib.hid hin
  clear hin
  clear hp Hm3
  have cBX0 : v4.cell? ⟨gBX, 0, none⟩ = some (.int .u8 r) := by simp [World.cell?, BX.out]
  have cBX1 : v4.cell? ⟨gBX, 1, none⟩ = some (.int .u32 a) := by simp [World.cell?, BX.out]
  have cBX2 : v4.cell? ⟨gBX, 2, none⟩ = some (.int .u16 p) := by simp [World.cell?, BX.out]
  have cBX3 : v4.cell? ⟨gBX, 3, none⟩ = some (.int .u32 b) := by simp [World.cell?, BX.out]
  have cBX4 : v4.cell? ⟨gBX, 4, none⟩ = some (.int .u16 q) := by simp [World.cell?, BX.out]
  have cBX5 : v4.cell? ⟨gBX, 5, none⟩ = some (.int .u8 r2) := by simp [World.cell?, BX.out]
  have cBX6 : v4.cell? ⟨gBX, 6, none⟩ = some (.int .u32 a2) := by simp [World.cell?, BX.out]
  have cBX7 : v4.cell? ⟨gBX, 7, none⟩ = some (.int .u16 p2) := by simp [World.cell?, BX.out]
  have cBX8 : v4.cell? ⟨gBX, 8, none⟩ = some (.int .u32 b2) := by simp [World.cell?, BX.out]
  have cBX9 : v4.cell? ⟨gBX, 9, none⟩ = some (.int .u16 q2) := by simp [World.cell?, BX.out]
  have cBX10 : v4.cell? ⟨gBX, 10, none⟩ = some (.int .i64 st) := by simp [World.cell?, BX.out]
  have cBX11 : v4.cell? ⟨gBX, 11, none⟩ = some (.int .i64 dl) := by simp [World.cell?, BX.out]
  have cBX12 : v4.cell? ⟨gBX, 12, none⟩ = some (.slice ad n c) := by simp [World.cell?, BX.out]
  have lBX : gBX < v4.heap.size := cell_lt cBX0
  have cB60 : v4.cell? ⟨gB6, 0, none⟩ = some (.int .u8 r) := by simp [World.cell?, B6.out]
  have cB61 : v4.cell? ⟨gB6, 1, none⟩ = some (.int .u32 a) := by simp [World.cell?, B6.out]
  have cB62 : v4.cell? ⟨gB6, 2, none⟩ = some (.int .u16 p) := by simp [World.cell?, B6.out]
  have cB63 : v4.cell? ⟨gB6, 3, none⟩ = some (.int .u32 b) := by simp [World.cell?, B6.out]
  have cB64 : v4.cell? ⟨gB6, 4, none⟩ = some (.int .u16 q) := by simp [World.cell?, B6.out]
  have cB65 : v4.cell? ⟨gB6, 5, none⟩ = some (.int .u8 r2) := by simp [World.cell?, B6.out]
  have cB66 : v4.cell? ⟨gB6, 6, none⟩ = some (.int .u32 a2) := by simp [World.cell?, B6.out]
  have cB67 : v4.cell? ⟨gB6, 7, none⟩ = some (.int .u16 p2) := by simp [World.cell?, B6.out]
  have cB68 : v4.cell? ⟨gB6, 8, none⟩ = some (.int .u32 b2) := by simp [World.cell?, B6.out]
  have cB69 : v4.cell? ⟨gB6, 9, none⟩ = some (.int .u16 q2) := by simp [World.cell?, B6.out]
  have cB610 : v4.cell? ⟨gB6, 10, none⟩ = some (.int .i64 st) := by simp [World.cell?, B6.out]
  have cB611 : v4.cell? ⟨gB6, 11, none⟩ = some (.int .i64 dl) := by simp [World.cell?, B6.out]
  have cB612 : v4.cell? ⟨gB6, 12, none⟩ = some (.slice o6 n c6) := by simp [World.cell?, B6.out]
  have lB6 : gB6 < v4.heap.size := cell_lt cB60
  go_wp2_with fail
  clear cBX0 cBX1 cBX2 cBX3 cBX4 cBX5 cBX6 cBX7 cBX8 cBX9 cBX10 cBX11 cBX12 lBX cB60 cB61 cB62 cB63 cB64 cB65 cB66 cB67 cB68 cB69 cB610 cB611 cB612 lB6
  have hq : NoW v4 (v4.alloc (.cells #[.int .u8 r5, .int .u32 a5, .int .u16 p5, .int .u32 b5, .int .u16 q5, .int .u8 r6, .int .u32 a6, .int .u16 p6, .int .u32 b6, .int .u16 q6, .int .i64 zst, .int .i64 zdl, .slice o8 zn c8] 31)) := (Fp.refl _ _).alloc _
  have Hq1 := Lib.hid (Hm4.out.trans hq (fun _ _ h => h))
  have hb := (hq.block _ (Array.getElem?_eq_some_iff.1 BX.out).1 id).trans BX.out
  clear BX
  have BX := Lib.hid hb
  clear hb
  have hb := (hq.block _ (Array.getElem?_eq_some_iff.1 BL.out).1 id).trans BL.out
  clear BL
  have BL := Lib.hid hb
  clear hb
  have hb := (hq.block _ (Array.getElem?_eq_some_iff.1 B6.out).1 id).trans B6.out
  clear B6
  have B6 := Lib.hid hb
  clear hb
  have hb := Hin6.out.low hq
  clear Hin6
  have Hin6 := Lib.hid hb
  clear hb
  have hb := Hin8.out.low hq
  clear Hin8
  have Hin8 := Lib.hid hb
  clear hb
  have hb : (v4.alloc (.cells #[.int .u8 r5, .int .u32 a5, .int .u16 p5, .int .u32 b5, .int .u16 q5, .int .u8 r6, .int .u32 a6, .int .u16 p6, .int .u32 b6, .int .u16 q6, .int .i64 zst, .int .i64 zdl, .slice o8 zn c8] 31)).heap[v4.heap.size]? = some (.cells #[.int .u8 r5, .int .u32 a5, .int .u16 p5, .int .u32 b5, .int .u16 q5, .int .u8 r6, .int .u32 a6, .int .u16 p6, .int .u32 b6, .int .u16 q6, .int .i64 zst, .int .i64 zdl, .slice o8 zn c8] 31) := by simpa using heap_alloc_new v4 (.cells #[.int .u8 r5, .int .u32 a5, .int .u16 p5, .int .u32 b5, .int .u16 q5, .int .u8 r6, .int .u32 a6, .int .u16 p6, .int .u32 b6, .int .u16 q6, .int .i64 zst, .int .i64 zdl, .slice o8 zn c8] 31)
  have B8 := Lib.hid hb
  clear hb hq Hm4
  generalize (v4.alloc (.cells #[.int .u8 r5, .int .u32 a5, .int .u16 p5, .int .u32 b5, .int .u16 q5, .int .u8 r6, .int .u32 a6, .int .u16 p6, .int .u32 b6, .int .u16 q6, .int .i64 zst, .int .i64 zdl, .slice o8 zn c8] 31)) = x1 at *
  generalize v4.heap.size = gB8 at *
  refine (Ksm.out _ o6 c6 Hq1.out Hin6.out).mono ?_
  rintro e v5 ⟨rfl, hp⟩
  have Hm5 := Lib.hid (Hq1.out.trans hp (fun _ _ h => h))
  have hb := (hp.block _ (Array.getElem?_eq_some_iff.1 BX.out).1 id).trans BX.out
  clear BX
  have BX := Lib.hid hb
  clear hb
  have hb := (hp.block _ (Array.getElem?_eq_some_iff.1 BL.out).1 id).trans BL.out
  clear BL
  have BL := Lib.hid hb
  clear hb
  have hb := (hp.block _ (Array.getElem?_eq_some_iff.1 B6.out).1 id).trans B6.out
  clear B6
  have B6 := Lib.hid hb
  clear hb
  have hb := (hp.block _ (Array.getElem?_eq_some_iff.1 B8.out).1 id).trans B8.out
  clear B8
  have B8 := Lib.hid hb
  clear hb
  have hb := Hin6.out.low hp
  clear Hin6
  have Hin6 := Lib.hid hb
  clear hb
  have hb := Hin8.out.low hp
  clear Hin8
  have Hin8 := Lib.hid hb
  clear hb
  clear hp Hq1
  have cB80 : v5.cell? ⟨gB8, 0, none⟩ = some (.int .u8 r5) := by simp [World.cell?, B8.out]
  have cB81 : v5.cell? ⟨gB8, 1, none⟩ = some (.int .u32 a5) := by simp [World.cell?, B8.out]
  have cB82 : v5.cell? ⟨gB8, 2, none⟩ = some (.int .u16 p5) := by simp [World.cell?, B8.out]
  have cB83 : v5.cell? ⟨gB8, 3, none⟩ = some (.int .u32 b5) := by simp [World.cell?, B8.out]
  have cB84 : v5.cell? ⟨gB8, 4, none⟩ = some (.int .u16 q5) := by simp [World.cell?, B8.out]
  have cB85 : v5.cell? ⟨gB8, 5, none⟩ = some (.int .u8 r6) := by simp [World.cell?, B8.out]
  have cB86 : v5.cell? ⟨gB8, 6, none⟩ = some (.int .u32 a6) := by simp [World.cell?, B8.out]
  have cB87 : v5.cell? ⟨gB8, 7, none⟩ = some (.int .u16 p6) := by simp [World.cell?, B8.out]
  have cB88 : v5.cell? ⟨gB8, 8, none⟩ = some (.int .u32 b6) := by simp [World.cell?, B8.out]
  have cB89 : v5.cell? ⟨gB8, 9, none⟩ = some (.int .u16 q6) := by simp [World.cell?, B8.out]
  have cB810 : v5.cell? ⟨gB8, 10, none⟩ = some (.int .i64 zst) := by simp [World.cell?, B8.out]
  have cB811 : v5.cell? ⟨gB8, 11, none⟩ = some (.int .i64 zdl) := by simp [World.cell?, B8.out]
  have cB812 : v5.cell? ⟨gB8, 12, none⟩ = some (.slice o8 zn c8) := by simp [World.cell?, B8.out]
  have lB8 : gB8 < v5.heap.size := cell_lt cB80
  go_wp2_with fail
  clear cB80 cB81 cB82 cB83 cB84 cB85 cB86 cB87 cB88 cB89 cB810 cB811 cB812 lB8
  refine (Ktz.out _ o8 c8 (Ht.out.low Hm5.out) Hin8.out).mono ?_
  rintro e v6 ⟨rfl, hp⟩
  have Hm6 := Lib.hid (Hm5.out.trans hp (fun _ _ h => h))
  have hb := (hp.block _ (Array.getElem?_eq_some_iff.1 BX.out).1 id).trans BX.out
  clear BX
  have BX := Lib.hid hb
  clear hb
  have hb := (hp.block _ (Array.getElem?_eq_some_iff.1 BL.out).1 id).trans BL.out
  clear BL
  have BL := Lib.hid hb
  clear hb
  have hb := (hp.block _ (Array.getElem?_eq_some_iff.1 B6.out).1 id).trans B6.out
  clear B6
  have B6 := Lib.hid hb
  clear hb
  have hb := (hp.block _ (Array.getElem?_eq_some_iff.1 B8.out).1 id).trans B8.out
  clear B8
  have B8 := Lib.hid hb
  clear hb
  have hb := Hin6.out.low hp
  clear Hin6
  have Hin6 := Lib.hid hb
  clear hb
  have hb := Hin8.out.low hp
  clear Hin8
  have Hin8 := Lib.hid hb
  clear hb
  clear hp Hm5
  have cB80 : v6.cell? ⟨gB8, 0, none⟩ = some (.int .u8 r5) := by simp [World.cell?, B8.out]
  have cB81 : v6.cell? ⟨gB8, 1, none⟩ = some (.int .u32 a5) := by simp [World.cell?, B8.out]
  have cB82 : v6.cell? ⟨gB8, 2, none⟩ = some (.int .u16 p5) := by simp [World.cell?, B8.out]
  have cB83 : v6.cell? ⟨gB8, 3, none⟩ = some (.int .u32 b5) := by simp [World.cell?, B8.out]
  have cB84 : v6.cell? ⟨gB8, 4, none⟩ = some (.int .u16 q5) := by simp [World.cell?, B8.out]
  have cB85 : v6.cell? ⟨gB8, 5, none⟩ = some (.int .u8 r6) := by simp [World.cell?, B8.out]
  have cB86 : v6.cell? ⟨gB8, 6, none⟩ = some (.int .u32 a6) := by simp [World.cell?, B8.out]
  have cB87 : v6.cell? ⟨gB8, 7, none⟩ = some (.int .u16 p6) := by simp [World.cell?, B8.out]
  have cB88 : v6.cell? ⟨gB8, 8, none⟩ = some (.int .u32 b6) := by simp [World.cell?, B8.out]
  have cB89 : v6.cell? ⟨gB8, 9, none⟩ = some (.int .u16 q6) := by simp [World.cell?, B8.out]
  have cB810 : v6.cell? ⟨gB8, 10, none⟩ = some (.int .i64 zst) := by simp [World.cell?, B8.out]
  have cB811 : v6.cell? ⟨gB8, 11, none⟩ = some (.int .i64 zdl) := by simp [World.cell?, B8.out]
  have cB812 : v6.cell? ⟨gB8, 12, none⟩ = some (.slice o8 zn c8) := by simp [World.cell?, B8.out]
  have lB8 : gB8 < v6.heap.size := cell_lt cB80
  go_wp2_with fail
  clear cB80 cB81 cB82 cB83 cB84 cB85 cB86 cB87 cB88 cB89 cB810 cB811 cB812 lB8
  refine (Kcz.out _ o8 c8 (Ht.out.low Hm6.out)).mono ?_
  rintro e v7 ⟨rfl, hp⟩
  have Hm7 := Lib.hid (Hm6.out.trans hp (fun _ _ h => h))
  have hb := (hp.block _ (Array.getElem?_eq_some_iff.1 BX.out).1 id).trans BX.out
  clear BX
  have BX := Lib.hid hb
  clear hb
  have hb := (hp.block _ (Array.getElem?_eq_some_iff.1 BL.out).1 id).trans BL.out
  clear BL
  have BL := Lib.hid hb
  clear hb
  have hb := (hp.block _ (Array.getElem?_eq_some_iff.1 B6.out).1 id).trans B6.out
  clear B6
  have B6 := Lib.hid hb
  clear hb
  have hb := (hp.block _ (Array.getElem?_eq_some_iff.1 B8.out).1 id).trans B8.out
  clear B8
  have B8 := Lib.hid hb
  clear hb
  have hb := Hin6.out.low hp
  clear Hin6
  have Hin6 := Lib.hid hb
  clear hb
  have hb := Hin8.out.low hp
  clear Hin8
  have Hin8 := Lib.hid hb
  clear hb
  clear hp Hm6
  go_wp2_with fail
  refine (Kp.out _ (Ht.out.low Hm7.out)).mono ?_
  rintro e v8 ⟨rfl, hp⟩
  have Hm8 := Lib.hid (Hm7.out.trans hp (fun _ _ h => h))
  have hb := (hp.block _ (Array.getElem?_eq_some_iff.1 BX.out).1 id).trans BX.out
  clear BX
  have BX := Lib.hid hb
  clear hb
  have hb := (hp.block _ (Array.getElem?_eq_some_iff.1 BL.out).1 id).trans BL.out
  clear BL
  have BL := Lib.hid hb
  clear hb
  have hb := (hp.block _ (Array.getElem?_eq_some_iff.1 B6.out).1 id).trans B6.out
  clear B6
  have B6 := Lib.hid hb
  clear hb
  have hb := (hp.block _ (Array.getElem?_eq_some_iff.1 B8.out).1 id).trans B8.out
  clear B8
  have B8 := Lib.hid hb
  clear hb
  have hb := Hin6.out.low hp
  clear Hin6
  have Hin6 := Lib.hid hb
  clear hb
  have hb := Hin8.out.low hp
  clear Hin8
  have Hin8 := Lib.hid hb
  clear hb
  clear hp Hm7
  go_wp2_with fail
  go_ret
  exact ⟨rfl, Hm8.out⟩
end Go.Proofs.YtdmbjndhdldggaaDoor

namespace Go.Proofs.YtdmbjndhdldggaaDoor
set_option linter.unusedVariables false
set_option linter.unusedSimpArgs false
open Go.RowKit Go.Lib Go.Sort

set_option maxHeartbeats 8000000 in
set_option maxRecDepth 100000 in
theorem parse_bar1 (l : List UInt8) (hl : l.length ≤ 4000000) (p0 p1 p2 p3 p4 p5 p6 p7 p8 h0 : List UInt8) (hps : pieces 32 l = [p0, p1, p2, p3, p4, p5, p6, p7, p8, h0]) (hb : p3 ≠ [124]) (w : World) (ht : TbQ w) :
    Calls Tryd.prog 38 #[str l] w (fun e w' => NoW w w' ∧ ((e = .returned (.tuple #[.agg #[.int .u8 0, .int .u32 0, .int .u16 0, .int .u32 0, .int .u16 0, .int .u8 0, .int .u32 0, .int .u16 0, .int .u32 0, .int .u16 0, .int .i64 0, .int .i64 0, .slice none 0 0], .int .i64 3]) ∧ NP l) ∨ ∃ (r a p b q r2 a2 p2 b2 q2 st dl n : Nat) (oa op ia ip : Nat → Nat) (o : Option Addr) (c : Nat), e = .returned (.tuple #[.agg #[.int .u8 r, .int .u32 a, .int .u16 p, .int .u32 b, .int .u16 q, .int .u8 r2, .int .u32 a2, .int .u16 p2, .int .u32 b2, .int .u16 q2, .int .i64 (st : Nat), .int .i64 (dl : Nat), .slice o n c], .int .i64 0]) ∧ Parsed l r a p b q r2 a2 p2 b2 q2 st dl n oa op ia ip ∧ n ≤ c ∧ HoldsIn w' o n (holdsV oa op ia ip n))) := by
  obtain ⟨mm, hmx0⟩ := ht.toP.mx
  have hsz : (⟨l.toArray⟩ : ByteArray).size = l.length := by simp [ByteArray.size]
  have Ht := Lib.hid ht
  have hcnt := count_list 32 l
  have hsplit := split_list 32 l
  rw [hps] at hcnt hsplit
  have Hps := Lib.hid hps
  have hwz : NoW w (w.alloc (.cells #[.int .u8 0, .int .u32 0, .int .u16 0, .int .u32 0, .int .u16 0, .int .u8 0, .int .u32 0, .int .u16 0, .int .u32 0, .int .u16 0, .int .i64 0, .int .i64 0, .slice none 0 0] 31)) := (Fp.refl _ _).alloc _
  have hmx := (hwz.cell (cell_lt hmx0) id).trans hmx0
  clear ht hps
  go_enter Tryd.func38, Tryd.ntmps38
  go_wp2_with fail
  have hbR := heap_alloc_new w (.cells #[.int .u8 0, .int .u32 0, .int .u16 0, .int .u32 0, .int .u16 0, .int .u8 0, .int .u32 0, .int .u16 0, .int .u32 0, .int .u16 0, .int .i64 0, .int .i64 0, .slice none 0 0] 31)
  generalize w.alloc (.cells #[.int .u8 0, .int .u32 0, .int .u16 0, .int .u32 0, .int .u16 0, .int .u8 0, .int .u32 0, .int .u16 0, .int .u32 0, .int .u16 0, .int .i64 0, .int .i64 0, .slice none 0 0] 31) = w0 at *
  obtain ⟨gR, hgR⟩ : ∃ gR, gR = w.heap.size := ⟨_, rfl⟩
  rw [← hgR] at hbR ⊢
  have HgR := Lib.hid (show w.heap.size ≤ gR by omega)
  clear hgR
  refine (Tryd.strings_Split ⟨l.toArray⟩ ⟨#[32]⟩ mm w0 (by rw [hsz]; omega) hmx (by decide)).mono ?_
  rintro e w1 ⟨rfl, rfl⟩
  rw [hcnt, hsplit]
  have hq1 : NoW w0 (w0.alloc (.cells (([p0, p1, p2, p3, p4, p5, p6, p7, p8, h0].map (fun p => (⟨p.toArray⟩ : ByteArray))).map Value.string).toArray 9)) := (Fp.refl _ _).alloc _
  have hbR1 := (hq1.block _ (Array.getElem?_eq_some_iff.1 hbR).1 id).trans hbR
  have hbP : (w0.alloc (.cells (([p0, p1, p2, p3, p4, p5, p6, p7, p8, h0].map (fun p => (⟨p.toArray⟩ : ByteArray))).map Value.string).toArray 9)).heap[w0.heap.size]? = some (.cells #[str p0, str p1, str p2, str p3, str p4, str p5, str p6, str p7, str p8, str h0] 9) := by simpa using heap_alloc_new w0 (.cells (([p0, p1, p2, p3, p4, p5, p6, p7, p8, h0].map (fun p => (⟨p.toArray⟩ : ByteArray))).map Value.string).toArray 9)
  have hn1 := hwz.trans hq1 (fun _ _ h => h)
  generalize w0.alloc (.cells (([p0, p1, p2, p3, p4, p5, p6, p7, p8, h0].map (fun p => (⟨p.toArray⟩ : ByteArray))).map Value.string).toArray 9) = w1 at *
  generalize w0.heap.size = gP at *
  have BR := Lib.hid hbR1
  have BP := Lib.hid hbP
  have Hn1 := Lib.hid hn1
  have np : NP l := np_bar Hps.out hb
  have hb1 : (p3 == [124]) = false := beq_eq_false_iff_ne.2 hb
  have hb2 : (p3 != [124]) = true := by simpa using hb
  clear hb
  have x3 : w1.cell? ⟨gP, 3, none⟩ = some (str p3) := by simp [World.cell?, BP.out]
  clear hq1 hbR hbR1 hn1 hwz hmx hmx0 hcnt hsplit hsz hbP
  have y0 : w1.cell? ⟨gR, 0, none⟩ = some (.int .u8 0) := by simp [World.cell?, BR.out]
  have zy0 : w1.frozen? ⟨gR, 0, none⟩ = false := by simp [World.frozen?, BR.out]
  have y1 : w1.cell? ⟨gR, 1, none⟩ = some (.int .u32 0) := by simp [World.cell?, BR.out]
  have zy1 : w1.frozen? ⟨gR, 1, none⟩ = false := by simp [World.frozen?, BR.out]
  have y2 : w1.cell? ⟨gR, 2, none⟩ = some (.int .u16 0) := by simp [World.cell?, BR.out]
  have zy2 : w1.frozen? ⟨gR, 2, none⟩ = false := by simp [World.frozen?, BR.out]
  have y3 : w1.cell? ⟨gR, 3, none⟩ = some (.int .u32 0) := by simp [World.cell?, BR.out]
  have zy3 : w1.frozen? ⟨gR, 3, none⟩ = false := by simp [World.frozen?, BR.out]
  have y4 : w1.cell? ⟨gR, 4, none⟩ = some (.int .u16 0) := by simp [World.cell?, BR.out]
  have zy4 : w1.frozen? ⟨gR, 4, none⟩ = false := by simp [World.frozen?, BR.out]
  have y5 : w1.cell? ⟨gR, 5, none⟩ = some (.int .u8 0) := by simp [World.cell?, BR.out]
  have zy5 : w1.frozen? ⟨gR, 5, none⟩ = false := by simp [World.frozen?, BR.out]
  have y6 : w1.cell? ⟨gR, 6, none⟩ = some (.int .u32 0) := by simp [World.cell?, BR.out]
  have zy6 : w1.frozen? ⟨gR, 6, none⟩ = false := by simp [World.frozen?, BR.out]
  have y7 : w1.cell? ⟨gR, 7, none⟩ = some (.int .u16 0) := by simp [World.cell?, BR.out]
  have zy7 : w1.frozen? ⟨gR, 7, none⟩ = false := by simp [World.frozen?, BR.out]
  have y8 : w1.cell? ⟨gR, 8, none⟩ = some (.int .u32 0) := by simp [World.cell?, BR.out]
  have zy8 : w1.frozen? ⟨gR, 8, none⟩ = false := by simp [World.frozen?, BR.out]
  have y9 : w1.cell? ⟨gR, 9, none⟩ = some (.int .u16 0) := by simp [World.cell?, BR.out]
  have zy9 : w1.frozen? ⟨gR, 9, none⟩ = false := by simp [World.frozen?, BR.out]
  have y10 : w1.cell? ⟨gR, 10, none⟩ = some (.int .i64 0) := by simp [World.cell?, BR.out]
  have zy10 : w1.frozen? ⟨gR, 10, none⟩ = false := by simp [World.frozen?, BR.out]
  have y11 : w1.cell? ⟨gR, 11, none⟩ = some (.int .i64 0) := by simp [World.cell?, BR.out]
  have zy11 : w1.frozen? ⟨gR, 11, none⟩ = false := by simp [World.frozen?, BR.out]
  have y12 : w1.cell? ⟨gR, 12, none⟩ = some (.slice none 0 0) := by simp [World.cell?, BR.out]
  have zy12 : w1.frozen? ⟨gR, 12, none⟩ = false := by simp [World.frozen?, BR.out]
  go_wp2_with fail
  obtain ⟨W, hW, hb2, hf2⟩ := set13 w1 gR 31 (.int .u8 0) (.int .u32 0) (.int .u16 0) (.int .u32 0) (.int .u16 0) (.int .u8 0) (.int .u32 0) (.int .u16 0) (.int .u32 0) (.int .u16 0) (.int .i64 0) (.int .i64 0) (.slice none 0 0) BR.out (.int .u8 0) (.int .u32 0) (.int .u16 0) (.int .u32 0) (.int .u16 0) (.int .u8 0) (.int .u32 0) (.int .u16 0) (.int .u32 0) (.int .u16 0) (.int .i64 0) (.int .i64 0) (.slice none 0 0)
  rw [← hW]
  clear hW y0 zy0 y1 zy1 y2 zy2 y3 zy3 y4 zy4 y5 zy5 y6 zy6 y7 zy7 y8 zy8 y9 zy9 y10 zy10 y11 zy11 y12 zy12
  have y0 : W.cell? ⟨gR, 0, none⟩ = some (.int .u8 0) := by simp [World.cell?, hb2]
  have y1 : W.cell? ⟨gR, 1, none⟩ = some (.int .u32 0) := by simp [World.cell?, hb2]
  have y2 : W.cell? ⟨gR, 2, none⟩ = some (.int .u16 0) := by simp [World.cell?, hb2]
  have y3 : W.cell? ⟨gR, 3, none⟩ = some (.int .u32 0) := by simp [World.cell?, hb2]
  have y4 : W.cell? ⟨gR, 4, none⟩ = some (.int .u16 0) := by simp [World.cell?, hb2]
  have y5 : W.cell? ⟨gR, 5, none⟩ = some (.int .u8 0) := by simp [World.cell?, hb2]
  have y6 : W.cell? ⟨gR, 6, none⟩ = some (.int .u32 0) := by simp [World.cell?, hb2]
  have y7 : W.cell? ⟨gR, 7, none⟩ = some (.int .u16 0) := by simp [World.cell?, hb2]
  have y8 : W.cell? ⟨gR, 8, none⟩ = some (.int .u32 0) := by simp [World.cell?, hb2]
  have y9 : W.cell? ⟨gR, 9, none⟩ = some (.int .u16 0) := by simp [World.cell?, hb2]
  have y10 : W.cell? ⟨gR, 10, none⟩ = some (.int .i64 0) := by simp [World.cell?, hb2]
  have y11 : W.cell? ⟨gR, 11, none⟩ = some (.int .i64 0) := by simp [World.cell?, hb2]
  have y12 : W.cell? ⟨gR, 12, none⟩ = some (.slice none 0 0) := by simp [World.cell?, hb2]
  have HF := Lib.hid (Hn1.out.trans hf2 (fun i hi e => by have h1 : i = gR := e; have h2 := HgR.out; omega))
  have HNP := Lib.hid np
  clear hf2 hb2
  refine bodyPost_ret (v := .tuple #[.agg #[.int .u8 0, .int .u32 0, .int .u16 0, .int .u32 0, .int .u16 0, .int .u8 0, .int .u32 0, .int .u16 0, .int .u32 0, .int .u16 0, .int .i64 0, .int .i64 0, .slice none 0 0], .int .i64 3]) (by simp only [results, Tryd.results38]; go_simp) rfl ⟨HF.out, .inl ⟨rfl, HNP.out⟩⟩

set_option maxHeartbeats 8000000 in
set_option maxRecDepth 100000 in
theorem parse_bar2 (l : List UInt8) (hl : l.length ≤ 4000000) (p0 p1 p2 p3 p4 p5 p6 p7 p8 h0 h1 : List UInt8) (hps : pieces 32 l = [p0, p1, p2, p3, p4, p5, p6, p7, p8, h0, h1]) (hb : p3 ≠ [124]) (w : World) (ht : TbQ w) :
    Calls Tryd.prog 38 #[str l] w (fun e w' => NoW w w' ∧ ((e = .returned (.tuple #[.agg #[.int .u8 0, .int .u32 0, .int .u16 0, .int .u32 0, .int .u16 0, .int .u8 0, .int .u32 0, .int .u16 0, .int .u32 0, .int .u16 0, .int .i64 0, .int .i64 0, .slice none 0 0], .int .i64 3]) ∧ NP l) ∨ ∃ (r a p b q r2 a2 p2 b2 q2 st dl n : Nat) (oa op ia ip : Nat → Nat) (o : Option Addr) (c : Nat), e = .returned (.tuple #[.agg #[.int .u8 r, .int .u32 a, .int .u16 p, .int .u32 b, .int .u16 q, .int .u8 r2, .int .u32 a2, .int .u16 p2, .int .u32 b2, .int .u16 q2, .int .i64 (st : Nat), .int .i64 (dl : Nat), .slice o n c], .int .i64 0]) ∧ Parsed l r a p b q r2 a2 p2 b2 q2 st dl n oa op ia ip ∧ n ≤ c ∧ HoldsIn w' o n (holdsV oa op ia ip n))) := by
  obtain ⟨mm, hmx0⟩ := ht.toP.mx
  have hsz : (⟨l.toArray⟩ : ByteArray).size = l.length := by simp [ByteArray.size]
  have Ht := Lib.hid ht
  have hcnt := count_list 32 l
  have hsplit := split_list 32 l
  rw [hps] at hcnt hsplit
  have Hps := Lib.hid hps
  have hwz : NoW w (w.alloc (.cells #[.int .u8 0, .int .u32 0, .int .u16 0, .int .u32 0, .int .u16 0, .int .u8 0, .int .u32 0, .int .u16 0, .int .u32 0, .int .u16 0, .int .i64 0, .int .i64 0, .slice none 0 0] 31)) := (Fp.refl _ _).alloc _
  have hmx := (hwz.cell (cell_lt hmx0) id).trans hmx0
  clear ht hps
  go_enter Tryd.func38, Tryd.ntmps38
  go_wp2_with fail
  have hbR := heap_alloc_new w (.cells #[.int .u8 0, .int .u32 0, .int .u16 0, .int .u32 0, .int .u16 0, .int .u8 0, .int .u32 0, .int .u16 0, .int .u32 0, .int .u16 0, .int .i64 0, .int .i64 0, .slice none 0 0] 31)
  generalize w.alloc (.cells #[.int .u8 0, .int .u32 0, .int .u16 0, .int .u32 0, .int .u16 0, .int .u8 0, .int .u32 0, .int .u16 0, .int .u32 0, .int .u16 0, .int .i64 0, .int .i64 0, .slice none 0 0] 31) = w0 at *
  obtain ⟨gR, hgR⟩ : ∃ gR, gR = w.heap.size := ⟨_, rfl⟩
  rw [← hgR] at hbR ⊢
  have HgR := Lib.hid (show w.heap.size ≤ gR by omega)
  clear hgR
  refine (Tryd.strings_Split ⟨l.toArray⟩ ⟨#[32]⟩ mm w0 (by rw [hsz]; omega) hmx (by decide)).mono ?_
  rintro e w1 ⟨rfl, rfl⟩
  rw [hcnt, hsplit]
  have hq1 : NoW w0 (w0.alloc (.cells (([p0, p1, p2, p3, p4, p5, p6, p7, p8, h0, h1].map (fun p => (⟨p.toArray⟩ : ByteArray))).map Value.string).toArray 9)) := (Fp.refl _ _).alloc _
  have hbR1 := (hq1.block _ (Array.getElem?_eq_some_iff.1 hbR).1 id).trans hbR
  have hbP : (w0.alloc (.cells (([p0, p1, p2, p3, p4, p5, p6, p7, p8, h0, h1].map (fun p => (⟨p.toArray⟩ : ByteArray))).map Value.string).toArray 9)).heap[w0.heap.size]? = some (.cells #[str p0, str p1, str p2, str p3, str p4, str p5, str p6, str p7, str p8, str h0, str h1] 9) := by simpa using heap_alloc_new w0 (.cells (([p0, p1, p2, p3, p4, p5, p6, p7, p8, h0, h1].map (fun p => (⟨p.toArray⟩ : ByteArray))).map Value.string).toArray 9)
  have hn1 := hwz.trans hq1 (fun _ _ h => h)
  generalize w0.alloc (.cells (([p0, p1, p2, p3, p4, p5, p6, p7, p8, h0, h1].map (fun p => (⟨p.toArray⟩ : ByteArray))).map Value.string).toArray 9) = w1 at *
  generalize w0.heap.size = gP at *
  have BR := Lib.hid hbR1
  have BP := Lib.hid hbP
  have Hn1 := Lib.hid hn1
  have np : NP l := np_bar Hps.out hb
  have hb1 : (p3 == [124]) = false := beq_eq_false_iff_ne.2 hb
  have hb2 : (p3 != [124]) = true := by simpa using hb
  clear hb
  have x3 : w1.cell? ⟨gP, 3, none⟩ = some (str p3) := by simp [World.cell?, BP.out]
  clear hq1 hbR hbR1 hn1 hwz hmx hmx0 hcnt hsplit hsz hbP
  have y0 : w1.cell? ⟨gR, 0, none⟩ = some (.int .u8 0) := by simp [World.cell?, BR.out]
  have zy0 : w1.frozen? ⟨gR, 0, none⟩ = false := by simp [World.frozen?, BR.out]
  have y1 : w1.cell? ⟨gR, 1, none⟩ = some (.int .u32 0) := by simp [World.cell?, BR.out]
  have zy1 : w1.frozen? ⟨gR, 1, none⟩ = false := by simp [World.frozen?, BR.out]
  have y2 : w1.cell? ⟨gR, 2, none⟩ = some (.int .u16 0) := by simp [World.cell?, BR.out]
  have zy2 : w1.frozen? ⟨gR, 2, none⟩ = false := by simp [World.frozen?, BR.out]
  have y3 : w1.cell? ⟨gR, 3, none⟩ = some (.int .u32 0) := by simp [World.cell?, BR.out]
  have zy3 : w1.frozen? ⟨gR, 3, none⟩ = false := by simp [World.frozen?, BR.out]
  have y4 : w1.cell? ⟨gR, 4, none⟩ = some (.int .u16 0) := by simp [World.cell?, BR.out]
  have zy4 : w1.frozen? ⟨gR, 4, none⟩ = false := by simp [World.frozen?, BR.out]
  have y5 : w1.cell? ⟨gR, 5, none⟩ = some (.int .u8 0) := by simp [World.cell?, BR.out]
  have zy5 : w1.frozen? ⟨gR, 5, none⟩ = false := by simp [World.frozen?, BR.out]
  have y6 : w1.cell? ⟨gR, 6, none⟩ = some (.int .u32 0) := by simp [World.cell?, BR.out]
  have zy6 : w1.frozen? ⟨gR, 6, none⟩ = false := by simp [World.frozen?, BR.out]
  have y7 : w1.cell? ⟨gR, 7, none⟩ = some (.int .u16 0) := by simp [World.cell?, BR.out]
  have zy7 : w1.frozen? ⟨gR, 7, none⟩ = false := by simp [World.frozen?, BR.out]
  have y8 : w1.cell? ⟨gR, 8, none⟩ = some (.int .u32 0) := by simp [World.cell?, BR.out]
  have zy8 : w1.frozen? ⟨gR, 8, none⟩ = false := by simp [World.frozen?, BR.out]
  have y9 : w1.cell? ⟨gR, 9, none⟩ = some (.int .u16 0) := by simp [World.cell?, BR.out]
  have zy9 : w1.frozen? ⟨gR, 9, none⟩ = false := by simp [World.frozen?, BR.out]
  have y10 : w1.cell? ⟨gR, 10, none⟩ = some (.int .i64 0) := by simp [World.cell?, BR.out]
  have zy10 : w1.frozen? ⟨gR, 10, none⟩ = false := by simp [World.frozen?, BR.out]
  have y11 : w1.cell? ⟨gR, 11, none⟩ = some (.int .i64 0) := by simp [World.cell?, BR.out]
  have zy11 : w1.frozen? ⟨gR, 11, none⟩ = false := by simp [World.frozen?, BR.out]
  have y12 : w1.cell? ⟨gR, 12, none⟩ = some (.slice none 0 0) := by simp [World.cell?, BR.out]
  have zy12 : w1.frozen? ⟨gR, 12, none⟩ = false := by simp [World.frozen?, BR.out]
  go_wp2_with fail
  obtain ⟨W, hW, hb2, hf2⟩ := set13 w1 gR 31 (.int .u8 0) (.int .u32 0) (.int .u16 0) (.int .u32 0) (.int .u16 0) (.int .u8 0) (.int .u32 0) (.int .u16 0) (.int .u32 0) (.int .u16 0) (.int .i64 0) (.int .i64 0) (.slice none 0 0) BR.out (.int .u8 0) (.int .u32 0) (.int .u16 0) (.int .u32 0) (.int .u16 0) (.int .u8 0) (.int .u32 0) (.int .u16 0) (.int .u32 0) (.int .u16 0) (.int .i64 0) (.int .i64 0) (.slice none 0 0)
  rw [← hW]
  clear hW y0 zy0 y1 zy1 y2 zy2 y3 zy3 y4 zy4 y5 zy5 y6 zy6 y7 zy7 y8 zy8 y9 zy9 y10 zy10 y11 zy11 y12 zy12
  have y0 : W.cell? ⟨gR, 0, none⟩ = some (.int .u8 0) := by simp [World.cell?, hb2]
  have y1 : W.cell? ⟨gR, 1, none⟩ = some (.int .u32 0) := by simp [World.cell?, hb2]
  have y2 : W.cell? ⟨gR, 2, none⟩ = some (.int .u16 0) := by simp [World.cell?, hb2]
  have y3 : W.cell? ⟨gR, 3, none⟩ = some (.int .u32 0) := by simp [World.cell?, hb2]
  have y4 : W.cell? ⟨gR, 4, none⟩ = some (.int .u16 0) := by simp [World.cell?, hb2]
  have y5 : W.cell? ⟨gR, 5, none⟩ = some (.int .u8 0) := by simp [World.cell?, hb2]
  have y6 : W.cell? ⟨gR, 6, none⟩ = some (.int .u32 0) := by simp [World.cell?, hb2]
  have y7 : W.cell? ⟨gR, 7, none⟩ = some (.int .u16 0) := by simp [World.cell?, hb2]
  have y8 : W.cell? ⟨gR, 8, none⟩ = some (.int .u32 0) := by simp [World.cell?, hb2]
  have y9 : W.cell? ⟨gR, 9, none⟩ = some (.int .u16 0) := by simp [World.cell?, hb2]
  have y10 : W.cell? ⟨gR, 10, none⟩ = some (.int .i64 0) := by simp [World.cell?, hb2]
  have y11 : W.cell? ⟨gR, 11, none⟩ = some (.int .i64 0) := by simp [World.cell?, hb2]
  have y12 : W.cell? ⟨gR, 12, none⟩ = some (.slice none 0 0) := by simp [World.cell?, hb2]
  have HF := Lib.hid (Hn1.out.trans hf2 (fun i hi e => by have h1 : i = gR := e; have h2 := HgR.out; omega))
  have HNP := Lib.hid np
  clear hf2 hb2
  refine bodyPost_ret (v := .tuple #[.agg #[.int .u8 0, .int .u32 0, .int .u16 0, .int .u32 0, .int .u16 0, .int .u8 0, .int .u32 0, .int .u16 0, .int .u32 0, .int .u16 0, .int .i64 0, .int .i64 0, .slice none 0 0], .int .i64 3]) (by simp only [results, Tryd.results38]; go_simp) rfl ⟨HF.out, .inl ⟨rfl, HNP.out⟩⟩
end Go.Proofs.YtdmbjndhdldggaaDoor
