/- Chapter 18: the law's packets (written by genpass.py). -/
import Derived.Test.YtaiimkcmgiceeaaDoorEnO
namespace Go.Proofs.YtaiimkcmgiceeaaDoor
set_option linter.unusedVariables false
set_option linter.unusedSimpArgs false
open Go.RowKit Go.Lib Go.Sort
def n3 (x y z : Nat) : Fin 3 → Nat := fun j => match j with | 0 => x | 1 => y | 2 => z
def v3 (x y z : Array Value) : Fin 3 → Array Value := fun j => match j with | 0 => x | 1 => y | 2 => z

set_option maxHeartbeats 4000000 in
set_option maxRecDepth 100000 in
theorem passes18 (w : World) (ht : Tb w) : Calls Tryd.prog 5 #[] w (Ret1 (.bool true) w) := by
  have Ht := Lib.hid ht
  clear ht
  go_enter Tryd.func5, Tryd.ntmps5
  go_wp2_with fail
  refine (flow18 w).mono ?_
  rintro e v ⟨b, rfl, hwb, hh, hp⟩
  have l1 := fun W => live_ok 17 167772161 4000 134744072 53 17 134744072 53 151587081 1006 1 120 (.slice (some ⟨b, 0, none⟩) 1 1) 119 W
  have l2 := fun W => live_ok 17 167772161 4000 134744072 53 17 134744072 53 151587081 1006 1 120 (.slice (some ⟨b, 0, none⟩) 1 1) 120 W
  rw [show decide ((119 : Int) < 120) = true by decide] at l1
  rw [show decide ((120 : Int) < 120) = false by decide] at l2
  have L1 := Lib.hid l1
  have L2 := Lib.hid l2
  clear l1 l2
  have hq : NoW v (v.alloc (.cells #[.int .u8 17, .int .u32 167772161, .int .u16 4000, .int .u32 134744072, .int .u16 53, .int .u8 17, .int .u32 134744072, .int .u16 53, .int .u32 151587081, .int .u16 1006, .int .i64 1, .int .i64 120, (.slice (some ⟨b, 0, none⟩) 1 1)] 32)) := (Fp.refl _ _).alloc _
  have hb1 := heap_alloc_new v (.cells #[.int .u8 17, .int .u32 167772161, .int .u16 4000, .int .u32 134744072, .int .u16 53, .int .u8 17, .int .u32 134744072, .int .u16 53, .int .u32 151587081, .int .u16 1006, .int .i64 1, .int .i64 120, (.slice (some ⟨b, 0, none⟩) 1 1)] 32)
  have hh1 := hh.low hq
  have hf1 := hp.trans hq (fun _ _ h => h)
  have hbl := hh.lt
  go_wp2_with fail
  generalize v.alloc (.cells #[.int .u8 17, .int .u32 167772161, .int .u16 4000, .int .u32 134744072, .int .u16 53, .int .u8 17, .int .u32 134744072, .int .u16 53, .int .u32 151587081, .int .u16 1006, .int .i64 1, .int .i64 120, (.slice (some ⟨b, 0, none⟩) 1 1)] 32) = w1 at *
  generalize v.heap.size = g1 at *
  have x0 : w1.cell? ⟨g1, 0, none⟩ = some (.int .u8 17) := by simp [World.cell?, hb1]
  have x1 : w1.cell? ⟨g1, 1, none⟩ = some (.int .u32 167772161) := by simp [World.cell?, hb1]
  have x2 : w1.cell? ⟨g1, 2, none⟩ = some (.int .u16 4000) := by simp [World.cell?, hb1]
  have x3 : w1.cell? ⟨g1, 3, none⟩ = some (.int .u32 134744072) := by simp [World.cell?, hb1]
  have x4 : w1.cell? ⟨g1, 4, none⟩ = some (.int .u16 53) := by simp [World.cell?, hb1]
  have x5 : w1.cell? ⟨g1, 5, none⟩ = some (.int .u8 17) := by simp [World.cell?, hb1]
  have x6 : w1.cell? ⟨g1, 6, none⟩ = some (.int .u32 134744072) := by simp [World.cell?, hb1]
  have x7 : w1.cell? ⟨g1, 7, none⟩ = some (.int .u16 53) := by simp [World.cell?, hb1]
  have x8 : w1.cell? ⟨g1, 8, none⟩ = some (.int .u32 151587081) := by simp [World.cell?, hb1]
  have x9 : w1.cell? ⟨g1, 9, none⟩ = some (.int .u16 1006) := by simp [World.cell?, hb1]
  have x10 : w1.cell? ⟨g1, 10, none⟩ = some (.int .i64 1) := by simp [World.cell?, hb1]
  have x11 : w1.cell? ⟨g1, 11, none⟩ = some (.int .i64 120) := by simp [World.cell?, hb1]
  have x12 : w1.cell? ⟨g1, 12, none⟩ = some ((.slice (some ⟨b, 0, none⟩) 1 1)) := by simp [World.cell?, hb1]

  have lg : g1 < w1.heap.size := cell_lt x0
  have Hb1 := Lib.hid hb1
  have Hh1 := Lib.hid hh1
  have Hf1 := Lib.hid hf1
  clear hb1 hh1 hf1 hq hp hh
  refine wp_region_held_drew (S := fun wx => NoW w1 wx) (by kernel_rfl) (Fp.drew (Fp.refl _ _)) (fun hHeld => ?_)
  (refine take_at 0 (some 8) rfl rfl (by kernel_rfl) (by kernel_rfl) (by kernel_rfl) (fun _ _ _ h => h) (v := ?_) (by kernel_rfl) ?_ (by assumption) ?_; rotate_left; (focus (intro wS hSw; (have y0 := (hSw.cell (p := ⟨g1, 0, none⟩) lg id).trans x0); (have y1 := (hSw.cell (p := ⟨g1, 1, none⟩) lg id).trans x1); (have y2 := (hSw.cell (p := ⟨g1, 2, none⟩) lg id).trans x2); (have y3 := (hSw.cell (p := ⟨g1, 3, none⟩) lg id).trans x3); (have y4 := (hSw.cell (p := ⟨g1, 4, none⟩) lg id).trans x4); (have y5 := (hSw.cell (p := ⟨g1, 5, none⟩) lg id).trans x5); (have y6 := (hSw.cell (p := ⟨g1, 6, none⟩) lg id).trans x6); (have y7 := (hSw.cell (p := ⟨g1, 7, none⟩) lg id).trans x7); (have y8 := (hSw.cell (p := ⟨g1, 8, none⟩) lg id).trans x8); (have y9 := (hSw.cell (p := ⟨g1, 9, none⟩) lg id).trans x9); (have y10 := (hSw.cell (p := ⟨g1, 10, none⟩) lg id).trans x10); (have y11 := (hSw.cell (p := ⟨g1, 11, none⟩) lg id).trans x11); (have y12 := (hSw.cell (p := ⟨g1, 12, none⟩) lg id).trans x12); go_simp; try with_reducible rfl)); (try simp only [Act.put, List.setIfInBounds_toArray, List.set_cons_zero, List.set_cons_succ]))
  (refine take_at 2 (some 10) rfl rfl (by kernel_rfl) (by kernel_rfl) (by kernel_rfl) (fun _ _ _ h => h) (v := ?_) (by kernel_rfl) ?_ (by assumption) ?_; rotate_left; (focus (intro wS hSw; (have y0 := (hSw.cell (p := ⟨g1, 0, none⟩) lg id).trans x0); (have y1 := (hSw.cell (p := ⟨g1, 1, none⟩) lg id).trans x1); (have y2 := (hSw.cell (p := ⟨g1, 2, none⟩) lg id).trans x2); (have y3 := (hSw.cell (p := ⟨g1, 3, none⟩) lg id).trans x3); (have y4 := (hSw.cell (p := ⟨g1, 4, none⟩) lg id).trans x4); (have y5 := (hSw.cell (p := ⟨g1, 5, none⟩) lg id).trans x5); (have y6 := (hSw.cell (p := ⟨g1, 6, none⟩) lg id).trans x6); (have y7 := (hSw.cell (p := ⟨g1, 7, none⟩) lg id).trans x7); (have y8 := (hSw.cell (p := ⟨g1, 8, none⟩) lg id).trans x8); (have y9 := (hSw.cell (p := ⟨g1, 9, none⟩) lg id).trans x9); (have y10 := (hSw.cell (p := ⟨g1, 10, none⟩) lg id).trans x10); (have y11 := (hSw.cell (p := ⟨g1, 11, none⟩) lg id).trans x11); (have y12 := (hSw.cell (p := ⟨g1, 12, none⟩) lg id).trans x12); go_simp; try with_reducible rfl)); (try simp only [Act.put, List.setIfInBounds_toArray, List.set_cons_zero, List.set_cons_succ]))
  (refine take_at 4 (some 12) rfl rfl (by kernel_rfl) (by kernel_rfl) (by kernel_rfl) (fun _ _ _ h => h) (v := ?_) (by kernel_rfl) ?_ (by assumption) ?_; rotate_left; (focus (intro wS hSw; (have y0 := (hSw.cell (p := ⟨g1, 0, none⟩) lg id).trans x0); (have y1 := (hSw.cell (p := ⟨g1, 1, none⟩) lg id).trans x1); (have y2 := (hSw.cell (p := ⟨g1, 2, none⟩) lg id).trans x2); (have y3 := (hSw.cell (p := ⟨g1, 3, none⟩) lg id).trans x3); (have y4 := (hSw.cell (p := ⟨g1, 4, none⟩) lg id).trans x4); (have y5 := (hSw.cell (p := ⟨g1, 5, none⟩) lg id).trans x5); (have y6 := (hSw.cell (p := ⟨g1, 6, none⟩) lg id).trans x6); (have y7 := (hSw.cell (p := ⟨g1, 7, none⟩) lg id).trans x7); (have y8 := (hSw.cell (p := ⟨g1, 8, none⟩) lg id).trans x8); (have y9 := (hSw.cell (p := ⟨g1, 9, none⟩) lg id).trans x9); (have y10 := (hSw.cell (p := ⟨g1, 10, none⟩) lg id).trans x10); (have y11 := (hSw.cell (p := ⟨g1, 11, none⟩) lg id).trans x11); (have y12 := (hSw.cell (p := ⟨g1, 12, none⟩) lg id).trans x12); go_simp; try with_reducible rfl)); (try simp only [Act.put, List.setIfInBounds_toArray, List.set_cons_zero, List.set_cons_succ]))
  clear x0 x1 x2 x3 x4 x5 x6 x7 x8 x9 x10 x11 x12
  refine boxes3 (d := n3 9 11 13) (b := n3 2 3 4) (ld := n3 8 10 12) (V := v3 #[.int .u32 151587081, .int .u16 1006, .int .u32 134744072, .int .u16 53] #[.int .u32 134744072, .int .u16 53, .int .u32 167772161, .int .u16 4000] #[.int .u32 167772161, .int .u16 4000, .int .u32 134744072, .int .u16 53]) (Z := #[.int .u32 0, .int .u16 0, .int .u32 0, .int .u16 0]) (T := 53) (by decide) (by decide) (by decide) (fin3 (by simp [n3]) (by simp [n3]) (by simp [n3])) (fin3 (by simp [n3]) (by simp [n3]) (by simp [n3])) (by decide) (by decide) (by kernel_rfl) hHeld ?_ ?_ ?_ ?_
  · refine fin3 ?_ ?_ ?_
    · intro a W h
      have he : a.tmps[8]? = some (.agg #[.int .u8 17, .int .u32 167772161, .int .u16 4000, .int .u32 134744072, .int .u16 53, .int .u8 17, .int .u32 134744072, .int .u16 53, .int .u32 151587081, .int .u16 1006, .int .i64 1, .int .i64 120, (.slice (some ⟨b, 0, none⟩) 1 1)]) := h
      refine ⟨_, 16, #[.agg #[.int .u8 17, .int .u32 167772161, .int .u16 4000, .int .u32 134744072, .int .u16 53, .int .u8 17, .int .u32 134744072, .int .u16 53, .int .u32 151587081, .int .u16 1006, .int .i64 1, .int .i64 120, (.slice (some ⟨b, 0, none⟩) 1 1)], .bool false], rfl, rfl, rfl, ?_, fun _ => turn_f 17 167772161 4000 134744072 53 17 134744072 53 151587081 1006 1 120 _ W⟩
      clear h
      go_simp
    · intro a W h
      have he : a.tmps[10]? = some (.agg #[.int .u8 17, .int .u32 167772161, .int .u16 4000, .int .u32 134744072, .int .u16 53, .int .u8 17, .int .u32 134744072, .int .u16 53, .int .u32 151587081, .int .u16 1006, .int .i64 1, .int .i64 120, (.slice (some ⟨b, 0, none⟩) 1 1)]) := h
      refine ⟨_, 16, #[.agg #[.int .u8 17, .int .u32 167772161, .int .u16 4000, .int .u32 134744072, .int .u16 53, .int .u8 17, .int .u32 134744072, .int .u16 53, .int .u32 151587081, .int .u16 1006, .int .i64 1, .int .i64 120, (.slice (some ⟨b, 0, none⟩) 1 1)], .bool true], rfl, rfl, rfl, ?_, fun _ => turn_t 17 167772161 4000 134744072 53 17 134744072 53 151587081 1006 1 120 _ W⟩
      clear h
      go_simp
    · intro a W h
      have he : a.tmps[12]? = some (.agg #[.int .u8 17, .int .u32 167772161, .int .u16 4000, .int .u32 134744072, .int .u16 53, .int .u8 17, .int .u32 134744072, .int .u16 53, .int .u32 151587081, .int .u16 1006, .int .i64 1, .int .i64 120, (.slice (some ⟨b, 0, none⟩) 1 1)]) := h
      refine ⟨_, 17, #[.agg #[.int .u8 17, .int .u32 167772161, .int .u16 4000, .int .u32 134744072, .int .u16 53, .int .u8 17, .int .u32 134744072, .int .u16 53, .int .u32 151587081, .int .u16 1006, .int .i64 1, .int .i64 120, (.slice (some ⟨b, 0, none⟩) 1 1)], .bool true], rfl, rfl, rfl, ?_, fun _ => inside_t 17 167772161 4000 134744072 53 17 134744072 53 151587081 1006 1 120 _ W⟩
      clear h
      go_simp
  · refine fin3 ?_ ?_ ?_ <;> (intro a W; refine ⟨_, rfl, rfl, rfl, ?_⟩; go_simp)
  · refine fin3 ?_ ?_ ?_
    · intro a W g h1 h2 h3
      have e1 : a.tmps[2]? = some (.pointer (some ⟨g, 0, none⟩)) := h1
      have e2 : a.tmps[9]? = some (.agg #[.int .u32 151587081, .int .u16 1006, .int .u32 134744072, .int .u16 53]) := h2
      have c0 : W.cell? ⟨g, 0, none⟩ = some (.int .u32 0) := by simp [World.cell?, h3]
      have c1 : W.cell? ⟨g, 1, none⟩ = some (.int .u16 0) := by simp [World.cell?, h3]
      have c2 : W.cell? ⟨g, 2, none⟩ = some (.int .u32 0) := by simp [World.cell?, h3]
      have c3 : W.cell? ⟨g, 3, none⟩ = some (.int .u16 0) := by simp [World.cell?, h3]
      have z0 : W.frozen? ⟨g, 0, none⟩ = false := by simp [World.frozen?, h3]
      have z1 : W.frozen? ⟨g, 1, none⟩ = false := by simp [World.frozen?, h3]
      have z2 : W.frozen? ⟨g, 2, none⟩ = false := by simp [World.frozen?, h3]
      have z3 : W.frozen? ⟨g, 3, none⟩ = false := by simp [World.frozen?, h3]
      obtain ⟨W', hW', q1, q2⟩ := set4 W g 53 (.int .u32 0) (.int .u16 0) (.int .u32 0) (.int .u16 0) h3 (.int .u32 151587081) (.int .u16 1006) (.int .u32 134744072) (.int .u16 53)
      refine ⟨_, W', .skip, rfl, rfl, rfl, ?_, .inl rfl, q1, q2⟩
      clear h1 h2 h3 q1 q2
      rw [hW']
      clear hW'
      go_simp
    · intro a W g h1 h2 h3
      have e1 : a.tmps[3]? = some (.pointer (some ⟨g, 0, none⟩)) := h1
      have e2 : a.tmps[11]? = some (.agg #[.int .u32 134744072, .int .u16 53, .int .u32 167772161, .int .u16 4000]) := h2
      have c0 : W.cell? ⟨g, 0, none⟩ = some (.int .u32 0) := by simp [World.cell?, h3]
      have c1 : W.cell? ⟨g, 1, none⟩ = some (.int .u16 0) := by simp [World.cell?, h3]
      have c2 : W.cell? ⟨g, 2, none⟩ = some (.int .u32 0) := by simp [World.cell?, h3]
      have c3 : W.cell? ⟨g, 3, none⟩ = some (.int .u16 0) := by simp [World.cell?, h3]
      have z0 : W.frozen? ⟨g, 0, none⟩ = false := by simp [World.frozen?, h3]
      have z1 : W.frozen? ⟨g, 1, none⟩ = false := by simp [World.frozen?, h3]
      have z2 : W.frozen? ⟨g, 2, none⟩ = false := by simp [World.frozen?, h3]
      have z3 : W.frozen? ⟨g, 3, none⟩ = false := by simp [World.frozen?, h3]
      obtain ⟨W', hW', q1, q2⟩ := set4 W g 53 (.int .u32 0) (.int .u16 0) (.int .u32 0) (.int .u16 0) h3 (.int .u32 134744072) (.int .u16 53) (.int .u32 167772161) (.int .u16 4000)
      refine ⟨_, W', .skip, rfl, rfl, rfl, ?_, .inl rfl, q1, q2⟩
      clear h1 h2 h3 q1 q2
      rw [hW']
      clear hW'
      go_simp
    · intro a W g h1 h2 h3
      have e1 : a.tmps[4]? = some (.pointer (some ⟨g, 0, none⟩)) := h1
      have e2 : a.tmps[13]? = some (.agg #[.int .u32 167772161, .int .u16 4000, .int .u32 134744072, .int .u16 53]) := h2
      have c0 : W.cell? ⟨g, 0, none⟩ = some (.int .u32 0) := by simp [World.cell?, h3]
      have c1 : W.cell? ⟨g, 1, none⟩ = some (.int .u16 0) := by simp [World.cell?, h3]
      have c2 : W.cell? ⟨g, 2, none⟩ = some (.int .u32 0) := by simp [World.cell?, h3]
      have c3 : W.cell? ⟨g, 3, none⟩ = some (.int .u16 0) := by simp [World.cell?, h3]
      have z0 : W.frozen? ⟨g, 0, none⟩ = false := by simp [World.frozen?, h3]
      have z1 : W.frozen? ⟨g, 1, none⟩ = false := by simp [World.frozen?, h3]
      have z2 : W.frozen? ⟨g, 2, none⟩ = false := by simp [World.frozen?, h3]
      have z3 : W.frozen? ⟨g, 3, none⟩ = false := by simp [World.frozen?, h3]
      obtain ⟨W', hW', q1, q2⟩ := set4 W g 53 (.int .u32 0) (.int .u16 0) (.int .u32 0) (.int .u16 0) h3 (.int .u32 167772161) (.int .u16 4000) (.int .u32 134744072) (.int .u16 53)
      refine ⟨_, W', .skip, rfl, rfl, rfl, ?_, .inl rfl, q1, q2⟩
      clear h1 h2 h3 q1 q2
      rw [hW']
      clear hW'
      go_simp
  · intro g2 g3 g4 W hf l2 l3 l4 n23 n24 n34 hb2 hb3 hb4
    simp only [n3, v3] at hb2 hb3 hb4
    simp only [n3, v3, List.setIfInBounds_toArray, List.set_cons_zero, List.set_cons_succ]
    have hb1 := (hf.block _ (Array.getElem?_eq_some_iff.1 Hb1.out).1 id).trans Hb1.out
    have Hm := Lib.hid (Hf1.out.trans hf (fun _ _ h => h))
    have Hh2 := Lib.hid (Hh1.out.low hf)
    have x0 : W.cell? ⟨g1, 0, none⟩ = some (.int .u8 17) := by simp [World.cell?, hb1]
    have x1 : W.cell? ⟨g1, 1, none⟩ = some (.int .u32 167772161) := by simp [World.cell?, hb1]
    have x2 : W.cell? ⟨g1, 2, none⟩ = some (.int .u16 4000) := by simp [World.cell?, hb1]
    have x3 : W.cell? ⟨g1, 3, none⟩ = some (.int .u32 134744072) := by simp [World.cell?, hb1]
    have x4 : W.cell? ⟨g1, 4, none⟩ = some (.int .u16 53) := by simp [World.cell?, hb1]
    have x5 : W.cell? ⟨g1, 5, none⟩ = some (.int .u8 17) := by simp [World.cell?, hb1]
    have x6 : W.cell? ⟨g1, 6, none⟩ = some (.int .u32 134744072) := by simp [World.cell?, hb1]
    have x7 : W.cell? ⟨g1, 7, none⟩ = some (.int .u16 53) := by simp [World.cell?, hb1]
    have x8 : W.cell? ⟨g1, 8, none⟩ = some (.int .u32 151587081) := by simp [World.cell?, hb1]
    have x9 : W.cell? ⟨g1, 9, none⟩ = some (.int .u16 1006) := by simp [World.cell?, hb1]
    have x10 : W.cell? ⟨g1, 10, none⟩ = some (.int .i64 1) := by simp [World.cell?, hb1]
    have x11 : W.cell? ⟨g1, 11, none⟩ = some (.int .i64 120) := by simp [World.cell?, hb1]
    have x12 : W.cell? ⟨g1, 12, none⟩ = some ((.slice (some ⟨b, 0, none⟩) 1 1)) := by simp [World.cell?, hb1]

    have B1 := Lib.hid hb1
    have B2 := Lib.hid hb2
    have B3 := Lib.hid hb3
    have B4 := Lib.hid hb4
    clear hb1 hb2 hb3 hb4 Hb1 Hh1 Hf1 hf
    go_wp2_with fail
    clear x0 x1 x2 x3 x4 x5 x6 x7 x8 x9 x10 x11 x12
    refine (touch18 b W (Ht.out.low Hm.out) Hh2.out).mono ?_
    rintro e v2 ⟨b', c', rfl, hc', hB', hh', hp⟩
    have Hm2 := Lib.hid (Hm.out.trans hp (fun _ _ h => h))
    have Hh3 := Lib.hid (Hh2.out.low hp)
    have hb0 := (hp.block _ (Array.getElem?_eq_some_iff.1 B1.out).1 id).trans B1.out
    clear B1
    have B1 := Lib.hid hb0
    clear hb0
    have hb0 := (hp.block _ (Array.getElem?_eq_some_iff.1 B2.out).1 id).trans B2.out
    clear B2
    have B2 := Lib.hid hb0
    clear hb0
    have hb0 := (hp.block _ (Array.getElem?_eq_some_iff.1 B3.out).1 id).trans B3.out
    clear B3
    have B3 := Lib.hid hb0
    clear hb0
    have hb0 := (hp.block _ (Array.getElem?_eq_some_iff.1 B4.out).1 id).trans B4.out
    clear B4
    have B4 := Lib.hid hb0
    clear hb0
    have x0 : v2.cell? ⟨g1, 0, none⟩ = some (.int .u8 17) := by simp [World.cell?, B1.out]
    have x1 : v2.cell? ⟨g1, 1, none⟩ = some (.int .u32 167772161) := by simp [World.cell?, B1.out]
    have x2 : v2.cell? ⟨g1, 2, none⟩ = some (.int .u16 4000) := by simp [World.cell?, B1.out]
    have x3 : v2.cell? ⟨g1, 3, none⟩ = some (.int .u32 134744072) := by simp [World.cell?, B1.out]
    have x4 : v2.cell? ⟨g1, 4, none⟩ = some (.int .u16 53) := by simp [World.cell?, B1.out]
    have x5 : v2.cell? ⟨g1, 5, none⟩ = some (.int .u8 17) := by simp [World.cell?, B1.out]
    have x6 : v2.cell? ⟨g1, 6, none⟩ = some (.int .u32 134744072) := by simp [World.cell?, B1.out]
    have x7 : v2.cell? ⟨g1, 7, none⟩ = some (.int .u16 53) := by simp [World.cell?, B1.out]
    have x8 : v2.cell? ⟨g1, 8, none⟩ = some (.int .u32 151587081) := by simp [World.cell?, B1.out]
    have x9 : v2.cell? ⟨g1, 9, none⟩ = some (.int .u16 1006) := by simp [World.cell?, B1.out]
    have x10 : v2.cell? ⟨g1, 10, none⟩ = some (.int .i64 1) := by simp [World.cell?, B1.out]
    have x11 : v2.cell? ⟨g1, 11, none⟩ = some (.int .i64 120) := by simp [World.cell?, B1.out]
    have x12 : v2.cell? ⟨g1, 12, none⟩ = some ((.slice (some ⟨b, 0, none⟩) 1 1)) := by simp [World.cell?, B1.out]

    have lg2 : g1 < v2.heap.size := cell_lt x0
    clear hp Hm Hh2 hc' hB' hh'
    go_wp2_with fail
    clear lg2 x0 x1 x2 x3 x4 x5 x6 x7 x8 x9 x10 x11 x12
    have hq : NoW v2 (v2.alloc (.cells #[.int .u8 17, .int .u32 167772161, .int .u16 4000, .int .u32 134744072, .int .u16 53, .int .u8 17, .int .u32 134744072, .int .u16 53, .int .u32 151587081, .int .u16 1006, .int .i64 2, .int .i64 305, (.slice (some ⟨b', 0, none⟩) 1 c')] 32)) := (Fp.refl _ _).alloc _
    have B5 := Lib.hid (heap_alloc_new v2 (.cells #[.int .u8 17, .int .u32 167772161, .int .u16 4000, .int .u32 134744072, .int .u16 53, .int .u8 17, .int .u32 134744072, .int .u16 53, .int .u32 151587081, .int .u16 1006, .int .i64 2, .int .i64 305, (.slice (some ⟨b', 0, none⟩) 1 c')] 32))
    have Hm3 := Lib.hid (Hm2.out.trans hq (fun _ _ h => h))
    have Hh4 := Lib.hid (Hh3.out.low hq)
    have hb0 := (hq.block _ (Array.getElem?_eq_some_iff.1 B1.out).1 id).trans B1.out
    clear B1
    have B1 := Lib.hid hb0
    clear hb0
    have hb0 := (hq.block _ (Array.getElem?_eq_some_iff.1 B2.out).1 id).trans B2.out
    clear B2
    have B2 := Lib.hid hb0
    clear hb0
    have hb0 := (hq.block _ (Array.getElem?_eq_some_iff.1 B3.out).1 id).trans B3.out
    clear B3
    have B3 := Lib.hid hb0
    clear hb0
    have hb0 := (hq.block _ (Array.getElem?_eq_some_iff.1 B4.out).1 id).trans B4.out
    clear B4
    have B4 := Lib.hid hb0
    clear hb0

    clear hq Hm2 Hh3
    generalize v2.alloc (.cells #[.int .u8 17, .int .u32 167772161, .int .u16 4000, .int .u32 134744072, .int .u16 53, .int .u8 17, .int .u32 134744072, .int .u16 53, .int .u32 151587081, .int .u16 1006, .int .i64 2, .int .i64 305, (.slice (some ⟨b', 0, none⟩) 1 c')] 32) = v3 at *
    generalize v2.heap.size = g5 at *
    refine (chk18 b v3 (Ht.out.low Hm3.out)).mono ?_
    rintro e v4 ⟨rfl, hp⟩
    have Hm4 := Lib.hid (Hm3.out.trans hp (fun _ _ h => h))
    have Hh5 := Lib.hid (Hh4.out.low hp)
    have hb0 := (hp.block _ (Array.getElem?_eq_some_iff.1 B1.out).1 id).trans B1.out
    clear B1
    have B1 := Lib.hid hb0
    clear hb0
    have hb0 := (hp.block _ (Array.getElem?_eq_some_iff.1 B2.out).1 id).trans B2.out
    clear B2
    have B2 := Lib.hid hb0
    clear hb0
    have hb0 := (hp.block _ (Array.getElem?_eq_some_iff.1 B3.out).1 id).trans B3.out
    clear B3
    have B3 := Lib.hid hb0
    clear hb0
    have hb0 := (hp.block _ (Array.getElem?_eq_some_iff.1 B4.out).1 id).trans B4.out
    clear B4
    have B4 := Lib.hid hb0
    clear hb0
    have hb0 := (hp.block _ (Array.getElem?_eq_some_iff.1 B5.out).1 id).trans B5.out
    clear B5
    have B5 := Lib.hid hb0
    clear hb0
    have x0 : v4.cell? ⟨g1, 0, none⟩ = some (.int .u8 17) := by simp [World.cell?, B1.out]
    have x1 : v4.cell? ⟨g1, 1, none⟩ = some (.int .u32 167772161) := by simp [World.cell?, B1.out]
    have x2 : v4.cell? ⟨g1, 2, none⟩ = some (.int .u16 4000) := by simp [World.cell?, B1.out]
    have x3 : v4.cell? ⟨g1, 3, none⟩ = some (.int .u32 134744072) := by simp [World.cell?, B1.out]
    have x4 : v4.cell? ⟨g1, 4, none⟩ = some (.int .u16 53) := by simp [World.cell?, B1.out]
    have x5 : v4.cell? ⟨g1, 5, none⟩ = some (.int .u8 17) := by simp [World.cell?, B1.out]
    have x6 : v4.cell? ⟨g1, 6, none⟩ = some (.int .u32 134744072) := by simp [World.cell?, B1.out]
    have x7 : v4.cell? ⟨g1, 7, none⟩ = some (.int .u16 53) := by simp [World.cell?, B1.out]
    have x8 : v4.cell? ⟨g1, 8, none⟩ = some (.int .u32 151587081) := by simp [World.cell?, B1.out]
    have x9 : v4.cell? ⟨g1, 9, none⟩ = some (.int .u16 1006) := by simp [World.cell?, B1.out]
    have x10 : v4.cell? ⟨g1, 10, none⟩ = some (.int .i64 1) := by simp [World.cell?, B1.out]
    have x11 : v4.cell? ⟨g1, 11, none⟩ = some (.int .i64 120) := by simp [World.cell?, B1.out]
    have x12 : v4.cell? ⟨g1, 12, none⟩ = some ((.slice (some ⟨b, 0, none⟩) 1 1)) := by simp [World.cell?, B1.out]
    have a0 : v4.cell? ⟨g2, 0, none⟩ = some (.int .u32 151587081) := by simp [World.cell?, B2.out]
    have a1 : v4.cell? ⟨g2, 1, none⟩ = some (.int .u16 1006) := by simp [World.cell?, B2.out]
    have a2 : v4.cell? ⟨g2, 2, none⟩ = some (.int .u32 134744072) := by simp [World.cell?, B2.out]
    have a3 : v4.cell? ⟨g2, 3, none⟩ = some (.int .u16 53) := by simp [World.cell?, B2.out]
    have d0 : v4.cell? ⟨g3, 0, none⟩ = some (.int .u32 134744072) := by simp [World.cell?, B3.out]
    have d1 : v4.cell? ⟨g3, 1, none⟩ = some (.int .u16 53) := by simp [World.cell?, B3.out]
    have d2 : v4.cell? ⟨g3, 2, none⟩ = some (.int .u32 167772161) := by simp [World.cell?, B3.out]
    have d3 : v4.cell? ⟨g3, 3, none⟩ = some (.int .u16 4000) := by simp [World.cell?, B3.out]
    have f0 : v4.cell? ⟨g4, 0, none⟩ = some (.int .u32 167772161) := by simp [World.cell?, B4.out]
    have f1 : v4.cell? ⟨g4, 1, none⟩ = some (.int .u16 4000) := by simp [World.cell?, B4.out]
    have f2 : v4.cell? ⟨g4, 2, none⟩ = some (.int .u32 134744072) := by simp [World.cell?, B4.out]
    have f3 : v4.cell? ⟨g4, 3, none⟩ = some (.int .u16 53) := by simp [World.cell?, B4.out]
    have y0 : v4.cell? ⟨g5, 0, none⟩ = some (.int .u8 17) := by simp [World.cell?, B5.out]
    have y1 : v4.cell? ⟨g5, 1, none⟩ = some (.int .u32 167772161) := by simp [World.cell?, B5.out]
    have y2 : v4.cell? ⟨g5, 2, none⟩ = some (.int .u16 4000) := by simp [World.cell?, B5.out]
    have y3 : v4.cell? ⟨g5, 3, none⟩ = some (.int .u32 134744072) := by simp [World.cell?, B5.out]
    have y4 : v4.cell? ⟨g5, 4, none⟩ = some (.int .u16 53) := by simp [World.cell?, B5.out]
    have y5 : v4.cell? ⟨g5, 5, none⟩ = some (.int .u8 17) := by simp [World.cell?, B5.out]
    have y6 : v4.cell? ⟨g5, 6, none⟩ = some (.int .u32 134744072) := by simp [World.cell?, B5.out]
    have y7 : v4.cell? ⟨g5, 7, none⟩ = some (.int .u16 53) := by simp [World.cell?, B5.out]
    have y8 : v4.cell? ⟨g5, 8, none⟩ = some (.int .u32 151587081) := by simp [World.cell?, B5.out]
    have y9 : v4.cell? ⟨g5, 9, none⟩ = some (.int .u16 1006) := by simp [World.cell?, B5.out]
    have y10 : v4.cell? ⟨g5, 10, none⟩ = some (.int .i64 2) := by simp [World.cell?, B5.out]
    have y11 : v4.cell? ⟨g5, 11, none⟩ = some (.int .i64 305) := by simp [World.cell?, B5.out]
    have y12 : v4.cell? ⟨g5, 12, none⟩ = some ((.slice (some ⟨b', 0, none⟩) 1 c')) := by simp [World.cell?, B5.out]

    clear hp Hm3 Hh4
    go_wp2_with fail
    clear x0 y0 x1 y1 x2 y2 x3 y3 x4 y4 x5 y5 x6 y6 x7 y7 x8 y8 x9 y9 x10 y10 x11 y11 x12 y12 a0 d0 f0 a1 d1 f1 a2 d2 f2 a3 d3 f3 B2 B3 B4 B5
    refine (L1.out _).mono ?_
    rintro e v5 ⟨rfl, hp⟩
    have Hm5 := Lib.hid (Hm4.out.trans hp (fun _ _ h => h))
    have Hh6 := Lib.hid (Hh5.out.low hp)
    have hb0 := (hp.block _ (Array.getElem?_eq_some_iff.1 B1.out).1 id).trans B1.out
    clear B1
    have B1 := Lib.hid hb0
    clear hb0
    have x0 : v5.cell? ⟨g1, 0, none⟩ = some (.int .u8 17) := by simp [World.cell?, B1.out]
    have x1 : v5.cell? ⟨g1, 1, none⟩ = some (.int .u32 167772161) := by simp [World.cell?, B1.out]
    have x2 : v5.cell? ⟨g1, 2, none⟩ = some (.int .u16 4000) := by simp [World.cell?, B1.out]
    have x3 : v5.cell? ⟨g1, 3, none⟩ = some (.int .u32 134744072) := by simp [World.cell?, B1.out]
    have x4 : v5.cell? ⟨g1, 4, none⟩ = some (.int .u16 53) := by simp [World.cell?, B1.out]
    have x5 : v5.cell? ⟨g1, 5, none⟩ = some (.int .u8 17) := by simp [World.cell?, B1.out]
    have x6 : v5.cell? ⟨g1, 6, none⟩ = some (.int .u32 134744072) := by simp [World.cell?, B1.out]
    have x7 : v5.cell? ⟨g1, 7, none⟩ = some (.int .u16 53) := by simp [World.cell?, B1.out]
    have x8 : v5.cell? ⟨g1, 8, none⟩ = some (.int .u32 151587081) := by simp [World.cell?, B1.out]
    have x9 : v5.cell? ⟨g1, 9, none⟩ = some (.int .u16 1006) := by simp [World.cell?, B1.out]
    have x10 : v5.cell? ⟨g1, 10, none⟩ = some (.int .i64 1) := by simp [World.cell?, B1.out]
    have x11 : v5.cell? ⟨g1, 11, none⟩ = some (.int .i64 120) := by simp [World.cell?, B1.out]
    have x12 : v5.cell? ⟨g1, 12, none⟩ = some ((.slice (some ⟨b, 0, none⟩) 1 1)) := by simp [World.cell?, B1.out]

    clear hp Hm4 Hh5
    go_wp2_with fail
    clear x0 x1 x2 x3 x4 x5 x6 x7 x8 x9 x10 x11 x12
    refine (L2.out _).mono ?_
    rintro e v6 ⟨rfl, hp⟩
    have Hm6 := Lib.hid (Hm5.out.trans hp (fun _ _ h => h))
    have Hh7 := Lib.hid (Hh6.out.low hp)
    have hb0 := (hp.block _ (Array.getElem?_eq_some_iff.1 B1.out).1 id).trans B1.out
    clear B1
    have B1 := Lib.hid hb0
    clear hb0
    have x0 : v6.cell? ⟨g1, 0, none⟩ = some (.int .u8 17) := by simp [World.cell?, B1.out]
    have x1 : v6.cell? ⟨g1, 1, none⟩ = some (.int .u32 167772161) := by simp [World.cell?, B1.out]
    have x2 : v6.cell? ⟨g1, 2, none⟩ = some (.int .u16 4000) := by simp [World.cell?, B1.out]
    have x3 : v6.cell? ⟨g1, 3, none⟩ = some (.int .u32 134744072) := by simp [World.cell?, B1.out]
    have x4 : v6.cell? ⟨g1, 4, none⟩ = some (.int .u16 53) := by simp [World.cell?, B1.out]
    have x5 : v6.cell? ⟨g1, 5, none⟩ = some (.int .u8 17) := by simp [World.cell?, B1.out]
    have x6 : v6.cell? ⟨g1, 6, none⟩ = some (.int .u32 134744072) := by simp [World.cell?, B1.out]
    have x7 : v6.cell? ⟨g1, 7, none⟩ = some (.int .u16 53) := by simp [World.cell?, B1.out]
    have x8 : v6.cell? ⟨g1, 8, none⟩ = some (.int .u32 151587081) := by simp [World.cell?, B1.out]
    have x9 : v6.cell? ⟨g1, 9, none⟩ = some (.int .u16 1006) := by simp [World.cell?, B1.out]
    have x10 : v6.cell? ⟨g1, 10, none⟩ = some (.int .i64 1) := by simp [World.cell?, B1.out]
    have x11 : v6.cell? ⟨g1, 11, none⟩ = some (.int .i64 120) := by simp [World.cell?, B1.out]
    have x12 : v6.cell? ⟨g1, 12, none⟩ = some ((.slice (some ⟨b, 0, none⟩) 1 1)) := by simp [World.cell?, B1.out]

    clear hp Hm5 Hh6
    go_wp2_with fail
    clear x0 x1 x2 x3 x4 x5 x6 x7 x8 x9 x10 x11 x12
    refine (text18 b _ (Ht.out.low Hm6.out) Hh7.out).mono ?_
    rintro e v7 ⟨rfl, hp⟩
    have Hm7 := Lib.hid (Hm6.out.trans hp (fun _ _ h => h))
    clear hp Hm6
    go_wp2_with fail
    go_ret
    exact ⟨rfl, Hm7.out⟩
end Go.Proofs.YtaiimkcmgiceeaaDoor
