/- Chapter 18: stores of whole structs; own (written by genef.py). -/
import Derived.Test.YtdmbjndhdldggaaGreatDoorEnF
namespace Go.Proofs.YtdmbjndhdldggaaGreatDoor
set_option linter.unusedVariables false
set_option linter.unusedSimpArgs false
open Go.RowKit Go.Lib Go.Sort
theorem heap_set_other (w : World) (g b i : Nat) (v : Value) (hne : g ≠ b) : (w.setCell ⟨g, i, none⟩ v).heap[b]? = w.heap[b]? := by
  by_cases hb : b < w.heap.size
  · exact ((Fp.refl (fun k => k = g) w).setCell (p := ⟨g, i, none⟩) (Or.inr rfl) v).block b hb (fun e => hne e.symm)
  · rw [Array.getElem?_eq_none (by simp [World.setCell] at *; omega), Array.getElem?_eq_none (by omega)]
theorem set4 (w : World) (g : Nat) (T : TypeId) (z0 z1 z2 z3 : Value) (h : w.heap[g]? = some (.cells #[z0, z1, z2, z3] T (0, 0))) (x0 x1 x2 x3 : Value) :
    ∃ W, W = ((((w.setCell ⟨g, 0, none⟩ x0).setCell ⟨g, 1, none⟩ x1).setCell ⟨g, 2, none⟩ x2).setCell ⟨g, 3, none⟩ x3) ∧ W.heap[g]? = some (.cells #[x0, x1, x2, x3] T (0, 0)) ∧ Fp (fun k => k = g) w W := by
  refine ⟨_, rfl, ?_, ?_⟩
  · have h0 := heap_set w g 0 _ T x0 h
    have h1 := heap_set _ g 1 _ T x1 h0
    have h2 := heap_set _ g 2 _ T x2 h1
    have h3 := heap_set _ g 3 _ T x3 h2
    rw [h3]; simp
  · exact (((((Fp.refl (fun k => k = g) w).setCell (p := ⟨g, 0, none⟩) (Or.inr rfl) x0).setCell (p := ⟨g, 1, none⟩) (Or.inr rfl) x1).setCell (p := ⟨g, 2, none⟩) (Or.inr rfl) x2).setCell (p := ⟨g, 3, none⟩) (Or.inr rfl) x3)
theorem set13 (w : World) (g : Nat) (T : TypeId) (z0 z1 z2 z3 z4 z5 z6 z7 z8 z9 z10 z11 z12 : Value) (h : w.heap[g]? = some (.cells #[z0, z1, z2, z3, z4, z5, z6, z7, z8, z9, z10, z11, z12] T (0, 0))) (x0 x1 x2 x3 x4 x5 x6 x7 x8 x9 x10 x11 x12 : Value) :
    ∃ W, W = (((((((((((((w.setCell ⟨g, 0, none⟩ x0).setCell ⟨g, 1, none⟩ x1).setCell ⟨g, 2, none⟩ x2).setCell ⟨g, 3, none⟩ x3).setCell ⟨g, 4, none⟩ x4).setCell ⟨g, 5, none⟩ x5).setCell ⟨g, 6, none⟩ x6).setCell ⟨g, 7, none⟩ x7).setCell ⟨g, 8, none⟩ x8).setCell ⟨g, 9, none⟩ x9).setCell ⟨g, 10, none⟩ x10).setCell ⟨g, 11, none⟩ x11).setCell ⟨g, 12, none⟩ x12) ∧ W.heap[g]? = some (.cells #[x0, x1, x2, x3, x4, x5, x6, x7, x8, x9, x10, x11, x12] T (0, 0)) ∧ Fp (fun k => k = g) w W := by
  refine ⟨_, rfl, ?_, ?_⟩
  · have h0 := heap_set w g 0 _ T x0 h
    have h1 := heap_set _ g 1 _ T x1 h0
    have h2 := heap_set _ g 2 _ T x2 h1
    have h3 := heap_set _ g 3 _ T x3 h2
    have h4 := heap_set _ g 4 _ T x4 h3
    have h5 := heap_set _ g 5 _ T x5 h4
    have h6 := heap_set _ g 6 _ T x6 h5
    have h7 := heap_set _ g 7 _ T x7 h6
    have h8 := heap_set _ g 8 _ T x8 h7
    have h9 := heap_set _ g 9 _ T x9 h8
    have h10 := heap_set _ g 10 _ T x10 h9
    have h11 := heap_set _ g 11 _ T x11 h10
    have h12 := heap_set _ g 12 _ T x12 h11
    rw [h12]; simp
  · exact ((((((((((((((Fp.refl (fun k => k = g) w).setCell (p := ⟨g, 0, none⟩) (Or.inr rfl) x0).setCell (p := ⟨g, 1, none⟩) (Or.inr rfl) x1).setCell (p := ⟨g, 2, none⟩) (Or.inr rfl) x2).setCell (p := ⟨g, 3, none⟩) (Or.inr rfl) x3).setCell (p := ⟨g, 4, none⟩) (Or.inr rfl) x4).setCell (p := ⟨g, 5, none⟩) (Or.inr rfl) x5).setCell (p := ⟨g, 6, none⟩) (Or.inr rfl) x6).setCell (p := ⟨g, 7, none⟩) (Or.inr rfl) x7).setCell (p := ⟨g, 8, none⟩) (Or.inr rfl) x8).setCell (p := ⟨g, 9, none⟩) (Or.inr rfl) x9).setCell (p := ⟨g, 10, none⟩) (Or.inr rfl) x10).setCell (p := ⟨g, 11, none⟩) (Or.inr rfl) x11).setCell (p := ⟨g, 12, none⟩) (Or.inr rfl) x12)

set_option maxHeartbeats 4000000 in
set_option maxRecDepth 100000 in
theorem own_ok (r a p b q r2 a2 p2 b2 q2 st dl : Int) (hb ho n hc : Nat) (ys : List Value) (hn : n ≤ 100) (w : World) (hh : Holds w hb ho n ys) :
    Calls Tryz.prog 35 #[.agg #[.int .u8 r, .int .u32 a, .int .u16 p, .int .u32 b, .int .u16 q, .int .u8 r2, .int .u32 a2, .int .u16 p2, .int .u32 b2, .int .u16 q2, .int .i64 st, .int .i64 dl, (.slice (some ⟨hb, ho, none⟩) n hc)]] w fun e w' => ∃ b' c', e = .returned (.agg #[.int .u8 r, .int .u32 a, .int .u16 p, .int .u32 b, .int .u16 q, .int .u8 r2, .int .u32 a2, .int .u16 p2, .int .u32 b2, .int .u16 q2, .int .i64 st, .int .i64 dl, (.slice (some ⟨b', 0, none⟩) n c')]) ∧ n ≤ c' ∧ w.heap.size ≤ b' ∧ Holds w' b' 0 n ys ∧ NoW w w' := by
  have Hh := Lib.hid hh
  clear hh
  go_enter Tryz.func35, Tryz.ntmps35
  go_wp2_with fail
  have hn0 : NoW w ((w.alloc (.cells #[.int .u8 r, .int .u32 a, .int .u16 p, .int .u32 b, .int .u16 q, .int .u8 r2, .int .u32 a2, .int .u16 p2, .int .u32 b2, .int .u16 q2, .int .i64 st, .int .i64 dl, (.slice (some ⟨hb, ho, none⟩) n hc)] 31)).alloc (.cells #[.int .u8 0, .int .u32 0, .int .u16 0, .int .u32 0, .int .u16 0, .int .u8 0, .int .u32 0, .int .u16 0, .int .u32 0, .int .u16 0, .int .i64 0, .int .i64 0, .slice none 0 0] 31)) := ((Fp.refl _ _).alloc _).alloc _
  obtain ⟨hc0, hr0⟩ := box2 w (.cells #[.int .u8 r, .int .u32 a, .int .u16 p, .int .u32 b, .int .u16 q, .int .u8 r2, .int .u32 a2, .int .u16 p2, .int .u32 b2, .int .u16 q2, .int .i64 st, .int .i64 dl, (.slice (some ⟨hb, ho, none⟩) n hc)] 31) (.cells #[.int .u8 0, .int .u32 0, .int .u16 0, .int .u32 0, .int .u16 0, .int .u8 0, .int .u32 0, .int .u16 0, .int .u32 0, .int .u16 0, .int .i64 0, .int .i64 0, .slice none 0 0] 31)
  generalize (w.alloc (.cells #[.int .u8 r, .int .u32 a, .int .u16 p, .int .u32 b, .int .u16 q, .int .u8 r2, .int .u32 a2, .int .u16 p2, .int .u32 b2, .int .u16 q2, .int .i64 st, .int .i64 dl, (.slice (some ⟨hb, ho, none⟩) n hc)] 31)).alloc (.cells #[.int .u8 0, .int .u32 0, .int .u16 0, .int .u32 0, .int .u16 0, .int .u8 0, .int .u32 0, .int .u16 0, .int .u32 0, .int .u16 0, .int .i64 0, .int .i64 0, .slice none 0 0] 31) = w0 at *
  have hle : w.heap.size < w0.heap.size := (Array.getElem?_eq_some_iff.1 hc0).1
  have hg1 : w.heap.size ≤ w.heap.size := Nat.le_refl _
  have hg2 : w.heap.size ≤ w.heap.size + 1 := Nat.le_succ _
  refine (clone_ok hb ho n hc ys hn w0 (Hh.out.low hn0)).mono ?_
  rintro e v ⟨b', c', rfl, hc', hB', hh', hp⟩
  have hs0 : w0.heap.size ≤ b' := hB'
  have hw1 : w.heap.size + 1 < w0.heap.size := (Array.getElem?_eq_some_iff.1 hr0).1
  have hbc := (hp.block _ (Array.getElem?_eq_some_iff.1 hc0).1 id).trans hc0
  have hbr := (hp.block _ (Array.getElem?_eq_some_iff.1 hr0).1 id).trans hr0
  have Bc := Lib.hid hbc
  have By := Lib.hid hbr
  have Hn := Lib.hid (hn0.trans hp (fun _ _ h => h))
  have Hh2 := Lib.hid hh'
  have Hc2 := Lib.hid hc'
  clear hn0 hc0 hr0 hp hbc hbr hh' hc'
  obtain ⟨g, hg⟩ : ∃ g, g = w.heap.size := ⟨_, rfl⟩
  obtain ⟨g2, hg'⟩ : ∃ g2, g2 = w.heap.size + 1 := ⟨_, rfl⟩
  rw [← hg'] at By ⊢
  rw [← hg] at Bc
  have hne : ¬ g = g2 := by omega
  have hne2 : ¬ g2 = g := by omega
  have hb1 : g ≠ b' := by omega
  have hb2 : g2 ≠ b' := by omega
  have hge1 : w.heap.size ≤ g := by omega
  have hge2 : w.heap.size ≤ g2 := by omega
  have hwb : w.heap.size ≤ b' := by omega
  have c0 : v.cell? ⟨g, 0, none⟩ = some (.int .u8 r) := by simp [World.cell?, Bc.out]
  have zc0 : v.frozen? ⟨g, 0, none⟩ = false := by simp [World.frozen?, Bc.out]
  have c1 : v.cell? ⟨g, 1, none⟩ = some (.int .u32 a) := by simp [World.cell?, Bc.out]
  have zc1 : v.frozen? ⟨g, 1, none⟩ = false := by simp [World.frozen?, Bc.out]
  have c2 : v.cell? ⟨g, 2, none⟩ = some (.int .u16 p) := by simp [World.cell?, Bc.out]
  have zc2 : v.frozen? ⟨g, 2, none⟩ = false := by simp [World.frozen?, Bc.out]
  have c3 : v.cell? ⟨g, 3, none⟩ = some (.int .u32 b) := by simp [World.cell?, Bc.out]
  have zc3 : v.frozen? ⟨g, 3, none⟩ = false := by simp [World.frozen?, Bc.out]
  have c4 : v.cell? ⟨g, 4, none⟩ = some (.int .u16 q) := by simp [World.cell?, Bc.out]
  have zc4 : v.frozen? ⟨g, 4, none⟩ = false := by simp [World.frozen?, Bc.out]
  have c5 : v.cell? ⟨g, 5, none⟩ = some (.int .u8 r2) := by simp [World.cell?, Bc.out]
  have zc5 : v.frozen? ⟨g, 5, none⟩ = false := by simp [World.frozen?, Bc.out]
  have c6 : v.cell? ⟨g, 6, none⟩ = some (.int .u32 a2) := by simp [World.cell?, Bc.out]
  have zc6 : v.frozen? ⟨g, 6, none⟩ = false := by simp [World.frozen?, Bc.out]
  have c7 : v.cell? ⟨g, 7, none⟩ = some (.int .u16 p2) := by simp [World.cell?, Bc.out]
  have zc7 : v.frozen? ⟨g, 7, none⟩ = false := by simp [World.frozen?, Bc.out]
  have c8 : v.cell? ⟨g, 8, none⟩ = some (.int .u32 b2) := by simp [World.cell?, Bc.out]
  have zc8 : v.frozen? ⟨g, 8, none⟩ = false := by simp [World.frozen?, Bc.out]
  have c9 : v.cell? ⟨g, 9, none⟩ = some (.int .u16 q2) := by simp [World.cell?, Bc.out]
  have zc9 : v.frozen? ⟨g, 9, none⟩ = false := by simp [World.frozen?, Bc.out]
  have c10 : v.cell? ⟨g, 10, none⟩ = some (.int .i64 st) := by simp [World.cell?, Bc.out]
  have zc10 : v.frozen? ⟨g, 10, none⟩ = false := by simp [World.frozen?, Bc.out]
  have c11 : v.cell? ⟨g, 11, none⟩ = some (.int .i64 dl) := by simp [World.cell?, Bc.out]
  have zc11 : v.frozen? ⟨g, 11, none⟩ = false := by simp [World.frozen?, Bc.out]
  have c12 : v.cell? ⟨g, 12, none⟩ = some ((.slice (some ⟨hb, ho, none⟩) n hc)) := by simp [World.cell?, Bc.out]
  have zc12 : v.frozen? ⟨g, 12, none⟩ = false := by simp [World.frozen?, Bc.out]
  have y0 : v.cell? ⟨g2, 0, none⟩ = some (.int .u8 0) := by simp [World.cell?, By.out]
  have zy0 : v.frozen? ⟨g2, 0, none⟩ = false := by simp [World.frozen?, By.out]
  have y1 : v.cell? ⟨g2, 1, none⟩ = some (.int .u32 0) := by simp [World.cell?, By.out]
  have zy1 : v.frozen? ⟨g2, 1, none⟩ = false := by simp [World.frozen?, By.out]
  have y2 : v.cell? ⟨g2, 2, none⟩ = some (.int .u16 0) := by simp [World.cell?, By.out]
  have zy2 : v.frozen? ⟨g2, 2, none⟩ = false := by simp [World.frozen?, By.out]
  have y3 : v.cell? ⟨g2, 3, none⟩ = some (.int .u32 0) := by simp [World.cell?, By.out]
  have zy3 : v.frozen? ⟨g2, 3, none⟩ = false := by simp [World.frozen?, By.out]
  have y4 : v.cell? ⟨g2, 4, none⟩ = some (.int .u16 0) := by simp [World.cell?, By.out]
  have zy4 : v.frozen? ⟨g2, 4, none⟩ = false := by simp [World.frozen?, By.out]
  have y5 : v.cell? ⟨g2, 5, none⟩ = some (.int .u8 0) := by simp [World.cell?, By.out]
  have zy5 : v.frozen? ⟨g2, 5, none⟩ = false := by simp [World.frozen?, By.out]
  have y6 : v.cell? ⟨g2, 6, none⟩ = some (.int .u32 0) := by simp [World.cell?, By.out]
  have zy6 : v.frozen? ⟨g2, 6, none⟩ = false := by simp [World.frozen?, By.out]
  have y7 : v.cell? ⟨g2, 7, none⟩ = some (.int .u16 0) := by simp [World.cell?, By.out]
  have zy7 : v.frozen? ⟨g2, 7, none⟩ = false := by simp [World.frozen?, By.out]
  have y8 : v.cell? ⟨g2, 8, none⟩ = some (.int .u32 0) := by simp [World.cell?, By.out]
  have zy8 : v.frozen? ⟨g2, 8, none⟩ = false := by simp [World.frozen?, By.out]
  have y9 : v.cell? ⟨g2, 9, none⟩ = some (.int .u16 0) := by simp [World.cell?, By.out]
  have zy9 : v.frozen? ⟨g2, 9, none⟩ = false := by simp [World.frozen?, By.out]
  have y10 : v.cell? ⟨g2, 10, none⟩ = some (.int .i64 0) := by simp [World.cell?, By.out]
  have zy10 : v.frozen? ⟨g2, 10, none⟩ = false := by simp [World.frozen?, By.out]
  have y11 : v.cell? ⟨g2, 11, none⟩ = some (.int .i64 0) := by simp [World.cell?, By.out]
  have zy11 : v.frozen? ⟨g2, 11, none⟩ = false := by simp [World.frozen?, By.out]
  have y12 : v.cell? ⟨g2, 12, none⟩ = some (.slice none 0 0) := by simp [World.cell?, By.out]
  have zy12 : v.frozen? ⟨g2, 12, none⟩ = false := by simp [World.frozen?, By.out]

  have Hg := Lib.hid hg
  have Hg2 := Lib.hid hg'
  clear Bc hg hg' hg1 hg2 hle
  have Hs := Lib.hid (And.intro hge1 hge2)
  have Hs2 := Lib.hid (And.intro hb1 hb2)
  have Hwb := Lib.hid hwb
  clear hge1 hge2 hb1 hb2 hwb hB' hs0 hw1
  rw [← Hg.out]
  go_wp2_with fail
  obtain ⟨W, hW, hb2, hf2⟩ := set13 (v.setCell ⟨g, 12, none⟩ (.slice (some ⟨b', 0, none⟩) n c')) g2 31 (.int .u8 0) (.int .u32 0) (.int .u16 0) (.int .u32 0) (.int .u16 0) (.int .u8 0) (.int .u32 0) (.int .u16 0) (.int .u32 0) (.int .u16 0) (.int .i64 0) (.int .i64 0) (.slice none 0 0) ((heap_set_other v g g2 12 _ hne).trans By.out) (.int .u8 r) (.int .u32 a) (.int .u16 p) (.int .u32 b) (.int .u16 q) (.int .u8 r2) (.int .u32 a2) (.int .u16 p2) (.int .u32 b2) (.int .u16 q2) (.int .i64 st) (.int .i64 dl) ((.slice (some ⟨b', 0, none⟩) n c'))
  rw [← hW]
  have Hf2 := Lib.hid hf2
  clear hW hf2 c0 zc0 y0 zy0 c1 zc1 y1 zy1 c2 zc2 y2 zy2 c3 zc3 y3 zy3 c4 zc4 y4 zy4 c5 zc5 y5 zy5 c6 zc6 y6 zy6 c7 zc7 y7 zy7 c8 zc8 y8 zy8 c9 zc9 y9 zy9 c10 zc10 y10 zy10 c11 zc11 y11 zy11 c12 zc12 y12 zy12
  have y0 : W.cell? ⟨g2, 0, none⟩ = some (.int .u8 r) := by simp [World.cell?, hb2]
  have y1 : W.cell? ⟨g2, 1, none⟩ = some (.int .u32 a) := by simp [World.cell?, hb2]
  have y2 : W.cell? ⟨g2, 2, none⟩ = some (.int .u16 p) := by simp [World.cell?, hb2]
  have y3 : W.cell? ⟨g2, 3, none⟩ = some (.int .u32 b) := by simp [World.cell?, hb2]
  have y4 : W.cell? ⟨g2, 4, none⟩ = some (.int .u16 q) := by simp [World.cell?, hb2]
  have y5 : W.cell? ⟨g2, 5, none⟩ = some (.int .u8 r2) := by simp [World.cell?, hb2]
  have y6 : W.cell? ⟨g2, 6, none⟩ = some (.int .u32 a2) := by simp [World.cell?, hb2]
  have y7 : W.cell? ⟨g2, 7, none⟩ = some (.int .u16 p2) := by simp [World.cell?, hb2]
  have y8 : W.cell? ⟨g2, 8, none⟩ = some (.int .u32 b2) := by simp [World.cell?, hb2]
  have y9 : W.cell? ⟨g2, 9, none⟩ = some (.int .u16 q2) := by simp [World.cell?, hb2]
  have y10 : W.cell? ⟨g2, 10, none⟩ = some (.int .i64 st) := by simp [World.cell?, hb2]
  have y11 : W.cell? ⟨g2, 11, none⟩ = some (.int .i64 dl) := by simp [World.cell?, hb2]
  have y12 : W.cell? ⟨g2, 12, none⟩ = some ((.slice (some ⟨b', 0, none⟩) n c')) := by simp [World.cell?, hb2]

  refine bodyPost_ret (v := .agg #[.int .u8 r, .int .u32 a, .int .u16 p, .int .u32 b, .int .u16 q, .int .u8 r2, .int .u32 a2, .int .u16 p2, .int .u32 b2, .int .u16 q2, .int .i64 st, .int .i64 dl, (.slice (some ⟨b', 0, none⟩) n c')]) (by simp only [results, Tryz.results35]; go_simp) rfl ⟨b', c', rfl, Hc2.out, Hwb.out, ?_, ?_⟩
  · have h1 := Hh2.out.set (p := ⟨g, 12, none⟩) Hs2.out.1 (.slice (some ⟨b', 0, none⟩) n c')
    exact ⟨h1.len, fun j x hj => (Hf2.out.cell (p := ⟨b', 0 + j, none⟩) h1.lt (fun e => Hs2.out.2 e.symm)).trans (h1.cell j x hj), h1.one, Nat.lt_of_lt_of_le h1.lt Hf2.out.size⟩
  · exact (Fp.setCell Hn.out (p := ⟨g, 12, none⟩) (Or.inl Hs.out.1) _).trans Hf2.out (fun i hi e => by have := Hs.out.2; omega)
end Go.Proofs.YtdmbjndhdldggaaGreatDoor
