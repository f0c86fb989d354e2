/- Chapter 18: slices.Clone of holds, own, Next, Touch (written by genef.py). · Chapter 18: stores of whole structs; own (written by genef.py). · Chapter 18: Next, Touch (written by genef.py). · Chapter 18: strings.Join of a row of texts; tuples.Text (written by genent.py). · Chapter 18: entries.Text (written by genetext.py). -/
import Derived.Test.YtaiimkcmgiceeaaDoorEnD
import Derived.Test.YtaiimkcmgiceeaaDoorSees
namespace Go.Proofs.YtaiimkcmgiceeaaDoor
set_option linter.unusedVariables false
set_option linter.unusedSimpArgs false
open Go.RowKit Go.Lib Go.Sort

def holdZ : Value := .agg #[.int .u32 0, .int .u16 0, .int .u32 0, .int .u16 0]
theorem infoHold : ∃ i, Tryd.prog.info? 49 = some i ∧ i.zero = some holdZ ∧ i.size = 4 ∧ i.bytes ≤ 65536 := by
  have h : ((Tryd.prog.info? 49).map fun i => (i.zero, i.size, decide (i.bytes ≤ 65536))) = some (some holdZ, 4, true) := by kernel_rfl
  rcases hi : Tryd.prog.info? 49 with _ | i
  · simp [hi] at h
  · simp [hi] at h
    exact ⟨i, rfl, h.1, h.2.1, h.2.2⟩

/-- A slice of holds, as it stands in memory. -/
structure Holds (w : World) (b o n : Nat) (ys : List Value) : Prop where
  len : ys.length = n * 4
  cell : ∀ j x, ys[j]? = some x → w.cell? ⟨b, o + j, none⟩ = some x
  one : ∀ x ∈ ys, x.oneCell' = true
  lt : b < w.heap.size
theorem Holds.low {w w' : World} {b o n : Nat} {ys : List Value} (h : Holds w b o n ys) (hf : NoW w w') : Holds w' b o n ys :=
  ⟨h.len, fun j x hj => (hf.cell (p := ⟨b, o + j, none⟩) h.lt id).trans (h.cell j x hj), h.one, Nat.lt_of_lt_of_le h.lt hf.size⟩
theorem Holds.set {w : World} {b o n : Nat} {ys : List Value} (h : Holds w b o n ys) {p : Addr} (hp : p.block ≠ b) (v : Value) : Holds (w.setCell p v) b o n ys :=
  ⟨h.len, fun j x hj => (World.cell?_setCell_other _ _ _ _ (fun e => hp (by rw [e]))).trans (h.cell j x hj), h.one, by simpa [World.setCell] using h.lt⟩
theorem holds_of_own {w : World} {B n : Nat} {v : Value} {ys : List Value} (h : w.ownsRow B 49 4 v n ys) (h1 : ∀ x ∈ ys, x.oneCell' = true) (hn : v ≠ .slice none 0 0) :
    ∃ b c, v = .slice (some ⟨b, 0, none⟩) n c ∧ n ≤ c ∧ B ≤ b ∧ Holds w b 0 n ys := by
  have hc := h
  obtain ⟨hl, h2⟩ := h
  rcases h2 with ⟨rfl, _⟩ | ⟨g, cap, cur, rfl, hB, hg, hcap, _⟩
  · exact absurd rfl hn
  · refine ⟨g, cap, rfl, hcap, hB, hl, fun j x hj => ?_, h1, (Array.getElem?_eq_some_iff.1 hg).1⟩
    have := World.ownsRow.cells hc rfl j x hj
    rw [add_eq] at this
    simpa using this

/-- No cell of a block is frozen. -/
def Frz (w : World) (b : Nat) : Prop := ∀ o, w.frozen? ⟨b, o, none⟩ = false
theorem Frz.low {w w' : World} {b : Nat} {S : Nat → Prop} (h : Frz w b) (hl : b < w.heap.size) (hp : Fp S w w') (hn : ¬ S b) : Frz w' b := fun o => (hp.frozen (p := ⟨b, o, none⟩) hl hn).trans (h o)
theorem frz_of_own {w : World} {B n T : Nat} {g c : Nat} {ys : List Value} (h : w.ownsRow B T 4 (.slice (some ⟨g, 0, none⟩) n c) n ys) : Frz w g := fun o => by
  rcases h.2 with ⟨e, _⟩ | ⟨g', cap, cur, e, _, hg, _⟩
  · cases e
  · injection e with e1
    injection e1 with e1
    injection e1 with e1
    subst e1
    simp [World.frozen?, hg]

set_option maxHeartbeats 2000000 in
theorem clone_okZ (b o n c : Nat) (ys : List Value) (hn : n ≤ 100) (w : World) (hh : Holds w b o n ys) :
    Calls Tryd.prog 43 #[.slice (some ⟨b, o, none⟩) n c] w fun e w' => ∃ b' c', e = .returned (.slice (some ⟨b', 0, none⟩) n c') ∧ n ≤ c' ∧ w.heap.size ≤ b' ∧ Holds w' b' 0 n ys ∧ NoW w w' ∧ Frz w' b' := by
  have q1 : ∀ W, (binOp .eql 30 (.slice (some ⟨b, o, none⟩) n c) (.slice none 0 0)).run Tryd.prog W = .ok (.bool false) W := fun W => Lib.run_eql_slice_nil W _ _ _ n c 0 0 Tryd.underlying30
  have hl := hh.len
  have hone := hh.one
  have Hh := Lib.hid hh
  have Hone := Lib.hid hone
  clear hh hone
  go_enter Tryd.func43, Tryd.ntmps43
  go_wp2_with (at_builtin; go_must (obtain ⟨i, hi, hz, hs4, hb⟩ := infoHold; refine wp_append_at rfl _ _ 30 rfl w.heap.size 49 i holdZ Tryd.underlying30 hi hz (by rw [hs4]; rfl) (by omega) _ 0 [] rfl ?_ ⟨b, o, none⟩ n c ys rfl (by rw [hs4]; exact hl) ?_ Hone.out ?_ ?_ (by simp) ?_))
  · rw [hs4]
    exact World.ownsRow_made w #[] 0 (Nat.le_refl _) (Nat.zero_le _) rfl
  · intro j x hj
    rw [add_eq]
    exact (((Fp.refl (fun _ => False) w).alloc (.cells #[] 49)).cell (p := ⟨b, o + j, none⟩) Hh.out.lt id).trans (Hh.out.cell j x hj)
  · unfold maxLen; omega
  · have := Nat.mul_le_mul (show 0 + n ≤ 100 by omega) hb; omega
  intro v' w' hown hgrow hnil _
  have hf : NoW w w' := ((Fp.refl (fun _ => False) w).alloc (.cells #[] 49)).grown hgrow (fun k e => by simp [Value.ownBlock] at e; omega)
  obtain ⟨b', c', rfl, hc', hB', hh'⟩ := holds_of_own hown Hone.out hnil
  have hz := Lib.hid (frz_of_own hown)
  clear hown
  go_wp2_with fail
  go_ret
  exact ⟨b', c', rfl, hc', hB', hh', hf, hz.out⟩
theorem clone_ok (b o n c : Nat) (ys : List Value) (hn : n ≤ 100) (w : World) (hh : Holds w b o n ys) :
    Calls Tryd.prog 43 #[.slice (some ⟨b, o, none⟩) n c] w fun e w' => ∃ b' c', e = .returned (.slice (some ⟨b', 0, none⟩) n c') ∧ n ≤ c' ∧ w.heap.size ≤ b' ∧ Holds w' b' 0 n ys ∧ NoW w w' :=
  (clone_okZ b o n c ys hn w hh).mono fun _ _ ⟨b', c', h1, h2, h3, h4, h5, _⟩ => ⟨b', c', h1, h2, h3, h4, h5⟩
end Go.Proofs.YtaiimkcmgiceeaaDoor
namespace Go.Proofs.YtaiimkcmgiceeaaDoor
set_option linter.unusedVariables false
set_option linter.unusedSimpArgs false
open Go.RowKit Go.Lib Go.Sort
theorem heap_set_other (w : World) (g b i : Nat) (v : Value) (hne : g ≠ b) : (w.setCell ⟨g, i, none⟩ v).heap[b]? = w.heap[b]? := by
  by_cases hb : b < w.heap.size
  · exact ((Fp.refl (fun k => k = g) w).setCell (p := ⟨g, i, none⟩) (Or.inr rfl) v).block b hb (fun e => hne e.symm)
  · rw [Array.getElem?_eq_none (by simp [World.setCell] at *; omega), Array.getElem?_eq_none (by omega)]
theorem set4 (w : World) (g : Nat) (T : TypeId) (z0 z1 z2 z3 : Value) (h : w.heap[g]? = some (.cells #[z0, z1, z2, z3] T (0, 0))) (x0 x1 x2 x3 : Value) :
    ∃ W, W = ((((w.setCell ⟨g, 0, none⟩ x0).setCell ⟨g, 1, none⟩ x1).setCell ⟨g, 2, none⟩ x2).setCell ⟨g, 3, none⟩ x3) ∧ W.heap[g]? = some (.cells #[x0, x1, x2, x3] T (0, 0)) ∧ Fp (fun k => k = g) w W := by
  refine ⟨_, rfl, ?_, ?_⟩
  · have h0 := heap_set w g 0 _ T x0 h
    have h1 := heap_set _ g 1 _ T x1 h0
    have h2 := heap_set _ g 2 _ T x2 h1
    have h3 := heap_set _ g 3 _ T x3 h2
    rw [h3]; simp
  · exact (((((Fp.refl (fun k => k = g) w).setCell (p := ⟨g, 0, none⟩) (Or.inr rfl) x0).setCell (p := ⟨g, 1, none⟩) (Or.inr rfl) x1).setCell (p := ⟨g, 2, none⟩) (Or.inr rfl) x2).setCell (p := ⟨g, 3, none⟩) (Or.inr rfl) x3)
theorem set13 (w : World) (g : Nat) (T : TypeId) (z0 z1 z2 z3 z4 z5 z6 z7 z8 z9 z10 z11 z12 : Value) (h : w.heap[g]? = some (.cells #[z0, z1, z2, z3, z4, z5, z6, z7, z8, z9, z10, z11, z12] T (0, 0))) (x0 x1 x2 x3 x4 x5 x6 x7 x8 x9 x10 x11 x12 : Value) :
    ∃ W, W = (((((((((((((w.setCell ⟨g, 0, none⟩ x0).setCell ⟨g, 1, none⟩ x1).setCell ⟨g, 2, none⟩ x2).setCell ⟨g, 3, none⟩ x3).setCell ⟨g, 4, none⟩ x4).setCell ⟨g, 5, none⟩ x5).setCell ⟨g, 6, none⟩ x6).setCell ⟨g, 7, none⟩ x7).setCell ⟨g, 8, none⟩ x8).setCell ⟨g, 9, none⟩ x9).setCell ⟨g, 10, none⟩ x10).setCell ⟨g, 11, none⟩ x11).setCell ⟨g, 12, none⟩ x12) ∧ W.heap[g]? = some (.cells #[x0, x1, x2, x3, x4, x5, x6, x7, x8, x9, x10, x11, x12] T (0, 0)) ∧ Fp (fun k => k = g) w W := by
  refine ⟨_, rfl, ?_, ?_⟩
  · have h0 := heap_set w g 0 _ T x0 h
    have h1 := heap_set _ g 1 _ T x1 h0
    have h2 := heap_set _ g 2 _ T x2 h1
    have h3 := heap_set _ g 3 _ T x3 h2
    have h4 := heap_set _ g 4 _ T x4 h3
    have h5 := heap_set _ g 5 _ T x5 h4
    have h6 := heap_set _ g 6 _ T x6 h5
    have h7 := heap_set _ g 7 _ T x7 h6
    have h8 := heap_set _ g 8 _ T x8 h7
    have h9 := heap_set _ g 9 _ T x9 h8
    have h10 := heap_set _ g 10 _ T x10 h9
    have h11 := heap_set _ g 11 _ T x11 h10
    have h12 := heap_set _ g 12 _ T x12 h11
    rw [h12]; simp
  · exact ((((((((((((((Fp.refl (fun k => k = g) w).setCell (p := ⟨g, 0, none⟩) (Or.inr rfl) x0).setCell (p := ⟨g, 1, none⟩) (Or.inr rfl) x1).setCell (p := ⟨g, 2, none⟩) (Or.inr rfl) x2).setCell (p := ⟨g, 3, none⟩) (Or.inr rfl) x3).setCell (p := ⟨g, 4, none⟩) (Or.inr rfl) x4).setCell (p := ⟨g, 5, none⟩) (Or.inr rfl) x5).setCell (p := ⟨g, 6, none⟩) (Or.inr rfl) x6).setCell (p := ⟨g, 7, none⟩) (Or.inr rfl) x7).setCell (p := ⟨g, 8, none⟩) (Or.inr rfl) x8).setCell (p := ⟨g, 9, none⟩) (Or.inr rfl) x9).setCell (p := ⟨g, 10, none⟩) (Or.inr rfl) x10).setCell (p := ⟨g, 11, none⟩) (Or.inr rfl) x11).setCell (p := ⟨g, 12, none⟩) (Or.inr rfl) x12)

set_option maxHeartbeats 4000000 in
set_option maxRecDepth 100000 in
theorem own_okZ (r a p b q r2 a2 p2 b2 q2 st dl : Int) (hb ho n hc : Nat) (ys : List Value) (hn : n ≤ 100) (w : World) (hh : Holds w hb ho n ys) :
    Calls Tryd.prog 22 #[.agg #[.int .u8 r, .int .u32 a, .int .u16 p, .int .u32 b, .int .u16 q, .int .u8 r2, .int .u32 a2, .int .u16 p2, .int .u32 b2, .int .u16 q2, .int .i64 st, .int .i64 dl, (.slice (some ⟨hb, ho, none⟩) n hc)]] w fun e w' => ∃ b' c', e = .returned (.agg #[.int .u8 r, .int .u32 a, .int .u16 p, .int .u32 b, .int .u16 q, .int .u8 r2, .int .u32 a2, .int .u16 p2, .int .u32 b2, .int .u16 q2, .int .i64 st, .int .i64 dl, (.slice (some ⟨b', 0, none⟩) n c')]) ∧ n ≤ c' ∧ w.heap.size ≤ b' ∧ Holds w' b' 0 n ys ∧ NoW w w' ∧ Frz w' b' := by
  have Hh := Lib.hid hh
  clear hh
  go_enter Tryd.func22, Tryd.ntmps22
  go_wp2_with fail
  have hn0 : NoW w ((w.alloc (.cells #[.int .u8 r, .int .u32 a, .int .u16 p, .int .u32 b, .int .u16 q, .int .u8 r2, .int .u32 a2, .int .u16 p2, .int .u32 b2, .int .u16 q2, .int .i64 st, .int .i64 dl, (.slice (some ⟨hb, ho, none⟩) n hc)] 32)).alloc (.cells #[.int .u8 0, .int .u32 0, .int .u16 0, .int .u32 0, .int .u16 0, .int .u8 0, .int .u32 0, .int .u16 0, .int .u32 0, .int .u16 0, .int .i64 0, .int .i64 0, .slice none 0 0] 32)) := ((Fp.refl _ _).alloc _).alloc _
  obtain ⟨hc0, hr0⟩ := box2 w (.cells #[.int .u8 r, .int .u32 a, .int .u16 p, .int .u32 b, .int .u16 q, .int .u8 r2, .int .u32 a2, .int .u16 p2, .int .u32 b2, .int .u16 q2, .int .i64 st, .int .i64 dl, (.slice (some ⟨hb, ho, none⟩) n hc)] 32) (.cells #[.int .u8 0, .int .u32 0, .int .u16 0, .int .u32 0, .int .u16 0, .int .u8 0, .int .u32 0, .int .u16 0, .int .u32 0, .int .u16 0, .int .i64 0, .int .i64 0, .slice none 0 0] 32)
  generalize (w.alloc (.cells #[.int .u8 r, .int .u32 a, .int .u16 p, .int .u32 b, .int .u16 q, .int .u8 r2, .int .u32 a2, .int .u16 p2, .int .u32 b2, .int .u16 q2, .int .i64 st, .int .i64 dl, (.slice (some ⟨hb, ho, none⟩) n hc)] 32)).alloc (.cells #[.int .u8 0, .int .u32 0, .int .u16 0, .int .u32 0, .int .u16 0, .int .u8 0, .int .u32 0, .int .u16 0, .int .u32 0, .int .u16 0, .int .i64 0, .int .i64 0, .slice none 0 0] 32) = w0 at *
  have hle : w.heap.size < w0.heap.size := (Array.getElem?_eq_some_iff.1 hc0).1
  have hg1 : w.heap.size ≤ w.heap.size := Nat.le_refl _
  have hg2 : w.heap.size ≤ w.heap.size + 1 := Nat.le_succ _
  refine (clone_okZ hb ho n hc ys hn w0 (Hh.out.low hn0)).mono ?_
  rintro e v ⟨b', c', rfl, hc', hB', hh', hp, hz⟩
  have Hz := Lib.hid hz
  clear hz
  have hs0 : w0.heap.size ≤ b' := hB'
  have hw1 : w.heap.size + 1 < w0.heap.size := (Array.getElem?_eq_some_iff.1 hr0).1
  have hbc := (hp.block _ (Array.getElem?_eq_some_iff.1 hc0).1 id).trans hc0
  have hbr := (hp.block _ (Array.getElem?_eq_some_iff.1 hr0).1 id).trans hr0
  have Bc := Lib.hid hbc
  have By := Lib.hid hbr
  have Hn := Lib.hid (hn0.trans hp (fun _ _ h => h))
  have Hh2 := Lib.hid hh'
  have Hc2 := Lib.hid hc'
  clear hn0 hc0 hr0 hp hbc hbr hh' hc'
  obtain ⟨g, hg⟩ : ∃ g, g = w.heap.size := ⟨_, rfl⟩
  obtain ⟨g2, hg'⟩ : ∃ g2, g2 = w.heap.size + 1 := ⟨_, rfl⟩
  rw [← hg'] at By ⊢
  rw [← hg] at Bc
  have hne : ¬ g = g2 := by omega
  have hne2 : ¬ g2 = g := by omega
  have hb1 : g ≠ b' := by omega
  have hb2 : g2 ≠ b' := by omega
  have hge1 : w.heap.size ≤ g := by omega
  have hge2 : w.heap.size ≤ g2 := by omega
  have hwb : w.heap.size ≤ b' := by omega
  have c0 : v.cell? ⟨g, 0, none⟩ = some (.int .u8 r) := by simp [World.cell?, Bc.out]
  have zc0 : v.frozen? ⟨g, 0, none⟩ = false := by simp [World.frozen?, Bc.out]
  have c1 : v.cell? ⟨g, 1, none⟩ = some (.int .u32 a) := by simp [World.cell?, Bc.out]
  have zc1 : v.frozen? ⟨g, 1, none⟩ = false := by simp [World.frozen?, Bc.out]
  have c2 : v.cell? ⟨g, 2, none⟩ = some (.int .u16 p) := by simp [World.cell?, Bc.out]
  have zc2 : v.frozen? ⟨g, 2, none⟩ = false := by simp [World.frozen?, Bc.out]
  have c3 : v.cell? ⟨g, 3, none⟩ = some (.int .u32 b) := by simp [World.cell?, Bc.out]
  have zc3 : v.frozen? ⟨g, 3, none⟩ = false := by simp [World.frozen?, Bc.out]
  have c4 : v.cell? ⟨g, 4, none⟩ = some (.int .u16 q) := by simp [World.cell?, Bc.out]
  have zc4 : v.frozen? ⟨g, 4, none⟩ = false := by simp [World.frozen?, Bc.out]
  have c5 : v.cell? ⟨g, 5, none⟩ = some (.int .u8 r2) := by simp [World.cell?, Bc.out]
  have zc5 : v.frozen? ⟨g, 5, none⟩ = false := by simp [World.frozen?, Bc.out]
  have c6 : v.cell? ⟨g, 6, none⟩ = some (.int .u32 a2) := by simp [World.cell?, Bc.out]
  have zc6 : v.frozen? ⟨g, 6, none⟩ = false := by simp [World.frozen?, Bc.out]
  have c7 : v.cell? ⟨g, 7, none⟩ = some (.int .u16 p2) := by simp [World.cell?, Bc.out]
  have zc7 : v.frozen? ⟨g, 7, none⟩ = false := by simp [World.frozen?, Bc.out]
  have c8 : v.cell? ⟨g, 8, none⟩ = some (.int .u32 b2) := by simp [World.cell?, Bc.out]
  have zc8 : v.frozen? ⟨g, 8, none⟩ = false := by simp [World.frozen?, Bc.out]
  have c9 : v.cell? ⟨g, 9, none⟩ = some (.int .u16 q2) := by simp [World.cell?, Bc.out]
  have zc9 : v.frozen? ⟨g, 9, none⟩ = false := by simp [World.frozen?, Bc.out]
  have c10 : v.cell? ⟨g, 10, none⟩ = some (.int .i64 st) := by simp [World.cell?, Bc.out]
  have zc10 : v.frozen? ⟨g, 10, none⟩ = false := by simp [World.frozen?, Bc.out]
  have c11 : v.cell? ⟨g, 11, none⟩ = some (.int .i64 dl) := by simp [World.cell?, Bc.out]
  have zc11 : v.frozen? ⟨g, 11, none⟩ = false := by simp [World.frozen?, Bc.out]
  have c12 : v.cell? ⟨g, 12, none⟩ = some ((.slice (some ⟨hb, ho, none⟩) n hc)) := by simp [World.cell?, Bc.out]
  have zc12 : v.frozen? ⟨g, 12, none⟩ = false := by simp [World.frozen?, Bc.out]
  have y0 : v.cell? ⟨g2, 0, none⟩ = some (.int .u8 0) := by simp [World.cell?, By.out]
  have zy0 : v.frozen? ⟨g2, 0, none⟩ = false := by simp [World.frozen?, By.out]
  have y1 : v.cell? ⟨g2, 1, none⟩ = some (.int .u32 0) := by simp [World.cell?, By.out]
  have zy1 : v.frozen? ⟨g2, 1, none⟩ = false := by simp [World.frozen?, By.out]
  have y2 : v.cell? ⟨g2, 2, none⟩ = some (.int .u16 0) := by simp [World.cell?, By.out]
  have zy2 : v.frozen? ⟨g2, 2, none⟩ = false := by simp [World.frozen?, By.out]
  have y3 : v.cell? ⟨g2, 3, none⟩ = some (.int .u32 0) := by simp [World.cell?, By.out]
  have zy3 : v.frozen? ⟨g2, 3, none⟩ = false := by simp [World.frozen?, By.out]
  have y4 : v.cell? ⟨g2, 4, none⟩ = some (.int .u16 0) := by simp [World.cell?, By.out]
  have zy4 : v.frozen? ⟨g2, 4, none⟩ = false := by simp [World.frozen?, By.out]
  have y5 : v.cell? ⟨g2, 5, none⟩ = some (.int .u8 0) := by simp [World.cell?, By.out]
  have zy5 : v.frozen? ⟨g2, 5, none⟩ = false := by simp [World.frozen?, By.out]
  have y6 : v.cell? ⟨g2, 6, none⟩ = some (.int .u32 0) := by simp [World.cell?, By.out]
  have zy6 : v.frozen? ⟨g2, 6, none⟩ = false := by simp [World.frozen?, By.out]
  have y7 : v.cell? ⟨g2, 7, none⟩ = some (.int .u16 0) := by simp [World.cell?, By.out]
  have zy7 : v.frozen? ⟨g2, 7, none⟩ = false := by simp [World.frozen?, By.out]
  have y8 : v.cell? ⟨g2, 8, none⟩ = some (.int .u32 0) := by simp [World.cell?, By.out]
  have zy8 : v.frozen? ⟨g2, 8, none⟩ = false := by simp [World.frozen?, By.out]
  have y9 : v.cell? ⟨g2, 9, none⟩ = some (.int .u16 0) := by simp [World.cell?, By.out]
  have zy9 : v.frozen? ⟨g2, 9, none⟩ = false := by simp [World.frozen?, By.out]
  have y10 : v.cell? ⟨g2, 10, none⟩ = some (.int .i64 0) := by simp [World.cell?, By.out]
  have zy10 : v.frozen? ⟨g2, 10, none⟩ = false := by simp [World.frozen?, By.out]
  have y11 : v.cell? ⟨g2, 11, none⟩ = some (.int .i64 0) := by simp [World.cell?, By.out]
  have zy11 : v.frozen? ⟨g2, 11, none⟩ = false := by simp [World.frozen?, By.out]
  have y12 : v.cell? ⟨g2, 12, none⟩ = some (.slice none 0 0) := by simp [World.cell?, By.out]
  have zy12 : v.frozen? ⟨g2, 12, none⟩ = false := by simp [World.frozen?, By.out]

  have Hg := Lib.hid hg
  have Hg2 := Lib.hid hg'
  clear Bc hg hg' hg1 hg2 hle
  have Hs := Lib.hid (And.intro hge1 hge2)
  have Hs2 := Lib.hid (And.intro hb1 hb2)
  have Hwb := Lib.hid hwb
  clear hge1 hge2 hb1 hb2 hwb hB' hs0 hw1
  rw [← Hg.out]
  go_wp2_with fail
  obtain ⟨W, hW, hb2, hf2⟩ := set13 (v.setCell ⟨g, 12, none⟩ (.slice (some ⟨b', 0, none⟩) n c')) g2 32 (.int .u8 0) (.int .u32 0) (.int .u16 0) (.int .u32 0) (.int .u16 0) (.int .u8 0) (.int .u32 0) (.int .u16 0) (.int .u32 0) (.int .u16 0) (.int .i64 0) (.int .i64 0) (.slice none 0 0) ((heap_set_other v g g2 12 _ hne).trans By.out) (.int .u8 r) (.int .u32 a) (.int .u16 p) (.int .u32 b) (.int .u16 q) (.int .u8 r2) (.int .u32 a2) (.int .u16 p2) (.int .u32 b2) (.int .u16 q2) (.int .i64 st) (.int .i64 dl) ((.slice (some ⟨b', 0, none⟩) n c'))
  rw [← hW]
  have Hf2 := Lib.hid hf2
  clear hW hf2 c0 zc0 y0 zy0 c1 zc1 y1 zy1 c2 zc2 y2 zy2 c3 zc3 y3 zy3 c4 zc4 y4 zy4 c5 zc5 y5 zy5 c6 zc6 y6 zy6 c7 zc7 y7 zy7 c8 zc8 y8 zy8 c9 zc9 y9 zy9 c10 zc10 y10 zy10 c11 zc11 y11 zy11 c12 zc12 y12 zy12
  have y0 : W.cell? ⟨g2, 0, none⟩ = some (.int .u8 r) := by simp [World.cell?, hb2]
  have y1 : W.cell? ⟨g2, 1, none⟩ = some (.int .u32 a) := by simp [World.cell?, hb2]
  have y2 : W.cell? ⟨g2, 2, none⟩ = some (.int .u16 p) := by simp [World.cell?, hb2]
  have y3 : W.cell? ⟨g2, 3, none⟩ = some (.int .u32 b) := by simp [World.cell?, hb2]
  have y4 : W.cell? ⟨g2, 4, none⟩ = some (.int .u16 q) := by simp [World.cell?, hb2]
  have y5 : W.cell? ⟨g2, 5, none⟩ = some (.int .u8 r2) := by simp [World.cell?, hb2]
  have y6 : W.cell? ⟨g2, 6, none⟩ = some (.int .u32 a2) := by simp [World.cell?, hb2]
  have y7 : W.cell? ⟨g2, 7, none⟩ = some (.int .u16 p2) := by simp [World.cell?, hb2]
  have y8 : W.cell? ⟨g2, 8, none⟩ = some (.int .u32 b2) := by simp [World.cell?, hb2]
  have y9 : W.cell? ⟨g2, 9, none⟩ = some (.int .u16 q2) := by simp [World.cell?, hb2]
  have y10 : W.cell? ⟨g2, 10, none⟩ = some (.int .i64 st) := by simp [World.cell?, hb2]
  have y11 : W.cell? ⟨g2, 11, none⟩ = some (.int .i64 dl) := by simp [World.cell?, hb2]
  have y12 : W.cell? ⟨g2, 12, none⟩ = some ((.slice (some ⟨b', 0, none⟩) n c')) := by simp [World.cell?, hb2]

  refine bodyPost_ret (v := .agg #[.int .u8 r, .int .u32 a, .int .u16 p, .int .u32 b, .int .u16 q, .int .u8 r2, .int .u32 a2, .int .u16 p2, .int .u32 b2, .int .u16 q2, .int .i64 st, .int .i64 dl, (.slice (some ⟨b', 0, none⟩) n c')]) (by simp only [results, Tryd.results22]; go_simp) rfl ⟨b', c', rfl, Hc2.out, Hwb.out, ?_, ?_, ?_⟩
  · have h1 := Hh2.out.set (p := ⟨g, 12, none⟩) Hs2.out.1 (.slice (some ⟨b', 0, none⟩) n c')
    exact ⟨h1.len, fun j x hj => (Hf2.out.cell (p := ⟨b', 0 + j, none⟩) h1.lt (fun e => Hs2.out.2 e.symm)).trans (h1.cell j x hj), h1.one, Nat.lt_of_lt_of_le h1.lt Hf2.out.size⟩
  · exact (Fp.setCell Hn.out (p := ⟨g, 12, none⟩) (Or.inl Hs.out.1) _).trans Hf2.out (fun i hi e => by have := Hs.out.2; omega)
  · exact fun o => ((Hf2.out.frozen (p := ⟨b', o, none⟩) (by have := Hh2.out.lt; simpa [World.setCell] using this) (fun e => Hs2.out.2 e.symm)).trans (World.frozen?_of_block (heap_set_other v g b' 12 _ Hs2.out.1))).trans (Hz.out o)
theorem own_ok (r a p b q r2 a2 p2 b2 q2 st dl : Int) (hb ho n hc : Nat) (ys : List Value) (hn : n ≤ 100) (w : World) (hh : Holds w hb ho n ys) :
    Calls Tryd.prog 22 #[.agg #[.int .u8 r, .int .u32 a, .int .u16 p, .int .u32 b, .int .u16 q, .int .u8 r2, .int .u32 a2, .int .u16 p2, .int .u32 b2, .int .u16 q2, .int .i64 st, .int .i64 dl, (.slice (some ⟨hb, ho, none⟩) n hc)]] w fun e w' => ∃ b' c', e = .returned (.agg #[.int .u8 r, .int .u32 a, .int .u16 p, .int .u32 b, .int .u16 q, .int .u8 r2, .int .u32 a2, .int .u16 p2, .int .u32 b2, .int .u16 q2, .int .i64 st, .int .i64 dl, (.slice (some ⟨b', 0, none⟩) n c')]) ∧ n ≤ c' ∧ w.heap.size ≤ b' ∧ Holds w' b' 0 n ys ∧ NoW w w' :=
  (own_okZ r a p b q r2 a2 p2 b2 q2 st dl hb ho n hc ys hn w hh).mono fun _ _ ⟨b', c', h1, h2, h3, h4, h5, _⟩ => ⟨b', c', h1, h2, h3, h4, h5⟩
end Go.Proofs.YtaiimkcmgiceeaaDoor
namespace Go.Proofs.YtaiimkcmgiceeaaDoor
set_option linter.unusedVariables false
set_option linter.unusedSimpArgs false
open Go.RowKit Go.Lib Go.Sort

set_option maxHeartbeats 1000000 in
theorem next_ok (f : Nat) (hf : f < 4) (h3 : f ≠ 3) (s : Int) (bk : Bool) (fl : Int) (w : World) (ht : Tb w) :
    Calls Tryd.prog 35 #[.int .i64 f, .int .i64 s, .bool bk, .int .u8 fl] w (Ret1 (.int .i64 (if 0 < toN f s then (if bk = true then 2 else s) else 0)) w) := by
  have k := fun W hW => tmay_ok f hf s W hW
  have e3 : ((f : Int) == 3) = false := beq_eq_false_iff_ne.2 (by omega)
  have Ht := Lib.hid ht
  clear ht
  rcases hm : decide (0 < toN f s) with _ | _
  · rw [if_neg (of_decide_eq_false hm)]
    rw [hm] at k
    have K := Lib.hid k
    clear k hm
    go_enter Tryd.func35, Tryd.ntmps35
    go_wp2_with fail
    have hn : NoW w (w.alloc (.cells #[.bool bk, .int .u8 fl] 86)) := (Fp.refl _ _).alloc _
    refine (K.out _ (Ht.out.low hn)).mono ?_
    rintro e w' ⟨rfl, rfl⟩
    go_wp2_with fail
    go_ret
    exact ⟨rfl, hn⟩
  · rw [if_pos (of_decide_eq_true hm)]
    rw [hm] at k
    have K := Lib.hid k
    clear k hm
    rcases bk with _ | _
    all_goals
      go_enter Tryd.func35, Tryd.ntmps35
      go_wp2_with fail
    · have hn : NoW w (w.alloc (.cells #[.bool false, .int .u8 fl] 86)) := (Fp.refl _ _).alloc _
      refine (K.out _ (Ht.out.low hn)).mono ?_
      rintro e w' ⟨rfl, rfl⟩
      go_wp2_with fail
      go_ret
      exact ⟨rfl, hn⟩
    · have hn : NoW w (w.alloc (.cells #[.bool true, .int .u8 fl] 86)) := (Fp.refl _ _).alloc _
      refine (K.out _ (Ht.out.low hn)).mono ?_
      rintro e w' ⟨rfl, rfl⟩
      go_wp2_with fail
      go_ret
      exact ⟨rfl, hn⟩

set_option maxHeartbeats 4000000 in
set_option maxRecDepth 100000 in
theorem touch_core (r a p b q r2 a2 p2 b2 q2 st dl : Int) (hb ho n hc : Nat) (ys : List Value) (hn : n ≤ 100) (bk : Bool) (fl now f nx tm : Int) (w : World) (ht : Tb w) (hh : Holds w hb ho n ys)
    (hn0 : 0 ≤ now) (hn1 : now ≤ 1099511627776) (htm : IntKind.i64.wrap (now + tm) = now + tm)
    (k0 : ∀ W, Tb W → Calls Tryd.prog 19 #[.agg #[.int .u8 r, .int .u32 a, .int .u16 p, .int .u32 b, .int .u16 q, .int .u8 r2, .int .u32 a2, .int .u16 p2, .int .u32 b2, .int .u16 q2, .int .i64 st, .int .i64 dl, (.slice (some ⟨hb, ho, none⟩) n hc)]] W (Ret1 (.int .i64 0) W))
    (k1 : ∀ W, Calls Tryd.prog 27 #[.int .u8 r] W fun e w' => e = .returned (.int .i64 f) ∧ w' = W)
    (k2 : ∀ W, Tb W → Calls Tryd.prog 35 #[.int .i64 f, .int .i64 st, .bool bk, .int .u8 fl] W (Ret1 (.int .i64 nx) W))
    (k3 : ∀ W, Tb W → Calls Tryd.prog 36 #[.int .i64 f, .int .i64 nx] W fun e w' => e = .returned (.int .i64 tm) ∧ w' = W) :
    Calls Tryd.prog 18 #[.agg #[.int .u8 r, .int .u32 a, .int .u16 p, .int .u32 b, .int .u16 q, .int .u8 r2, .int .u32 a2, .int .u16 p2, .int .u32 b2, .int .u16 q2, .int .i64 st, .int .i64 dl, (.slice (some ⟨hb, ho, none⟩) n hc)], .bool bk, .int .u8 fl, .int .i64 now] w fun e w' => ∃ b' c', e = .returned (.tuple #[.agg #[.int .u8 r, .int .u32 a, .int .u16 p, .int .u32 b, .int .u16 q, .int .u8 r2, .int .u32 a2, .int .u16 p2, .int .u32 b2, .int .u16 q2, .int .i64 nx, .int .i64 (now + tm), (.slice (some ⟨b', 0, none⟩) n c')], .int .i64 0]) ∧ n ≤ c' ∧ w.heap.size ≤ b' ∧ Holds w' b' 0 n ys ∧ NoW w w' := by
  have Hh := Lib.hid hh
  have Ht := Lib.hid ht
  have K0 := Lib.hid k0
  have K1 := Lib.hid k1
  have K2 := Lib.hid k2
  have K3 := Lib.hid k3
  have kown := fun W (hW : Holds W hb ho n ys) => own_ok r a p b q r2 a2 p2 b2 q2 st dl hb ho n hc ys hn W hW
  have Kown := Lib.hid kown
  have hd0 : decide (now < 0) = false := by simpa using hn0
  have hd1 : decide (1099511627776 < now) = false := by simpa using hn1
  clear hh ht k0 k1 k2 k3 kown
  go_enter Tryd.func18, Tryd.ntmps18
  go_wp2_with fail
  have hw0 : NoW w ((w.alloc (.cells #[.int .u8 r, .int .u32 a, .int .u16 p, .int .u32 b, .int .u16 q, .int .u8 r2, .int .u32 a2, .int .u16 p2, .int .u32 b2, .int .u16 q2, .int .i64 st, .int .i64 dl, (.slice (some ⟨hb, ho, none⟩) n hc)] 32)).alloc (.cells #[.int .u8 0, .int .u32 0, .int .u16 0, .int .u32 0, .int .u16 0, .int .u8 0, .int .u32 0, .int .u16 0, .int .u32 0, .int .u16 0, .int .i64 0, .int .i64 0, .slice none 0 0] 32)) := ((Fp.refl _ _).alloc _).alloc _
  obtain ⟨hc0, hr0⟩ := box2 w (.cells #[.int .u8 r, .int .u32 a, .int .u16 p, .int .u32 b, .int .u16 q, .int .u8 r2, .int .u32 a2, .int .u16 p2, .int .u32 b2, .int .u16 q2, .int .i64 st, .int .i64 dl, (.slice (some ⟨hb, ho, none⟩) n hc)] 32) (.cells #[.int .u8 0, .int .u32 0, .int .u16 0, .int .u32 0, .int .u16 0, .int .u8 0, .int .u32 0, .int .u16 0, .int .u32 0, .int .u16 0, .int .i64 0, .int .i64 0, .slice none 0 0] 32)
  generalize (w.alloc (.cells #[.int .u8 r, .int .u32 a, .int .u16 p, .int .u32 b, .int .u16 q, .int .u8 r2, .int .u32 a2, .int .u16 p2, .int .u32 b2, .int .u16 q2, .int .i64 st, .int .i64 dl, (.slice (some ⟨hb, ho, none⟩) n hc)] 32)).alloc (.cells #[.int .u8 0, .int .u32 0, .int .u16 0, .int .u32 0, .int .u16 0, .int .u8 0, .int .u32 0, .int .u16 0, .int .u32 0, .int .u16 0, .int .i64 0, .int .i64 0, .slice none 0 0] 32) = w0 at *
  have Hg0 := Lib.hid (show w.heap.size ≤ w.heap.size ∧ w.heap.size ≤ w.heap.size + 1 from ⟨Nat.le_refl _, Nat.le_succ _⟩)
  have hlt12 : w.heap.size < w.heap.size + 1 := Nat.lt_succ_self _
  have Bc := Lib.hid hc0
  have By := Lib.hid hr0
  have Hw := Lib.hid hw0
  clear hc0 hr0 hw0
  generalize w.heap.size + 1 = g2 at *
  have Hs := Lib.hid (show ∀ W, NoW w W → w.heap.size ≤ W.heap.size from fun W h => h.size)
  obtain ⟨g, hg⟩ : ∃ g, g = w.heap.size := ⟨_, rfl⟩
  have Hg := Lib.hid hg
  rw [← hg] at hlt12 Hg0 Bc ⊢
  clear hg
  refine (K0.out _ (Ht.out.low Hw.out)).mono ?_
  rintro e v0 ⟨rfl, hp⟩
  have Hm0 := Lib.hid (Hw.out.trans hp (fun _ _ h => h))
  have hb0 := (hp.block _ (Array.getElem?_eq_some_iff.1 Bc.out).1 id).trans Bc.out
  clear Bc
  have Bc := Lib.hid hb0
  clear hb0
  have hb0 := (hp.block _ (Array.getElem?_eq_some_iff.1 By.out).1 id).trans By.out
  clear By
  have By := Lib.hid hb0
  clear hb0
  clear hp Hw
  have x0 : v0.cell? ⟨g, 0, none⟩ = some (.int .u8 r) := by simp [World.cell?, Bc.out]
  have x1 : v0.cell? ⟨g, 1, none⟩ = some (.int .u32 a) := by simp [World.cell?, Bc.out]
  have x2 : v0.cell? ⟨g, 2, none⟩ = some (.int .u16 p) := by simp [World.cell?, Bc.out]
  have x3 : v0.cell? ⟨g, 3, none⟩ = some (.int .u32 b) := by simp [World.cell?, Bc.out]
  have x4 : v0.cell? ⟨g, 4, none⟩ = some (.int .u16 q) := by simp [World.cell?, Bc.out]
  have x5 : v0.cell? ⟨g, 5, none⟩ = some (.int .u8 r2) := by simp [World.cell?, Bc.out]
  have x6 : v0.cell? ⟨g, 6, none⟩ = some (.int .u32 a2) := by simp [World.cell?, Bc.out]
  have x7 : v0.cell? ⟨g, 7, none⟩ = some (.int .u16 p2) := by simp [World.cell?, Bc.out]
  have x8 : v0.cell? ⟨g, 8, none⟩ = some (.int .u32 b2) := by simp [World.cell?, Bc.out]
  have x9 : v0.cell? ⟨g, 9, none⟩ = some (.int .u16 q2) := by simp [World.cell?, Bc.out]
  have x10 : v0.cell? ⟨g, 10, none⟩ = some (.int .i64 st) := by simp [World.cell?, Bc.out]
  have x11 : v0.cell? ⟨g, 11, none⟩ = some (.int .i64 dl) := by simp [World.cell?, Bc.out]
  have x12 : v0.cell? ⟨g, 12, none⟩ = some ((.slice (some ⟨hb, ho, none⟩) n hc)) := by simp [World.cell?, Bc.out]

  go_wp2_with fail
  clear x0 x1 x2 x3 x4 x5 x6 x7 x8 x9 x10 x11 x12

  refine (Kown.out _ (Hh.out.low Hm0.out)).mono ?_
  rintro e v1 ⟨b', c', rfl, hc', hB', hh', hp⟩
  have hgv : g2 < v0.heap.size := (Array.getElem?_eq_some_iff.1 By.out).1
  have Hm1 := Lib.hid (Hm0.out.trans hp (fun _ _ h => h))
  have hb0 := (hp.block _ (Array.getElem?_eq_some_iff.1 Bc.out).1 id).trans Bc.out
  clear Bc
  have Bc := Lib.hid hb0
  clear hb0
  have hb0 := (hp.block _ (Array.getElem?_eq_some_iff.1 By.out).1 id).trans By.out
  clear By
  have By := Lib.hid hb0
  clear hb0

  have Hh2 := Lib.hid hh'
  have Hc2 := Lib.hid hc'
  have hbg : g ≠ b' := by omega
  have hbg2 : g2 ≠ b' := by omega
  have Hbg := Lib.hid (And.intro hbg hbg2)
  have Hwb := Lib.hid (show w.heap.size ≤ b' by have := Hs.out _ Hm0.out; omega)
  have lg : g < v1.heap.size := (Array.getElem?_eq_some_iff.1 Bc.out).1
  have lg2 : g2 < v1.heap.size := (Array.getElem?_eq_some_iff.1 By.out).1
  have lb : b' < v1.heap.size := hh'.lt
  clear hp Hm0 hc' hB' hh' hbg hbg2 hgv
  have x0 : v1.cell? ⟨g, 0, none⟩ = some (.int .u8 r) := by simp [World.cell?, Bc.out]
  have x1 : v1.cell? ⟨g, 1, none⟩ = some (.int .u32 a) := by simp [World.cell?, Bc.out]
  have x2 : v1.cell? ⟨g, 2, none⟩ = some (.int .u16 p) := by simp [World.cell?, Bc.out]
  have x3 : v1.cell? ⟨g, 3, none⟩ = some (.int .u32 b) := by simp [World.cell?, Bc.out]
  have x4 : v1.cell? ⟨g, 4, none⟩ = some (.int .u16 q) := by simp [World.cell?, Bc.out]
  have x5 : v1.cell? ⟨g, 5, none⟩ = some (.int .u8 r2) := by simp [World.cell?, Bc.out]
  have x6 : v1.cell? ⟨g, 6, none⟩ = some (.int .u32 a2) := by simp [World.cell?, Bc.out]
  have x7 : v1.cell? ⟨g, 7, none⟩ = some (.int .u16 p2) := by simp [World.cell?, Bc.out]
  have x8 : v1.cell? ⟨g, 8, none⟩ = some (.int .u32 b2) := by simp [World.cell?, Bc.out]
  have x9 : v1.cell? ⟨g, 9, none⟩ = some (.int .u16 q2) := by simp [World.cell?, Bc.out]
  have x10 : v1.cell? ⟨g, 10, none⟩ = some (.int .i64 st) := by simp [World.cell?, Bc.out]
  have x11 : v1.cell? ⟨g, 11, none⟩ = some (.int .i64 dl) := by simp [World.cell?, Bc.out]
  have x12 : v1.cell? ⟨g, 12, none⟩ = some ((.slice (some ⟨hb, ho, none⟩) n hc)) := by simp [World.cell?, Bc.out]

  go_wp2_with fail
  refine (K1.out _).mono ?_
  rintro e v1' ⟨rfl, rfl⟩
  go_wp2_with fail
  have hq : NoW v1 (v1.alloc (.cells #[.int .u8 r, .int .u32 a, .int .u16 p, .int .u32 b, .int .u16 q, .int .u8 r2, .int .u32 a2, .int .u16 p2, .int .u32 b2, .int .u16 q2, .int .i64 st, .int .i64 dl, (.slice (some ⟨b', 0, none⟩) n c')] 32)) := (Fp.refl _ _).alloc _
  have Hq := Lib.hid (Hm1.out.trans hq (fun _ _ h => h))
  have hb0 := (hq.block _ (Array.getElem?_eq_some_iff.1 Bc.out).1 id).trans Bc.out
  clear Bc
  have Bc := Lib.hid hb0
  clear hb0
  have hb0 := (hq.block _ (Array.getElem?_eq_some_iff.1 By.out).1 id).trans By.out
  clear By
  have By := Lib.hid hb0
  clear hb0
  have B10 := Lib.hid (heap_alloc_new v1 (.cells #[.int .u8 r, .int .u32 a, .int .u16 p, .int .u32 b, .int .u16 q, .int .u8 r2, .int .u32 a2, .int .u16 p2, .int .u32 b2, .int .u16 q2, .int .i64 st, .int .i64 dl, (.slice (some ⟨b', 0, none⟩) n c')] 32))
  have Hh3 := Lib.hid (Hh2.out.low hq)
  clear hq Hm1 Hh2
  clear x0 x1 x2 x3 x4 x5 x6 x7 x8 x9 x10 x11 x12

  generalize v1.alloc (.cells #[.int .u8 r, .int .u32 a, .int .u16 p, .int .u32 b, .int .u16 q, .int .u8 r2, .int .u32 a2, .int .u16 p2, .int .u32 b2, .int .u16 q2, .int .i64 st, .int .i64 dl, (.slice (some ⟨b', 0, none⟩) n c')] 32) = v2 at *
  generalize v1.heap.size = g10 at *
  refine (K2.out _ (Ht.out.low Hq.out)).mono ?_
  rintro e v3 ⟨rfl, hp⟩
  have Hm3 := Lib.hid (Hq.out.trans hp (fun _ _ h => h))
  have hb0 := (hp.block _ (Array.getElem?_eq_some_iff.1 Bc.out).1 id).trans Bc.out
  clear Bc
  have Bc := Lib.hid hb0
  clear hb0
  have hb0 := (hp.block _ (Array.getElem?_eq_some_iff.1 By.out).1 id).trans By.out
  clear By
  have By := Lib.hid hb0
  clear hb0
  have hb0 := (hp.block _ (Array.getElem?_eq_some_iff.1 B10.out).1 id).trans B10.out
  clear B10
  have B10 := Lib.hid hb0
  clear hb0

  have Hh4 := Lib.hid (Hh3.out.low hp)
  clear hp Hq Hh3
  have hgw : w.heap.size ≤ g10 := by have h1 := Hg0.out.2; have h2 := Hg.out; omega
  have hg210 : ¬ g10 = g2 := by omega
  have hg102 : ¬ g2 = g10 := by omega
  have x0 : v3.cell? ⟨g10, 0, none⟩ = some (.int .u8 r) := by simp [World.cell?, B10.out]
  have zx0 : v3.frozen? ⟨g10, 0, none⟩ = false := by simp [World.frozen?, B10.out]
  have x1 : v3.cell? ⟨g10, 1, none⟩ = some (.int .u32 a) := by simp [World.cell?, B10.out]
  have zx1 : v3.frozen? ⟨g10, 1, none⟩ = false := by simp [World.frozen?, B10.out]
  have x2 : v3.cell? ⟨g10, 2, none⟩ = some (.int .u16 p) := by simp [World.cell?, B10.out]
  have zx2 : v3.frozen? ⟨g10, 2, none⟩ = false := by simp [World.frozen?, B10.out]
  have x3 : v3.cell? ⟨g10, 3, none⟩ = some (.int .u32 b) := by simp [World.cell?, B10.out]
  have zx3 : v3.frozen? ⟨g10, 3, none⟩ = false := by simp [World.frozen?, B10.out]
  have x4 : v3.cell? ⟨g10, 4, none⟩ = some (.int .u16 q) := by simp [World.cell?, B10.out]
  have zx4 : v3.frozen? ⟨g10, 4, none⟩ = false := by simp [World.frozen?, B10.out]
  have x5 : v3.cell? ⟨g10, 5, none⟩ = some (.int .u8 r2) := by simp [World.cell?, B10.out]
  have zx5 : v3.frozen? ⟨g10, 5, none⟩ = false := by simp [World.frozen?, B10.out]
  have x6 : v3.cell? ⟨g10, 6, none⟩ = some (.int .u32 a2) := by simp [World.cell?, B10.out]
  have zx6 : v3.frozen? ⟨g10, 6, none⟩ = false := by simp [World.frozen?, B10.out]
  have x7 : v3.cell? ⟨g10, 7, none⟩ = some (.int .u16 p2) := by simp [World.cell?, B10.out]
  have zx7 : v3.frozen? ⟨g10, 7, none⟩ = false := by simp [World.frozen?, B10.out]
  have x8 : v3.cell? ⟨g10, 8, none⟩ = some (.int .u32 b2) := by simp [World.cell?, B10.out]
  have zx8 : v3.frozen? ⟨g10, 8, none⟩ = false := by simp [World.frozen?, B10.out]
  have x9 : v3.cell? ⟨g10, 9, none⟩ = some (.int .u16 q2) := by simp [World.cell?, B10.out]
  have zx9 : v3.frozen? ⟨g10, 9, none⟩ = false := by simp [World.frozen?, B10.out]
  have x10 : v3.cell? ⟨g10, 10, none⟩ = some (.int .i64 st) := by simp [World.cell?, B10.out]
  have zx10 : v3.frozen? ⟨g10, 10, none⟩ = false := by simp [World.frozen?, B10.out]
  have x11 : v3.cell? ⟨g10, 11, none⟩ = some (.int .i64 dl) := by simp [World.cell?, B10.out]
  have zx11 : v3.frozen? ⟨g10, 11, none⟩ = false := by simp [World.frozen?, B10.out]
  have x12 : v3.cell? ⟨g10, 12, none⟩ = some ((.slice (some ⟨b', 0, none⟩) n c')) := by simp [World.cell?, B10.out]
  have zx12 : v3.frozen? ⟨g10, 12, none⟩ = false := by simp [World.frozen?, B10.out]

  go_wp2_with fail
  clear x0 zx0 x1 zx1 x2 zx2 x3 zx3 x4 zx4 x5 zx5 x6 zx6 x7 zx7 x8 zx8 x9 zx9 x10 zx10 x11 zx11 x12 zx12

  have hb := heap_set v3 g10 10 _ _ (.int .i64 nx) B10.out
  have hby := (heap_set_other v3 g10 g2 10 (.int .i64 nx) hg210).trans By.out
  have hhs := Hh4.out.set (p := ⟨g10, 10, none⟩) (show g10 ≠ b' by omega) (.int .i64 nx)
  have hnw := Hm3.out.setCell (p := ⟨g10, 10, none⟩) (Or.inl hgw) (.int .i64 nx)
  generalize v3.setCell ⟨g10, 10, none⟩ (.int .i64 nx) = v4 at *
  simp only [List.setIfInBounds_toArray, List.set_cons_zero, List.set_cons_succ] at hb
  clear B10 By Hm3 Hh4
  have B10 := Lib.hid hb
  have By := Lib.hid hby
  have Hm4 := Lib.hid hnw
  have Hh4 := Lib.hid hhs
  clear hb hby hnw hhs
  refine (K3.out _ (Ht.out.low Hm4.out)).mono ?_
  rintro e v4' ⟨rfl, rfl⟩
  have x0 : v4'.cell? ⟨g10, 0, none⟩ = some (.int .u8 r) := by simp [World.cell?, B10.out]
  have zx0 : v4'.frozen? ⟨g10, 0, none⟩ = false := by simp [World.frozen?, B10.out]
  have x1 : v4'.cell? ⟨g10, 1, none⟩ = some (.int .u32 a) := by simp [World.cell?, B10.out]
  have zx1 : v4'.frozen? ⟨g10, 1, none⟩ = false := by simp [World.frozen?, B10.out]
  have x2 : v4'.cell? ⟨g10, 2, none⟩ = some (.int .u16 p) := by simp [World.cell?, B10.out]
  have zx2 : v4'.frozen? ⟨g10, 2, none⟩ = false := by simp [World.frozen?, B10.out]
  have x3 : v4'.cell? ⟨g10, 3, none⟩ = some (.int .u32 b) := by simp [World.cell?, B10.out]
  have zx3 : v4'.frozen? ⟨g10, 3, none⟩ = false := by simp [World.frozen?, B10.out]
  have x4 : v4'.cell? ⟨g10, 4, none⟩ = some (.int .u16 q) := by simp [World.cell?, B10.out]
  have zx4 : v4'.frozen? ⟨g10, 4, none⟩ = false := by simp [World.frozen?, B10.out]
  have x5 : v4'.cell? ⟨g10, 5, none⟩ = some (.int .u8 r2) := by simp [World.cell?, B10.out]
  have zx5 : v4'.frozen? ⟨g10, 5, none⟩ = false := by simp [World.frozen?, B10.out]
  have x6 : v4'.cell? ⟨g10, 6, none⟩ = some (.int .u32 a2) := by simp [World.cell?, B10.out]
  have zx6 : v4'.frozen? ⟨g10, 6, none⟩ = false := by simp [World.frozen?, B10.out]
  have x7 : v4'.cell? ⟨g10, 7, none⟩ = some (.int .u16 p2) := by simp [World.cell?, B10.out]
  have zx7 : v4'.frozen? ⟨g10, 7, none⟩ = false := by simp [World.frozen?, B10.out]
  have x8 : v4'.cell? ⟨g10, 8, none⟩ = some (.int .u32 b2) := by simp [World.cell?, B10.out]
  have zx8 : v4'.frozen? ⟨g10, 8, none⟩ = false := by simp [World.frozen?, B10.out]
  have x9 : v4'.cell? ⟨g10, 9, none⟩ = some (.int .u16 q2) := by simp [World.cell?, B10.out]
  have zx9 : v4'.frozen? ⟨g10, 9, none⟩ = false := by simp [World.frozen?, B10.out]
  have x10 : v4'.cell? ⟨g10, 10, none⟩ = some (.int .i64 nx) := by simp [World.cell?, B10.out]
  have zx10 : v4'.frozen? ⟨g10, 10, none⟩ = false := by simp [World.frozen?, B10.out]
  have x11 : v4'.cell? ⟨g10, 11, none⟩ = some (.int .i64 dl) := by simp [World.cell?, B10.out]
  have zx11 : v4'.frozen? ⟨g10, 11, none⟩ = false := by simp [World.frozen?, B10.out]
  have x12 : v4'.cell? ⟨g10, 12, none⟩ = some ((.slice (some ⟨b', 0, none⟩) n c')) := by simp [World.cell?, B10.out]
  have zx12 : v4'.frozen? ⟨g10, 12, none⟩ = false := by simp [World.frozen?, B10.out]
  have y0 : v4'.cell? ⟨g2, 0, none⟩ = some (.int .u8 0) := by simp [World.cell?, By.out]
  have zy0 : v4'.frozen? ⟨g2, 0, none⟩ = false := by simp [World.frozen?, By.out]
  have y1 : v4'.cell? ⟨g2, 1, none⟩ = some (.int .u32 0) := by simp [World.cell?, By.out]
  have zy1 : v4'.frozen? ⟨g2, 1, none⟩ = false := by simp [World.frozen?, By.out]
  have y2 : v4'.cell? ⟨g2, 2, none⟩ = some (.int .u16 0) := by simp [World.cell?, By.out]
  have zy2 : v4'.frozen? ⟨g2, 2, none⟩ = false := by simp [World.frozen?, By.out]
  have y3 : v4'.cell? ⟨g2, 3, none⟩ = some (.int .u32 0) := by simp [World.cell?, By.out]
  have zy3 : v4'.frozen? ⟨g2, 3, none⟩ = false := by simp [World.frozen?, By.out]
  have y4 : v4'.cell? ⟨g2, 4, none⟩ = some (.int .u16 0) := by simp [World.cell?, By.out]
  have zy4 : v4'.frozen? ⟨g2, 4, none⟩ = false := by simp [World.frozen?, By.out]
  have y5 : v4'.cell? ⟨g2, 5, none⟩ = some (.int .u8 0) := by simp [World.cell?, By.out]
  have zy5 : v4'.frozen? ⟨g2, 5, none⟩ = false := by simp [World.frozen?, By.out]
  have y6 : v4'.cell? ⟨g2, 6, none⟩ = some (.int .u32 0) := by simp [World.cell?, By.out]
  have zy6 : v4'.frozen? ⟨g2, 6, none⟩ = false := by simp [World.frozen?, By.out]
  have y7 : v4'.cell? ⟨g2, 7, none⟩ = some (.int .u16 0) := by simp [World.cell?, By.out]
  have zy7 : v4'.frozen? ⟨g2, 7, none⟩ = false := by simp [World.frozen?, By.out]
  have y8 : v4'.cell? ⟨g2, 8, none⟩ = some (.int .u32 0) := by simp [World.cell?, By.out]
  have zy8 : v4'.frozen? ⟨g2, 8, none⟩ = false := by simp [World.frozen?, By.out]
  have y9 : v4'.cell? ⟨g2, 9, none⟩ = some (.int .u16 0) := by simp [World.cell?, By.out]
  have zy9 : v4'.frozen? ⟨g2, 9, none⟩ = false := by simp [World.frozen?, By.out]
  have y10 : v4'.cell? ⟨g2, 10, none⟩ = some (.int .i64 0) := by simp [World.cell?, By.out]
  have zy10 : v4'.frozen? ⟨g2, 10, none⟩ = false := by simp [World.frozen?, By.out]
  have y11 : v4'.cell? ⟨g2, 11, none⟩ = some (.int .i64 0) := by simp [World.cell?, By.out]
  have zy11 : v4'.frozen? ⟨g2, 11, none⟩ = false := by simp [World.frozen?, By.out]
  have y12 : v4'.cell? ⟨g2, 12, none⟩ = some (.slice none 0 0) := by simp [World.cell?, By.out]
  have zy12 : v4'.frozen? ⟨g2, 12, none⟩ = false := by simp [World.frozen?, By.out]

  go_wp2_with fail
  obtain ⟨W, hW, hb2, hf2⟩ := set13 (v4'.setCell ⟨g10, 11, none⟩ (.int .i64 (now + tm))) g2 32 (.int .u8 0) (.int .u32 0) (.int .u16 0) (.int .u32 0) (.int .u16 0) (.int .u8 0) (.int .u32 0) (.int .u16 0) (.int .u32 0) (.int .u16 0) (.int .i64 0) (.int .i64 0) (.slice none 0 0) ((heap_set_other v4' g10 g2 11 _ hg210).trans By.out) (.int .u8 r) (.int .u32 a) (.int .u16 p) (.int .u32 b) (.int .u16 q) (.int .u8 r2) (.int .u32 a2) (.int .u16 p2) (.int .u32 b2) (.int .u16 q2) (.int .i64 nx) (.int .i64 (now + tm)) ((.slice (some ⟨b', 0, none⟩) n c'))
  rw [← hW]
  have Hf2 := Lib.hid hf2
  clear hW hf2
  clear x0 zx0 x1 zx1 x2 zx2 x3 zx3 x4 zx4 x5 zx5 x6 zx6 x7 zx7 x8 zx8 x9 zx9 x10 zx10 x11 zx11 x12 zx12
  clear y0 zy0 y1 zy1 y2 zy2 y3 zy3 y4 zy4 y5 zy5 y6 zy6 y7 zy7 y8 zy8 y9 zy9 y10 zy10 y11 zy11 y12 zy12
  have y0 : W.cell? ⟨g2, 0, none⟩ = some (.int .u8 r) := by simp [World.cell?, hb2]
  have y1 : W.cell? ⟨g2, 1, none⟩ = some (.int .u32 a) := by simp [World.cell?, hb2]
  have y2 : W.cell? ⟨g2, 2, none⟩ = some (.int .u16 p) := by simp [World.cell?, hb2]
  have y3 : W.cell? ⟨g2, 3, none⟩ = some (.int .u32 b) := by simp [World.cell?, hb2]
  have y4 : W.cell? ⟨g2, 4, none⟩ = some (.int .u16 q) := by simp [World.cell?, hb2]
  have y5 : W.cell? ⟨g2, 5, none⟩ = some (.int .u8 r2) := by simp [World.cell?, hb2]
  have y6 : W.cell? ⟨g2, 6, none⟩ = some (.int .u32 a2) := by simp [World.cell?, hb2]
  have y7 : W.cell? ⟨g2, 7, none⟩ = some (.int .u16 p2) := by simp [World.cell?, hb2]
  have y8 : W.cell? ⟨g2, 8, none⟩ = some (.int .u32 b2) := by simp [World.cell?, hb2]
  have y9 : W.cell? ⟨g2, 9, none⟩ = some (.int .u16 q2) := by simp [World.cell?, hb2]
  have y10 : W.cell? ⟨g2, 10, none⟩ = some (.int .i64 nx) := by simp [World.cell?, hb2]
  have y11 : W.cell? ⟨g2, 11, none⟩ = some (.int .i64 (now + tm)) := by simp [World.cell?, hb2]
  have y12 : W.cell? ⟨g2, 12, none⟩ = some ((.slice (some ⟨b', 0, none⟩) n c')) := by simp [World.cell?, hb2]

  refine bodyPost_ret (v := .tuple #[.agg #[.int .u8 r, .int .u32 a, .int .u16 p, .int .u32 b, .int .u16 q, .int .u8 r2, .int .u32 a2, .int .u16 p2, .int .u32 b2, .int .u16 q2, .int .i64 nx, .int .i64 (now + tm), (.slice (some ⟨b', 0, none⟩) n c')], .int .i64 0]) (by simp only [results, Tryd.results18]; go_simp) rfl ⟨b', c', rfl, Hc2.out, Hwb.out, ?_, ?_⟩
  · have h1 := Hh4.out.set (p := ⟨g10, 11, none⟩) (show g10 ≠ b' by omega) (.int .i64 (now + tm))
    exact ⟨h1.len, fun j x hj => (Hf2.out.cell (p := ⟨b', 0 + j, none⟩) h1.lt (fun e => Hbg.out.2 e.symm)).trans (h1.cell j x hj), h1.one, Nat.lt_of_lt_of_le h1.lt Hf2.out.size⟩
  · exact (Fp.setCell Hm4.out (p := ⟨g10, 11, none⟩) (Or.inl hgw) _).trans Hf2.out (fun i hi e => by have h1 := Hg0.out.2; have h2 := Hg.out; omega)
end Go.Proofs.YtaiimkcmgiceeaaDoor
namespace Go.Proofs.YtaiimkcmgiceeaaDoor
set_option linter.unusedVariables false
set_option linter.unusedSimpArgs false
open Go.RowKit Go.Lib Go.Sort

/-- Texts with a blank between. -/
def joinB (ps : List (List UInt8)) : List UInt8 := List.intercalate [32] ps
theorem join_lenB (ps : List (List UInt8)) : ps.length ≤ (joinB ps).length + 1 := by
  induction ps with
  | nil => simp
  | cons a l ih => cases l with
    | nil => simp [joinB, List.intercalate]
    | cons b l => simp [joinB, List.intercalate] at ih ⊢; omega
theorem join_ok (g n c : Nat) (ps : List (List UInt8)) (w : World) (hc : ∀ j x, ps[j]? = some x → w.cell? ⟨g, j, none⟩ = some (str x)) (hg : g < w.heap.size) (hn : ps.length = n) (hnc : n ≤ c) (hs : (joinB ps).length ≤ 100000) :
    Calls Tryd.prog 42 #[.slice (some ⟨g, 0, none⟩) n c, .string ⟨#[32]⟩] w (Ret1 (str (joinB ps)) w) := by
  subst hn
  have e : Lib.join ((ps.map fun p => (⟨p.toArray⟩ : ByteArray)).map (·.data.toList)) (⟨#[32]⟩ : ByteArray).data.toList = joinB ps := by
    have : ((ps.map fun p => (⟨p.toArray⟩ : ByteArray)).map (·.data.toList)) = ps := by simp [Function.comp_def]
    rw [this]; rfl
  have hj := Tryd.strings_Join g 0 c (ps.map fun p => (⟨p.toArray⟩ : ByteArray)) ⟨#[32]⟩ w (fun j x hx => by
    rw [List.getElem?_map] at hx
    rcases hp : ps[j]? with _ | p
    · simp [hp] at hx
    · simp only [hp, Option.map_some, Option.some.injEq] at hx
      rw [Nat.zero_add, ← hx]
      exact hc j p hp) hg (by simp; have := join_lenB ps; omega) (by simpa using hnc) (by rw [e]; omega)
  rw [e] at hj
  simp only [List.length_map] at hj
  refine (show Calls _ _ _ _ _ from hj).mono ?_
  rintro e w2 ⟨rfl, hb2⟩
  exact ⟨rfl, Fp.of_below hb2⟩

/-- A tuple's text. -/
def tupT (k a p b q : Nat) : List UInt8 := joinB [wordOf k, withT 58 a p, withT 58 b q]
theorem wordOf_len (k : Nat) : (wordOf k).length ≤ 4 := by unfold wordOf; split <;> (try split) <;> (try split) <;> simp
theorem withT_len (a p : Nat) (ha : a < 4294967296) (hp : p < 65536) : (withT 58 a p).length ≤ 40 := by
  have hl1 := addrT_len ha
  have hl2 := dec_len 5 p (by omega) (by omega)
  simp [withT]; omega
theorem tupT_len (k a p b q : Nat) (ha : a < 4294967296) (hp : p < 65536) (hb : b < 4294967296) (hq : q < 65536) : (tupT k a p b q).length ≤ 100 := by
  have h1 := wordOf_len k
  have h2 := withT_len a p ha hp
  have h3 := withT_len b q hb hq
  simp [tupT, joinB, List.intercalate]; omega

set_option maxHeartbeats 4000000 in
theorem tup_text (k a p b q : Nat) (hk : k < 256) (ha : a < 4294967296) (hpp : p < 65536) (hb : b < 4294967296) (hq : q < 65536) (h : tupB k p q = true) (w : World) (ht : Tb w) :
    Calls Tryd.prog 39 #[.agg #[.int .u8 k, .int .u32 a, .int .u16 p, .int .u32 b, .int .u16 q]] w (Ret1 (str (tupT k a p b q)) w) := by
  have Ht := Lib.hid ht
  have kt := fun W hW => tup_ok k a p b q hk W hW
  rw [h] at kt
  have Kt := Lib.hid kt
  have P1 := Lib.hid (fun W (hW : Tb W) => point_text a ha p hpp W hW)
  have P2 := Lib.hid (fun W (hW : Tb W) => point_text b hb q hq W hW)
  have Hl := Lib.hid (show (joinB [wordOf k, withT 58 a p, withT 58 b q]).length ≤ 100000 from Nat.le_trans (tupT_len k a p b q ha hpp hb hq) (by omega))
  have Hk := Lib.hid hk
  clear ht kt h ha hpp hb hq hk
  go_enter Tryd.func39, Tryd.ntmps39
  go_wp2_with fail
  have hw0 : NoW w (w.alloc (.cells #[.int .u8 k, .int .u32 a, .int .u16 p, .int .u32 b, .int .u16 q] 29)) := (Fp.refl _ _).alloc _
  have hb0 : (w.alloc (.cells #[.int .u8 k, .int .u32 a, .int .u16 p, .int .u32 b, .int .u16 q] 29)).heap[w.heap.size]? = some (.cells #[.int .u8 k, .int .u32 a, .int .u16 p, .int .u32 b, .int .u16 q] 29) := heap_alloc_new _ _
  generalize w.alloc (.cells #[.int .u8 k, .int .u32 a, .int .u16 p, .int .u32 b, .int .u16 q] 29) = w0 at *
  generalize w.heap.size = g at *
  refine (Kt.out _ (Ht.out.low hw0)).mono ?_
  rintro e v0 ⟨rfl, hp⟩
  have hb := (hp.block _ (Array.getElem?_eq_some_iff.1 hb0).1 id).trans hb0
  have Hn := Lib.hid (hw0.trans hp (fun _ _ h => h))
  clear hp hw0 hb0
  have x0 : v0.cell? ⟨g, 0, none⟩ = some (.int .u8 k) := by simp [World.cell?, hb]
  have x1 : v0.cell? ⟨g, 1, none⟩ = some (.int .u32 a) := by simp [World.cell?, hb]
  have x2 : v0.cell? ⟨g, 2, none⟩ = some (.int .u16 p) := by simp [World.cell?, hb]
  have x3 : v0.cell? ⟨g, 3, none⟩ = some (.int .u32 b) := by simp [World.cell?, hb]
  have x4 : v0.cell? ⟨g, 4, none⟩ = some (.int .u16 q) := by simp [World.cell?, hb]

  have lg : g < v0.heap.size := cell_lt x0
  clear hb
  obtain ⟨bm, o, hm1, hm2, hm3⟩ := (Ht.out.low Hn.out).words
  have lm := cell_lt hm1
  have lm2 := (Array.getElem?_eq_some_iff.1 hm2).1
  have Hm3 := Lib.hid hm3
  clear hm3
  go_wp2_with fail
  refine wp_region_held_drew (S := fun wx => NoW v0 wx) (by kernel_rfl) (Fp.drew (Fp.refl _ _)) (fun hHeld => ?_)
  (refine take_at 0 (some 6) rfl rfl (by kernel_rfl) (by kernel_rfl) (by kernel_rfl) (fun _ _ _ h => h) (v := ?_) (by kernel_rfl) ?_ (by assumption) ?_; rotate_left; (focus (intro wS hSw; have ym := (hSw.cell (p := ⟨1, 0, none⟩) lm id).trans hm1; go_simp; try with_reducible rfl)); (try simp only [Act.put, List.setIfInBounds_toArray, List.set_cons_zero, List.set_cons_succ]))
  (refine take_at 1 (some 7) rfl rfl (by kernel_rfl) (by kernel_rfl) (by kernel_rfl) (fun _ _ _ h => h) (v := ?_) (by kernel_rfl) ?_ (by assumption) ?_; rotate_left; (focus (intro wS hSw; skip; go_simp; try with_reducible rfl)); (try simp only [Act.put, List.setIfInBounds_toArray, List.set_cons_zero, List.set_cons_succ]))
  (refine take_at 2 (some 8) rfl rfl (by kernel_rfl) (by kernel_rfl) (by kernel_rfl) (fun _ _ _ h => h) (v := ?_) (by kernel_rfl) ?_ (by assumption) ?_; rotate_left; (focus (intro wS hSw; (have y0 := (hSw.cell (p := ⟨g, 0, none⟩) lg id).trans x0); go_simp; try with_reducible rfl)); (try simp only [Act.put, List.setIfInBounds_toArray, List.set_cons_zero, List.set_cons_succ]))
  (refine take_at 3 (some 9) rfl rfl (by kernel_rfl) (by kernel_rfl) (by kernel_rfl) (fun _ _ _ h => h) (v := ?_) (by kernel_rfl) ?_ (by assumption) ?_; rotate_left; (focus (intro wS hSw; have yl := (Hm3.out wS ((hSw.block _ lm2 id).trans hm2) k Hk.out).2; go_simp; try with_reducible rfl)); (try simp only [Act.put, List.setIfInBounds_toArray, List.set_cons_zero, List.set_cons_succ]))
  (refine take_at 4 (some 10) rfl rfl (by kernel_rfl) (by kernel_rfl) (by kernel_rfl) (fun _ _ _ h => h) (v := ?_) (by kernel_rfl) ?_ (by assumption) ?_; rotate_left; (focus (intro wS hSw; skip; go_simp; try with_reducible rfl)); (try simp only [Act.put, List.setIfInBounds_toArray, List.set_cons_zero, List.set_cons_succ]))
  (refine take_at 5 (some 11) rfl rfl (by kernel_rfl) (by kernel_rfl) (by kernel_rfl) (fun _ _ _ h => h) (v := ?_) (by kernel_rfl) ?_ (by assumption) ?_; rotate_left; (focus (intro wS hSw; (have y1 := (hSw.cell (p := ⟨g, 1, none⟩) lg id).trans x1); (have y2 := (hSw.cell (p := ⟨g, 2, none⟩) lg id).trans x2); go_simp; try with_reducible rfl)); (try simp only [Act.put, List.setIfInBounds_toArray, List.set_cons_zero, List.set_cons_succ]))
  (refine take_at 7 (some 13) rfl rfl (by kernel_rfl) (by kernel_rfl) (by kernel_rfl) (fun _ _ _ h => h) (v := ?_) (by kernel_rfl) ?_ (by assumption) ?_; rotate_left; (focus (intro wS hSw; skip; go_simp; try with_reducible rfl)); (try simp only [Act.put, List.setIfInBounds_toArray, List.set_cons_zero, List.set_cons_succ]))
  (refine take_at 8 (some 14) rfl rfl (by kernel_rfl) (by kernel_rfl) (by kernel_rfl) (fun _ _ _ h => h) (v := ?_) (by kernel_rfl) ?_ (by assumption) ?_; rotate_left; (focus (intro wS hSw; (have y3 := (hSw.cell (p := ⟨g, 3, none⟩) lg id).trans x3); (have y4 := (hSw.cell (p := ⟨g, 4, none⟩) lg id).trans x4); go_simp; try with_reducible rfl)); (try simp only [Act.put, List.setIfInBounds_toArray, List.set_cons_zero, List.set_cons_succ]))
  clear x0 x1 x2 x3 x4 hm1 hm2
  refine wpAnyH_ready (rs := [6]) (by kernel_rfl) (by simp) ?_
  refine AllReadyH.cons rfl (fun K hK => ?_) AllReadyH.nil
  go_simp
  go_at_call 41
  refine (P1.out _ (Ht.out.low (Hn.out.trans hHeld (fun _ _ h => h)))).mono ?_
  rintro e u ⟨rfl, hp⟩
  have hn : NoW v0 u := Fp.trans hHeld hp (fun _ _ h => h)
  clear hp hHeld
  refine hK.out _ _ hn (fun hHeld => ?_)
  clear hK K hn
  try simp only [Act.put, List.setIfInBounds_toArray, List.set_cons_zero, List.set_cons_succ]
  refine wpAnyH_ready (rs := [9]) (by kernel_rfl) (by simp) ?_
  refine AllReadyH.cons rfl (fun K hK => ?_) AllReadyH.nil
  go_simp
  go_at_call 41
  refine (P2.out _ (Ht.out.low (Hn.out.trans hHeld (fun _ _ h => h)))).mono ?_
  rintro e u ⟨rfl, hp⟩
  have hn : NoW v0 u := Fp.trans hHeld hp (fun _ _ h => h)
  clear hp hHeld
  refine hK.out _ _ hn (fun hHeld => ?_)
  clear hK K hn
  try simp only [Act.put, List.setIfInBounds_toArray, List.set_cons_zero, List.set_cons_succ]
  refine wpAnyH_ready (rs := [10]) (by kernel_rfl) (by simp) ?_
  refine AllReadyH.cons rfl (fun K hK => ?_) AllReadyH.nil
  go_simp
  refine hK.out _ _ (hHeld.alloc _) (fun hHeld2 => ?_)
  clear hK K
  try simp only [Act.put, List.setIfInBounds_toArray, List.set_cons_zero, List.set_cons_succ]
  refine wpAnyH_ready (rs := [11]) (by kernel_rfl) (by simp) ?_
  refine AllReadyH.cons rfl (fun K hK => ?_) AllReadyH.nil
  go_simp
  go_at_call 42
  refine (join_ok _ 3 3 [wordOf k, withT 58 a p, withT 58 b q] _ ?_ (by simp) rfl (by omega) Hl.out).mono ?_
  · intro j x hj; match j, hj with | 0, hj => (simp at hj; simp [← hj]) | 1, hj => (simp at hj; simp [← hj]) | 2, hj => (simp at hj; simp [← hj]) | j + 3, hj => simp at hj
  rintro e u2 ⟨rfl, hp⟩
  have hn : NoW v0 u2 := Fp.trans hHeld2 hp (fun _ _ h => h)
  clear hp hHeld hHeld2
  refine hK.out _ _ hn (fun hHeld => ?_)
  clear hK K hn
  try simp only [Act.put, List.setIfInBounds_toArray, List.set_cons_zero, List.set_cons_succ]
  refine wpAnyH_ready (rs := [12]) (by kernel_rfl) (by simp) ?_
  refine AllReadyH.cons rfl (fun K hK => ?_) AllReadyH.nil
  go_simp
  refine hK.out _ _ hHeld (fun hHeld => ?_)
  clear hK K
  try simp only [Act.put, List.setIfInBounds_toArray, List.set_cons_zero, List.set_cons_succ]
  refine wpAnyH_done (by kernel_rfl) ?_ _
  go_wp2_with fail
  go_ret
  exact ⟨rfl, Hn.out.trans hHeld (fun _ _ h => h)⟩
end Go.Proofs.YtaiimkcmgiceeaaDoor
namespace Go.Proofs.YtaiimkcmgiceeaaDoor
set_option linter.unusedVariables false
set_option linter.unusedSimpArgs false
open Go.RowKit Go.Lib Go.Sort

/-- 'append' of one element that lies in a block of its own, where it comes up in a drawn region. -/
theorem op_append1 {P : Program} {w : World} {o : Oper} {a : Act} {K : Act → World → Prop} {Q : Exit → Act → World → Prop} (s x : Operand) (t : TypeId)
    (ho : o.op = .call { callee := .builtin .append, args := #[s, x], argTypes := #[t, t] })
    (base : Nat) (e : TypeId) (z : Value) (size : Nat) (ht : P.underlying t = some (.slice e)) (hi : ∃ i, P.info? e = some i ∧ i.zero = some z ∧ i.size = size ∧ i.bytes ≤ 65536)
    (hzs : z.cells.size = size) (hsz : 0 < size) (v : Value) (n : Nat) (xs : List Value) (hs : a.eval s = v) (hown : w.ownsRow base e size v n xs)
    (g : Nat) (news : List Value) (hx : a.eval x = .slice (some ⟨g, 0, none⟩) 1 1) (hl : news.length = size) (hnews : w.heap[g]? = some (.cells news.toArray e (0, 0))) (h1 : ∀ u ∈ news, u.oneCell' = true)
    (hn : n + 1 ≤ 1048576) (hbase : base ≤ w.heap.size)
    (h : ∀ v' w', w'.ownsRow base e size v' (n + 1) (xs ++ news) → w.grownBy w' v.ownBlock → K (a.put o.dst v') w') : Oper.wp P o a w K Q := by
  obtain ⟨i, hi, hz, rfl, hb⟩ := hi
  have hnews' : ∀ j u, news[j]? = some u → w.cell? ((⟨g, 0, none⟩ : Addr).add j) = some u := by
    intro j u hj
    have e : (⟨g, 0, none⟩ : Addr).add j = ⟨g, j, none⟩ := by unfold Addr.add; split <;> simp_all
    rw [e]
    simp [World.cell?, hnews, hj]
  obtain ⟨v', w', hr, h2, h3, h4⟩ := run_append_own (P := P) w base t o.type e i z i.size i.bytes ht hi hz rfl rfl hzs hsz v n xs hown ⟨g, 0, none⟩ 1 1 news (by omega) hnews' h1 (by unfold maxLen; omega) (by have := Nat.mul_le_mul hn hb; omega) hbase
  unfold Oper.wp execOp
  simp only [ho, resolve, invoke, builtin, Sem.run_bind, Sem.run_pure, Result.andThen_ok, List.map_toArray, List.map_cons, List.map_nil, hs, hx, hr]
  exact h v' w' h2 h3

/-- A hold's text; an entry's. -/
def holdT (oa op ia ip : Nat → Nat) (i : Nat) : List UInt8 := withT 58 (oa i) (op i) ++ 61 :: withT 58 (ia i) (ip i)
def rowsT (r a p b q r2 a2 p2 b2 q2 st dl : Nat) (oa op ia ip : Nat → Nat) (n : Nat) : List (List UInt8) := [tupT r a p b q, [124], tupT r2 a2 p2 b2 q2, decDigits st, decDigits dl] ++ (List.range n).map (holdT oa op ia ip)
def entT (r a p b q r2 a2 p2 b2 q2 st dl : Nat) (oa op ia ip : Nat → Nat) (n : Nat) : List UInt8 := joinB (rowsT r a p b q r2 a2 p2 b2 q2 st dl oa op ia ip n)
theorem joinB_len (m : Nat) : ∀ ps : List (List UInt8), (∀ p ∈ ps, p.length ≤ m) → (joinB ps).length ≤ ps.length * (m + 1)
  | [], _ => by simp [joinB, List.intercalate]
  | [x], h => by have := h x (by simp); simp [joinB, List.intercalate]; omega
  | x :: y :: l, h => by
    have ih := joinB_len m (y :: l) (fun p hp => h p (by simp at hp ⊢; exact .inr hp))
    have := h x (by simp)
    have e : joinB (x :: y :: l) = x ++ 32 :: joinB (y :: l) := by simp [joinB, List.intercalate]
    rw [e]
    simp only [List.length_append, List.length_cons] at *
    have : (l.length + 1 + 1) * (m + 1) = (l.length + 1) * (m + 1) + (m + 1) := by rw [Nat.add_mul (l.length + 1) 1]; omega
    omega

set_option maxHeartbeats 4000000 in
set_option maxRecDepth 100000 in
theorem ent_text (r a p b q r2 a2 p2 b2 q2 st dl : Nat) (oa op ia ip : Nat → Nat) (hb ho n hc : Nat) (ys : List Value) (hr : r < 256) (hr2 : r2 < 256) (ha : a < 4294967296) (hp : p < 65536) (hbb : b < 4294967296) (hq : q < 65536) (ha2 : a2 < 4294967296) (hp2 : p2 < 65536) (hb2 : b2 < 4294967296) (hq2 : q2 < 65536)
    (hst : st ≤ 7) (hdl : dl ≤ 1099511635216) (hn : n ≤ 5) (h1 : tupB r p q = true) (h2 : tupB r2 p2 q2 = true)
    (hv : ∀ i, i < n → (ys[i * 4]? = some (.int .u32 (oa i)) ∧ ys[i * 4 + 1]? = some (.int .u16 (op i)) ∧ ys[i * 4 + 2]? = some (.int .u32 (ia i)) ∧ ys[i * 4 + 3]? = some (.int .u16 (ip i))) ∧ oa i < 4294967296 ∧ op i < 65536 ∧ ia i < 4294967296 ∧ ip i < 65536)
    (w : World) (ht : Tb w) (hh : Holds w hb ho n ys)
    (k0 : ∀ W, Tb W → Calls Tryd.prog 19 #[.agg #[.int .u8 r, .int .u32 a, .int .u16 p, .int .u32 b, .int .u16 q, .int .u8 r2, .int .u32 a2, .int .u16 p2, .int .u32 b2, .int .u16 q2, .int .i64 st, .int .i64 dl, (.slice (some ⟨hb, ho, none⟩) n hc)]] W (Ret1 (.int .i64 0) W)) :
    Calls Tryd.prog 21 #[.agg #[.int .u8 r, .int .u32 a, .int .u16 p, .int .u32 b, .int .u16 q, .int .u8 r2, .int .u32 a2, .int .u16 p2, .int .u32 b2, .int .u16 q2, .int .i64 st, .int .i64 dl, (.slice (some ⟨hb, ho, none⟩) n hc)]] w (Ret1 (str (entT r a p b q r2 a2 p2 b2 q2 st dl oa op ia ip n)) w) := by
  have Ht := Lib.hid ht
  have Hh := Lib.hid hh
  have Hv := Lib.hid hv
  have K0 := Lib.hid k0
  have P1 := Lib.hid (fun W (hW : Tb W) => tup_text r a p b q hr ha hp hbb hq h1 W hW)
  have P2 := Lib.hid (fun W (hW : Tb W) => tup_text r2 a2 p2 b2 q2 hr2 ha2 hp2 hb2 hq2 h2 W hW)
  have P3 := Lib.hid (fun W (hW : Tb W) => itoa_any st (by omega) W hW)
  have P4 := Lib.hid (fun W (hW : Tb W) => itoa_any dl (by omega) W hW)
  have Hlen := Lib.hid (show (entT r a p b q r2 a2 p2 b2 q2 st dl oa op ia ip n).length ≤ 100000 from by
    have t1 := tupT_len r a p b q ha hp hbb hq
    have t2 := tupT_len r2 a2 p2 b2 q2 ha2 hp2 hb2 hq2
    have t3 := dec_len 20 st (by omega) (by omega)
    have t4 := dec_len 20 dl (by omega) (by omega)
    have := joinB_len 100 (rowsT r a p b q r2 a2 p2 b2 q2 st dl oa op ia ip n) (fun x hx => by
      simp only [rowsT, List.mem_append, List.mem_cons, List.not_mem_nil, or_false, List.mem_map, List.mem_range] at hx
      rcases hx with (rfl | rfl | rfl | rfl | rfl) | ⟨i, hi, rfl⟩
      · exact t1
      · simp
      · exact t2
      · omega
      · omega
      · have h := (hv i hi).2
        have w1 := withT_len (oa i) (op i) h.1 h.2.1
        have w2 := withT_len (ia i) (ip i) h.2.2.1 h.2.2.2
        simp only [holdT, List.length_append, List.length_cons, List.length_nil]; omega)
    have e : (rowsT r a p b q r2 a2 p2 b2 q2 st dl oa op ia ip n).length = 5 + n := by simp [rowsT]; omega
    rw [e] at this
    have : (5 + n) * 101 ≤ 10 * 101 := Nat.mul_le_mul_right _ (by omega)
    unfold entT; omega)
  clear ht hh hv k0 hr hr2 ha hp hbb hq ha2 hp2 hb2 hq2 hst hdl h1 h2
  go_enter Tryd.func21, Tryd.ntmps21
  go_wp2_with fail
  have hw0 : NoW w (w.alloc (.cells #[.int .u8 r, .int .u32 a, .int .u16 p, .int .u32 b, .int .u16 q, .int .u8 r2, .int .u32 a2, .int .u16 p2, .int .u32 b2, .int .u16 q2, .int .i64 st, .int .i64 dl, (.slice (some ⟨hb, ho, none⟩) n hc)] 32)) := (Fp.refl _ _).alloc _
  have hb0 : (w.alloc (.cells #[.int .u8 r, .int .u32 a, .int .u16 p, .int .u32 b, .int .u16 q, .int .u8 r2, .int .u32 a2, .int .u16 p2, .int .u32 b2, .int .u16 q2, .int .i64 st, .int .i64 dl, (.slice (some ⟨hb, ho, none⟩) n hc)] 32)).heap[w.heap.size]? = some (.cells #[.int .u8 r, .int .u32 a, .int .u16 p, .int .u32 b, .int .u16 q, .int .u8 r2, .int .u32 a2, .int .u16 p2, .int .u32 b2, .int .u16 q2, .int .i64 st, .int .i64 dl, (.slice (some ⟨hb, ho, none⟩) n hc)] 32) := heap_alloc_new _ _
  generalize w.alloc (.cells #[.int .u8 r, .int .u32 a, .int .u16 p, .int .u32 b, .int .u16 q, .int .u8 r2, .int .u32 a2, .int .u16 p2, .int .u32 b2, .int .u16 q2, .int .i64 st, .int .i64 dl, (.slice (some ⟨hb, ho, none⟩) n hc)] 32) = w0 at *
  obtain ⟨g, hg⟩ : ∃ g, g = w.heap.size := ⟨_, rfl⟩
  have Hg := Lib.hid hg
  rw [← hg] at hb0 ⊢
  clear hg
  refine (K0.out _ (Ht.out.low hw0)).mono ?_
  rintro e v0 ⟨rfl, hp⟩
  have hbk := (hp.block _ (Array.getElem?_eq_some_iff.1 hb0).1 id).trans hb0
  have Hn := Lib.hid (hw0.trans hp (fun _ _ h => h))
  clear hp hw0 hb0
  have x0 : v0.cell? ⟨g, 0, none⟩ = some (.int .u8 r) := by simp [World.cell?, hbk]
  have x1 : v0.cell? ⟨g, 1, none⟩ = some (.int .u32 a) := by simp [World.cell?, hbk]
  have x2 : v0.cell? ⟨g, 2, none⟩ = some (.int .u16 p) := by simp [World.cell?, hbk]
  have x3 : v0.cell? ⟨g, 3, none⟩ = some (.int .u32 b) := by simp [World.cell?, hbk]
  have x4 : v0.cell? ⟨g, 4, none⟩ = some (.int .u16 q) := by simp [World.cell?, hbk]
  have x5 : v0.cell? ⟨g, 5, none⟩ = some (.int .u8 r2) := by simp [World.cell?, hbk]
  have x6 : v0.cell? ⟨g, 6, none⟩ = some (.int .u32 a2) := by simp [World.cell?, hbk]
  have x7 : v0.cell? ⟨g, 7, none⟩ = some (.int .u16 p2) := by simp [World.cell?, hbk]
  have x8 : v0.cell? ⟨g, 8, none⟩ = some (.int .u32 b2) := by simp [World.cell?, hbk]
  have x9 : v0.cell? ⟨g, 9, none⟩ = some (.int .u16 q2) := by simp [World.cell?, hbk]
  have x10 : v0.cell? ⟨g, 10, none⟩ = some (.int .i64 st) := by simp [World.cell?, hbk]
  have x11 : v0.cell? ⟨g, 11, none⟩ = some (.int .i64 dl) := by simp [World.cell?, hbk]
  have x12 : v0.cell? ⟨g, 12, none⟩ = some ((.slice (some ⟨hb, ho, none⟩) n hc)) := by simp [World.cell?, hbk]

  have lg : g < v0.heap.size := cell_lt x0
  have X12 := Lib.hid x12
  clear hbk
  go_wp2_with fail
  refine wp_region_held_drew (S := fun wx => NoW v0 wx) (by kernel_rfl) (Fp.drew (Fp.refl _ _)) (fun hHeld => ?_)
  (refine take_at 0 (some 9) rfl rfl (by kernel_rfl) (by kernel_rfl) (by kernel_rfl) (fun _ _ _ h => h) (v := ?_) (by kernel_rfl) ?_ (by assumption) ?_; rotate_left; (focus (intro wS hSw; skip; go_simp; try with_reducible rfl)); (try simp only [Act.put, List.setIfInBounds_toArray, List.set_cons_zero, List.set_cons_succ]))
  (refine take_at 1 (some 10) rfl rfl (by kernel_rfl) (by kernel_rfl) (by kernel_rfl) (fun _ _ _ h => h) (v := ?_) (by kernel_rfl) ?_ (by assumption) ?_; rotate_left; (focus (intro wS hSw; (have y0 := (hSw.cell (p := ⟨g, 0, none⟩) lg id).trans x0); (have y1 := (hSw.cell (p := ⟨g, 1, none⟩) lg id).trans x1); (have y2 := (hSw.cell (p := ⟨g, 2, none⟩) lg id).trans x2); (have y3 := (hSw.cell (p := ⟨g, 3, none⟩) lg id).trans x3); (have y4 := (hSw.cell (p := ⟨g, 4, none⟩) lg id).trans x4); go_simp; try with_reducible rfl)); (try simp only [Act.put, List.setIfInBounds_toArray, List.set_cons_zero, List.set_cons_succ]))
  (refine take_at 3 (some 12) rfl rfl (by kernel_rfl) (by kernel_rfl) (by kernel_rfl) (fun _ _ _ h => h) (v := ?_) (by kernel_rfl) ?_ (by assumption) ?_; rotate_left; (focus (intro wS hSw; skip; go_simp; try with_reducible rfl)); (try simp only [Act.put, List.setIfInBounds_toArray, List.set_cons_zero, List.set_cons_succ]))
  (refine take_at 4 (some 13) rfl rfl (by kernel_rfl) (by kernel_rfl) (by kernel_rfl) (fun _ _ _ h => h) (v := ?_) (by kernel_rfl) ?_ (by assumption) ?_; rotate_left; (focus (intro wS hSw; (have y5 := (hSw.cell (p := ⟨g, 5, none⟩) lg id).trans x5); (have y6 := (hSw.cell (p := ⟨g, 6, none⟩) lg id).trans x6); (have y7 := (hSw.cell (p := ⟨g, 7, none⟩) lg id).trans x7); (have y8 := (hSw.cell (p := ⟨g, 8, none⟩) lg id).trans x8); (have y9 := (hSw.cell (p := ⟨g, 9, none⟩) lg id).trans x9); go_simp; try with_reducible rfl)); (try simp only [Act.put, List.setIfInBounds_toArray, List.set_cons_zero, List.set_cons_succ]))
  (refine take_at 6 (some 15) rfl rfl (by kernel_rfl) (by kernel_rfl) (by kernel_rfl) (fun _ _ _ h => h) (v := ?_) (by kernel_rfl) ?_ (by assumption) ?_; rotate_left; (focus (intro wS hSw; skip; go_simp; try with_reducible rfl)); (try simp only [Act.put, List.setIfInBounds_toArray, List.set_cons_zero, List.set_cons_succ]))
  (refine take_at 7 (some 16) rfl rfl (by kernel_rfl) (by kernel_rfl) (by kernel_rfl) (fun _ _ _ h => h) (v := ?_) (by kernel_rfl) ?_ (by assumption) ?_; rotate_left; (focus (intro wS hSw; (have y10 := (hSw.cell (p := ⟨g, 10, none⟩) lg id).trans x10); go_simp; try with_reducible rfl)); (try simp only [Act.put, List.setIfInBounds_toArray, List.set_cons_zero, List.set_cons_succ]))
  (refine take_at 9 (some 18) rfl rfl (by kernel_rfl) (by kernel_rfl) (by kernel_rfl) (fun _ _ _ h => h) (v := ?_) (by kernel_rfl) ?_ (by assumption) ?_; rotate_left; (focus (intro wS hSw; skip; go_simp; try with_reducible rfl)); (try simp only [Act.put, List.setIfInBounds_toArray, List.set_cons_zero, List.set_cons_succ]))
  (refine take_at 10 (some 19) rfl rfl (by kernel_rfl) (by kernel_rfl) (by kernel_rfl) (fun _ _ _ h => h) (v := ?_) (by kernel_rfl) ?_ (by assumption) ?_; rotate_left; (focus (intro wS hSw; (have y11 := (hSw.cell (p := ⟨g, 11, none⟩) lg id).trans x11); go_simp; try with_reducible rfl)); (try simp only [Act.put, List.setIfInBounds_toArray, List.set_cons_zero, List.set_cons_succ]))
  clear x0 x1 x2 x3 x4 x5 x6 x7 x8 x9 x10 x11 x12
  refine wpAnyH_ready (rs := [2]) (by kernel_rfl) (by simp) ?_
  refine AllReadyH.cons rfl (fun K hK => ?_) AllReadyH.nil
  go_simp
  go_at_call 39
  refine (P1.out _ (Ht.out.low (Hn.out.trans hHeld (fun _ _ h => h)))).mono ?_
  rintro e u ⟨rfl, hp⟩
  have hn : NoW v0 u := Fp.trans hHeld hp (fun _ _ h => h)
  clear hp hHeld
  refine hK.out _ _ hn (fun hHeld => ?_)
  clear hK K hn
  try simp only [Act.put, List.setIfInBounds_toArray, List.set_cons_zero, List.set_cons_succ]
  refine wpAnyH_ready (rs := [5]) (by kernel_rfl) (by simp) ?_
  refine AllReadyH.cons rfl (fun K hK => ?_) AllReadyH.nil
  go_simp
  go_at_call 39
  refine (P2.out _ (Ht.out.low (Hn.out.trans hHeld (fun _ _ h => h)))).mono ?_
  rintro e u ⟨rfl, hp⟩
  have hn : NoW v0 u := Fp.trans hHeld hp (fun _ _ h => h)
  clear hp hHeld
  refine hK.out _ _ hn (fun hHeld => ?_)
  clear hK K hn
  try simp only [Act.put, List.setIfInBounds_toArray, List.set_cons_zero, List.set_cons_succ]
  refine wpAnyH_ready (rs := [8]) (by kernel_rfl) (by simp) ?_
  refine AllReadyH.cons rfl (fun K hK => ?_) AllReadyH.nil
  go_simp
  go_at_call 40
  refine (P3.out _ (Ht.out.low (Hn.out.trans hHeld (fun _ _ h => h)))).mono ?_
  rintro e u ⟨rfl, hp⟩
  have hn : NoW v0 u := Fp.trans hHeld hp (fun _ _ h => h)
  clear hp hHeld
  refine hK.out _ _ hn (fun hHeld => ?_)
  clear hK K hn
  try simp only [Act.put, List.setIfInBounds_toArray, List.set_cons_zero, List.set_cons_succ]
  refine wpAnyH_ready (rs := [11]) (by kernel_rfl) (by simp) ?_
  refine AllReadyH.cons rfl (fun K hK => ?_) AllReadyH.nil
  go_simp
  go_at_call 40
  refine (P4.out _ (Ht.out.low (Hn.out.trans hHeld (fun _ _ h => h)))).mono ?_
  rintro e u ⟨rfl, hp⟩
  have hn : NoW v0 u := Fp.trans hHeld hp (fun _ _ h => h)
  clear hp hHeld
  refine hK.out _ _ hn (fun hHeld => ?_)
  clear hK K hn
  try simp only [Act.put, List.setIfInBounds_toArray, List.set_cons_zero, List.set_cons_succ]
  refine wpAnyH_ready (rs := [12]) (by kernel_rfl) (by simp) ?_
  refine AllReadyH.cons rfl (fun K hK => ?_) AllReadyH.nil
  go_simp
  have hbs : (u.alloc (.cells #[str (tupT r a p b q), str [124], str (tupT r2 a2 p2 b2 q2), str (decDigits st), str (decDigits dl)] 9)).heap[u.heap.size]? = _ := heap_alloc_new _ _
  have hgs : v0.heap.size ≤ u.heap.size := hHeld.size
  refine hK.out _ _ (hHeld.alloc _) (fun hHeld2 => ?_)
  clear hK K
  try simp only [Act.put, List.setIfInBounds_toArray, List.set_cons_zero, List.set_cons_succ]
  refine wpAnyH_ready (rs := [13]) (by kernel_rfl) (by simp) ?_
  refine AllReadyH.cons rfl (fun K hK => ?_) AllReadyH.nil
  go_simp
  refine hK.out _ _ hHeld2 (fun hHeld3 => ?_)
  clear hK K hHeld2
  try simp only [Act.put, List.setIfInBounds_toArray, List.set_cons_zero, List.set_cons_succ]
  refine wpAnyH_done (by kernel_rfl) ?_ _
  have Hz := Lib.hid (Hn.out.trans hHeld3 (fun _ _ h => h))
  have hgw : w.heap.size ≤ u.heap.size := Nat.le_trans Hn.out.size hgs
  have x12 := (hHeld3.cell (p := ⟨g, 12, none⟩) lg id).trans X12.out
  clear hHeld hHeld3
  have Hbs := Lib.hid hbs
  clear hbs
  generalize u.alloc (.cells #[str (tupT r a p b q), str [124], str (tupT r2 a2 p2 b2 q2), str (decDigits st), str (decDigits dl)] 9) = v1 at *
  generalize u.heap.size = gs at *
  go_wp2_with fail

  clear x12 X12 lg Hn
  have hgw2 : w.heap.size ≤ gs := hgw
  clear hgw hgs
  go_loopg [3, 25] (n + 1) (fun gg v i wx => ∃ (k : Nat) (v' : Value), v' = v ∧ k ≤ n ∧ gg = n + 1 - k ∧ i = .int .i64 (k : Int) ∧ wx.ownsRow w.heap.size 9 1 v' (5 + k) ((rowsT r a p b q r2 a2 p2 b2 q2 st dl oa op ia ip k).map str) ∧ NoW w wx)
  case atStart => exact ⟨0, _, rfl, by omega, by omega, rfl, ⟨by simp [rowsT], Or.inr ⟨gs, 5, _, rfl, hgw2, Hbs.out, by omega, by unfold maxLen; omega, rfl, by simp [rowsT]⟩⟩, Hz.out⟩
  case round =>
    obtain ⟨k, v, rfl, hk, hg, rfl, hown, hf⟩ := hrel
    have Hg := Lib.hid hg
    have Hf := Lib.hid hf
    have Hown := Lib.hid hown
    have hsz := hf.size
    clear hg hf hown
    by_cases hlt : k < n
    · obtain ⟨⟨v0', v1', v2', v3'⟩, b0, b1, b2, b3⟩ := Hv.out k hlt
      have hhr := Hh.out.low Hf.out
      have y0 : wr.cell? ⟨hb, ho + k * 4, none⟩ = some (.int .u32 (oa k)) := hhr.cell (k * 4) _ v0'
      have y1 : wr.cell? ⟨hb, ho + k * 4 + 1, none⟩ = some (.int .u16 (op k)) := hhr.cell (k * 4 + 1) _ v1'
      have y2 : wr.cell? ⟨hb, ho + k * 4 + 2, none⟩ = some (.int .u32 (ia k)) := hhr.cell (k * 4 + 2) _ v2'
      have y3 : wr.cell? ⟨hb, ho + k * 4 + 3, none⟩ = some (.int .u16 (ip k)) := hhr.cell (k * 4 + 3) _ v3'
      have hkk : decide ((k : Int) < (n : Int)) = true := by simp; omega
      clear v0' v1' v2' v3' hhr
      have Q1 := Lib.hid (fun W (hW : Tb W) => point_text (oa k) b0 (op k) b1 W hW)
      have Q2 := Lib.hid (fun W (hW : Tb W) => point_text (ia k) b2 (ip k) b3 W hW)
      have l1 := withT_len (oa k) (op k) b0 b1
      have l2 := withT_len (ia k) (ip k) b2 b3
      have hadd1 : ∀ W, (Op.stringOp .add ⟨(withT 58 (oa k) (op k)).toArray⟩ ⟨#[61]⟩).run Tryd.prog W = .ok (str (withT 58 (oa k) (op k) ++ [61])) W := fun W => run_string_add_lists W (withT 58 (oa k) (op k)) [61] (by omega) (by simp)
      have hadd2 : ∀ W, (Op.stringOp .add ⟨(withT 58 (oa k) (op k) ++ [61]).toArray⟩ ⟨(withT 58 (ia k) (ip k)).toArray⟩).run Tryd.prog W = .ok (str (withT 58 (oa k) (op k) ++ 61 :: withT 58 (ia k) (ip k))) W := fun W => by
        have e : withT 58 (oa k) (op k) ++ 61 :: withT 58 (ia k) (ip k) = withT 58 (oa k) (op k) ++ [61] ++ withT 58 (ia k) (ip k) := by simp
        rw [e]; exact run_string_add_lists W (withT 58 (oa k) (op k) ++ [61]) (withT 58 (ia k) (ip k)) (by simp; omega) (by omega)
      clear b0 b1 b2 b3 l1 l2
      go_wp2_with fail
      have hq : NoW wr (wr.alloc (.cells #[.int .u32 (oa k), .int .u16 (op k), .int .u32 (ia k), .int .u16 (ip k)] 49)) := (Fp.refl _ _).alloc _
      have hbq := heap_alloc_new wr (.cells #[.int .u32 (oa k), .int .u16 (op k), .int .u32 (ia k), .int .u16 (ip k)] 49)
      have hfq := Hf.out.trans hq (fun _ _ h => h)
      have hownq := ownsRow_of_block Hown.out fun x e => hq.block x (World.ownsRow.lt Hown.out x e).2 id
      have hnev : ∀ x, v.ownBlock = some x → w.heap.size ≤ x ∧ x ≠ wr.heap.size := fun x e => ⟨(World.ownsRow.lt Hown.out x e).1, by have := (World.ownsRow.lt Hown.out x e).2; omega⟩
      clear hq Hown Hf
      generalize wr.alloc (.cells #[.int .u32 (oa k), .int .u16 (op k), .int .u32 (ia k), .int .u16 (ip k)] 49) = wq at *
      generalize wr.heap.size = gq at *
      have Hfq := Lib.hid hfq
      have Hba := Lib.hid (show ∀ i, i < w.heap.size → v.ownBlock = some i → False from fun i hi e => by have := (hnev i e).1; omega)
      have Hown := Lib.hid (ownsRow_of_block (w' := wq.drew) hownq fun x e => rfl)
      have hne : ¬ v.ownBlock = some gq := fun e => (hnev gq e).2 rfl
      have z0 : wq.cell? ⟨gq, 0, none⟩ = some (.int .u32 (oa k)) := by simp [World.cell?, hbq]
      have z1 : wq.cell? ⟨gq, 1, none⟩ = some (.int .u16 (op k)) := by simp [World.cell?, hbq]
      have z2 : wq.cell? ⟨gq, 2, none⟩ = some (.int .u32 (ia k)) := by simp [World.cell?, hbq]
      have z3 : wq.cell? ⟨gq, 3, none⟩ = some (.int .u16 (ip k)) := by simp [World.cell?, hbq]
      have lq : gq < wq.heap.size := cell_lt z0
      clear hfq hownq hnev hbq y0 y1 y2 y3
      refine wp_region_held_drew (S := fun wx => Fp (fun b => v.ownBlock = some b) wq wx) (by kernel_rfl) (Fp.drew (Fp.refl _ _)) (fun hHeld => ?_)
      (refine take_at 0 (some 29) rfl rfl (by kernel_rfl) (by kernel_rfl) (by kernel_rfl) (fun _ _ _ h => h) (v := ?_) (by kernel_rfl) ?_ (by assumption) ?_; rotate_left; (focus (intro wS hSw; skip; go_simp; try with_reducible rfl)); (try simp only [Act.put, List.setIfInBounds_toArray, List.set_cons_zero, List.set_cons_succ]))
      (refine take_at 1 (some 30) rfl rfl (by kernel_rfl) (by kernel_rfl) (by kernel_rfl) (fun _ _ _ h => h) (v := ?_) (by kernel_rfl) ?_ (by assumption) ?_; rotate_left; (focus (intro wS hSw; skip; go_simp; try with_reducible rfl)); (try simp only [Act.put, List.setIfInBounds_toArray, List.set_cons_zero, List.set_cons_succ]))
      (refine take_at 2 (some 31) rfl rfl (by kernel_rfl) (by kernel_rfl) (by kernel_rfl) (fun _ _ _ h => h) (v := ?_) (by kernel_rfl) ?_ (by assumption) ?_; rotate_left; (focus (intro wS hSw; (have q0 := (hSw.cell (p := ⟨gq, 0, none⟩) lq hne).trans z0); (have q1 := (hSw.cell (p := ⟨gq, 1, none⟩) lq hne).trans z1); go_simp; try with_reducible rfl)); (try simp only [Act.put, List.setIfInBounds_toArray, List.set_cons_zero, List.set_cons_succ]))
      (refine take_at 5 (some 34) rfl rfl (by kernel_rfl) (by kernel_rfl) (by kernel_rfl) (fun _ _ _ h => h) (v := ?_) (by kernel_rfl) ?_ (by assumption) ?_; rotate_left; (focus (intro wS hSw; skip; go_simp; try with_reducible rfl)); (try simp only [Act.put, List.setIfInBounds_toArray, List.set_cons_zero, List.set_cons_succ]))
      (refine take_at 6 (some 35) rfl rfl (by kernel_rfl) (by kernel_rfl) (by kernel_rfl) (fun _ _ _ h => h) (v := ?_) (by kernel_rfl) ?_ (by assumption) ?_; rotate_left; (focus (intro wS hSw; (have q2 := (hSw.cell (p := ⟨gq, 2, none⟩) lq hne).trans z2); (have q3 := (hSw.cell (p := ⟨gq, 3, none⟩) lq hne).trans z3); go_simp; try with_reducible rfl)); (try simp only [Act.put, List.setIfInBounds_toArray, List.set_cons_zero, List.set_cons_succ]))
      refine wpAnyH_ready (rs := [3]) (by kernel_rfl) (by simp) ?_
      refine AllReadyH.cons rfl (fun K hK => ?_) AllReadyH.nil
      go_simp
      go_at_call 41
      refine (Q1.out _ (Ht.out.low (Hfq.out.trans hHeld Hba.out))).mono ?_
      rintro e u ⟨rfl, hp⟩
      have hn : Fp (fun b => v.ownBlock = some b) wq u := Fp.trans hHeld hp (fun _ _ h => h.elim)
      have hown1 := ownsRow_of_block Hown.out fun x e => hp.block x (World.ownsRow.lt Hown.out x e).2 id
      clear Hown
      have Hown := Lib.hid hown1
      clear hown1 hp hHeld
      refine hK.out _ _ hn (fun hHeld => ?_)
      clear hK K hn
      try simp only [Act.put, List.setIfInBounds_toArray, List.set_cons_zero, List.set_cons_succ]
      (refine take_at 4 (some 33) rfl rfl (by kernel_rfl) (by kernel_rfl) (by kernel_rfl) (fun _ _ _ h => h) (v := ?_) (by kernel_rfl) ?_ (by assumption) ?_; rotate_left; (focus (intro wS hSw; skip; go_simp; try with_reducible rfl)); (try simp only [Act.put, List.setIfInBounds_toArray, List.set_cons_zero, List.set_cons_succ]))
      refine wpAnyH_ready (rs := [7]) (by kernel_rfl) (by simp) ?_
      refine AllReadyH.cons rfl (fun K hK => ?_) AllReadyH.nil
      go_simp
      go_at_call 41
      refine (Q2.out _ (Ht.out.low (Hfq.out.trans hHeld Hba.out))).mono ?_
      rintro e u ⟨rfl, hp⟩
      have hn : Fp (fun b => v.ownBlock = some b) wq u := Fp.trans hHeld hp (fun _ _ h => h.elim)
      have hown1 := ownsRow_of_block Hown.out fun x e => hp.block x (World.ownsRow.lt Hown.out x e).2 id
      clear Hown
      have Hown := Lib.hid hown1
      clear hown1 hp hHeld
      refine hK.out _ _ hn (fun hHeld => ?_)
      clear hK K hn
      try simp only [Act.put, List.setIfInBounds_toArray, List.set_cons_zero, List.set_cons_succ]
      (refine take_at 8 (some 37) rfl rfl (by kernel_rfl) (by kernel_rfl) (by kernel_rfl) (fun _ _ _ h => h) (v := ?_) (by kernel_rfl) ?_ (by assumption) ?_; rotate_left; (focus (intro wS hSw; skip; go_simp; try with_reducible rfl)); (try simp only [Act.put, List.setIfInBounds_toArray, List.set_cons_zero, List.set_cons_succ]))
      refine wpAnyH_ready (rs := [9]) (by kernel_rfl) (by simp) ?_
      refine AllReadyH.cons rfl (fun K hK => ?_) AllReadyH.nil
      go_simp
      have hown1 := ownsRow_of_block (w' := u.alloc (.cells #[str (withT 58 (oa k) (op k) ++ 61 :: withT 58 (ia k) (ip k))] 9)) Hown.out fun x e => ((Fp.refl (fun _ => False) u).alloc (.cells #[str (withT 58 (oa k) (op k) ++ 61 :: withT 58 (ia k) (ip k))] 9)).block x (World.ownsRow.lt Hown.out x e).2 id
      have hub := heap_alloc_new u (.cells #[str (withT 58 (oa k) (op k) ++ 61 :: withT 58 (ia k) (ip k))] 9)
      have hsu : w.heap.size ≤ u.heap.size := Nat.le_trans Hfq.out.size hHeld.size
      clear Hown
      have Hown := Lib.hid hown1
      clear hown1
      refine hK.out _ _ (hHeld.alloc _) (fun hHeld2 => ?_)
      clear hK K hHeld
      try simp only [Act.put, List.setIfInBounds_toArray, List.set_cons_zero, List.set_cons_succ]
      generalize u.alloc (.cells #[str (withT 58 (oa k) (op k) ++ 61 :: withT 58 (ia k) (ip k))] 9) = u9 at *
      generalize u.heap.size = gu at *
      refine wpAnyH_ready (rs := [10]) (by kernel_rfl) (by simp) ?_
      refine AllReadyH.cons rfl (fun K hK => ?_) AllReadyH.nil
      rw [if_pos (by kernel_rfl)]
      refine op_append1 _ _ 79 rfl w.heap.size 9 (.string ByteArray.empty) 1 Tryd.underlying79 infoStr rfl (by decide) v (5 + k) _ rfl Hown.out gu [str (withT 58 (oa k) (op k) ++ 61 :: withT 58 (ia k) (ip k))] rfl rfl hub ?_ ?_ ?_ ?_
      · intro x hx; simp at hx; rw [hx]; rfl
      · omega
      · exact Nat.le_trans Hfq.out.size hHeld2.size
      intro v2 w3 hown3 hgr3
      have hf3 : Fp (fun b => v.ownBlock = some b) wq w3 := Fp.grown hHeld2 hgr3 (fun x e => Or.inr e)
      refine hK.out _ _ hf3 (fun hHeld3 => ?_)
      clear hK K hf3 hHeld2 hgr3
      try simp only [Act.put, List.setIfInBounds_toArray, List.set_cons_zero, List.set_cons_succ]
      refine wpAnyH_ready (rs := [11]) (by kernel_rfl) (by simp) ?_
      refine AllReadyH.cons rfl (fun K hK => ?_) AllReadyH.nil
      go_simp
      refine hK.out _ _ hHeld3 (fun hHeld => ?_)
      clear hK K hHeld3
      try simp only [Act.put, List.setIfInBounds_toArray, List.set_cons_zero, List.set_cons_succ]
      refine wpAnyH_done (by kernel_rfl) ?_ _
      have Hf3 := Lib.hid (Hfq.out.trans hHeld Hba.out)
      have hrow : ((rowsT r a p b q r2 a2 p2 b2 q2 st dl oa op ia ip (k + 1)).map str) = ((rowsT r a p b q r2 a2 p2 b2 q2 st dl oa op ia ip k).map str) ++ [str (withT 58 (oa k) (op k) ++ 61 :: withT 58 (ia k) (ip k))] := by simp [rowsT, holdT, List.range_succ]
      rw [← hrow] at hown3
      have Hown3 := Lib.hid hown3
      clear hown3 hrow hHeld Hown Hfq Hba hub
      go_wp2_with fail
      go_roundg (n - k)
      case measure => have := Hg.out; omega
      case rel => exact ⟨k + 1, _, rfl, by omega, by omega, by go_num, Hown3.out, Hf3.out⟩
    · obtain rfl : k = n := by omega
      obtain ⟨gv, cap, hv, hcap, hlt2, hcell⟩ : ∃ (gv cap : Nat), v = .slice (some ⟨gv, 0, none⟩) (5 + k) cap ∧ 5 + k ≤ cap ∧ gv < wr.heap.size ∧ ∀ j x, ((rowsT r a p b q r2 a2 p2 b2 q2 st dl oa op ia ip k).map str)[j]? = some x → wr.cell? ⟨gv, j, none⟩ = some x := by
        have hc := Hown.out
        obtain ⟨_, h2⟩ := Hown.out
        rcases h2 with ⟨_, h0⟩ | ⟨g, cap, cur, rfl, hg2, hh, hcap, hcap2, hcs, htk⟩
        · omega
        · refine ⟨g, cap, rfl, hcap, (Array.getElem?_eq_some_iff.1 hh).1, fun j x hj => ?_⟩
          have := World.ownsRow.cells hc (g := g) rfl j x hj
          rwa [add_eq0] at this
      subst hv
      have Hcell := Lib.hid hcell
      clear hcell Hown
      go_wp2_with fail
      refine (join_ok gv (5 + k) cap (rowsT r a p b q r2 a2 p2 b2 q2 st dl oa op ia ip k) wr (fun j x hx => Hcell.out j _ (by rw [List.getElem?_map, hx]; rfl)) hlt2 (by simp [rowsT]; omega) hcap Hlen.out).mono ?_
      rintro e w2 ⟨rfl, hp⟩
      have Hw := Lib.hid (Hf.out.trans hp (fun _ _ h => h))
      clear hp
      go_wp2_with fail
      go_ret
      exact ⟨rfl, Hw.out⟩
end Go.Proofs.YtaiimkcmgiceeaaDoor
