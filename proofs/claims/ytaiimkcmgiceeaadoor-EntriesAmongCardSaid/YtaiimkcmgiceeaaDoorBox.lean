/- Three calls whose results are kept in three new boxes: 'a, b, c := f(), g(), h()', each kept as a struct in a box: the region draws its order. -/
import Derived.Test.YtaiimkcmgiceeaaDoorBase
import Derived.Deep.RegionHeld3
namespace Go.Proofs.YtaiimkcmgiceeaaDoor
set_option linter.unusedVariables false
set_option linter.unusedSimpArgs false
open Go.RowKit
def up (f : Fin 3 → Bool) (j : Fin 3) : Fin 3 → Bool := fun k => if k = j then true else f k
def lst (c a s : Fin 3 → Bool) : Array Bool := #[true, c 0, true, c 1, true, c 2, a 0, a 1, a 2, s 0, s 1, s 2]
theorem fin3 {p : Fin 3 → Prop} (h0 : p 0) (h1 : p 1) (h2 : p 2) (j : Fin 3) : p j := by
  match j with
  | 0 => exact h0
  | 1 => exact h1
  | 2 => exact h2
theorem lst_c (c a s : Fin 3 → Bool) : ∀ j : Fin 3, (lst c a s).setIfInBounds (2 * j.val + 1) true = lst (up c j) a s := fin3 rfl rfl rfl
theorem lst_a (c a s : Fin 3 → Bool) : ∀ j : Fin 3, (lst c a s).setIfInBounds (6 + j.val) true = lst c (up a j) s := fin3 rfl rfl rfl
theorem lst_s (c a s : Fin 3 → Bool) : ∀ j : Fin 3, (lst c a s).setIfInBounds (9 + j.val) true = lst c a (up s j) := fin3 rfl rfl rfl
theorem up_self (f : Fin 3 → Bool) (j : Fin 3) : up f j j = true := by simp [up]
theorem up_other (f : Fin 3 → Bool) {j k : Fin 3} (h : k ≠ j) : up f j k = f k := by simp [up, h]
def nof (f : Fin 3 → Bool) : Nat := (if f 0 then 0 else 1) + (if f 1 then 0 else 1) + (if f 2 then 0 else 1)
theorem nof_up (f : Fin 3 → Bool) : ∀ j : Fin 3, f j = false → nof (up f j) < nof f := by
  refine fin3 ?_ ?_ ?_ <;> intro h <;> simp [nof, up, h] <;> omega
theorem nof_zero {f : Fin 3 → Bool} (h : nof f = 0) : ∀ j : Fin 3, f j = true := by
  unfold nof at h
  refine fin3 ?_ ?_ ?_
  · rcases h0 : f 0 <;> simp_all
  · rcases h0 : f 1 <;> simp_all
  · rcases h0 : f 2 <;> simp_all
def allB (p : Bool → Bool) : Bool := p true && p false
theorem allB_spec {p : Bool → Bool} (h : allB p = true) (b : Bool) : p b = true := by
  simp only [allB, Bool.and_eq_true] at h
  cases b; exact h.2; exact h.1
def okI (c a s : Fin 3 → Bool) (i : Nat) : Bool := (i == 1 && !c 0) || (i == 3 && !c 1) || (i == 5 && !c 2) || (i == 6 && !a 0) || (i == 7 && !a 1) || (i == 8 && !a 2) || (i == 9 && !s 0 && c 0 && a 0) || (i == 10 && !s 1 && c 1 && a 1) || (i == 11 && !s 2 && c 2 && a 2)
def full (c a s : Fin 3 → Bool) : Bool := c 0 && c 1 && c 2 && a 0 && a 1 && a 2 && s 0 && s 1 && s 2
def tri (x y z : Bool) : Fin 3 → Bool := fun j => match j with | 0 => x | 1 => y | 2 => z
def chk (rs : List Nat) (c a s : Fin 3 → Bool) : Bool := rs.all (okI c a s) && (!rs.isEmpty || full c a s) && (!full c a s || rs.isEmpty)
def chkAll (r : Array Bool → List Nat) : Bool := allB fun c0 => allB fun c1 => allB fun c2 => allB fun a0 => allB fun a1 => allB fun a2 => allB fun s0 => allB fun s1 => allB fun s2 => chk (r (lst (tri c0 c1 c2) (tri a0 a1 a2) (tri s0 s1 s2))) (tri c0 c1 c2) (tri a0 a1 a2) (tri s0 s1 s2)
theorem tri_eta (f : Fin 3 → Bool) : f = tri (f 0) (f 1) (f 2) := by
  funext j
  exact fin3 (p := fun j => f j = tri (f 0) (f 1) (f 2) j) rfl rfl rfl j
theorem chkAll_spec {r : Array Bool → List Nat} (h : chkAll r = true) (c a s : Fin 3 → Bool) : chk (r (lst c a s)) c a s = true := by
  rw [tri_eta c, tri_eta a, tri_eta s]
  exact allB_spec (allB_spec (allB_spec (allB_spec (allB_spec (allB_spec (allB_spec (allB_spec (allB_spec h (c 0)) (c 1)) (c 2)) (a 0)) (a 1)) (a 2)) (s 0)) (s 1)) (s 2)

theorem okI_cases {c a s : Fin 3 → Bool} {i : Nat} (h : okI c a s i = true) : (∃ j : Fin 3, i = 2 * j.val + 1 ∧ c j = false) ∨ (∃ j : Fin 3, i = 6 + j.val ∧ a j = false) ∨ (∃ j : Fin 3, i = 9 + j.val ∧ s j = false ∧ c j = true ∧ a j = true) := by
  simp only [okI, Bool.or_eq_true, Bool.and_eq_true, beq_iff_eq, Bool.not_eq_true'] at h
  rcases h with ((((((((h | h) | h) | h) | h) | h) | h) | h) | h)
  · exact .inl ⟨0, h⟩
  · exact .inl ⟨1, h⟩
  · exact .inl ⟨2, h⟩
  · exact .inr (.inl ⟨0, h⟩)
  · exact .inr (.inl ⟨1, h⟩)
  · exact .inr (.inl ⟨2, h⟩)
  · exact .inr (.inr ⟨0, h.1.1.1, h.1.1.2, h.1.2, h.2⟩)
  · exact .inr (.inr ⟨1, h.1.1.1, h.1.1.2, h.1.2, h.2⟩)
  · exact .inr (.inr ⟨2, h.1.1.1, h.1.1.2, h.1.2, h.2⟩)

/-- What is known on the way. -/
structure Mid (v : World) (a0 : Act) (d b : Fin 3 → Nat) (V : Fin 3 → Array Value) (Z : Array Value) (T : TypeId) (c al s : Fin 3 → Bool) (a : Act) (w : World) : Prop where
  low : NoW v w
  size : a.tmps.size = a0.tmps.size
  defers : a.defers = a0.defers
  keep : ∀ k, (∀ j, k ≠ d j) → (∀ j, k ≠ b j) → a.tmps[k]? = a0.tmps[k]?
  res : ∀ j, c j = true → a.tmps[d j]? = some (.agg (V j))
  imp : ∀ j, s j = true → al j = true
  box : ∃ g : Fin 3 → Nat, (∀ j, al j = true → a.tmps[b j]? = some (.pointer (some ⟨g j, 0, none⟩)) ∧ v.heap.size ≤ g j ∧ w.heap[g j]? = some (.cells (if s j then V j else Z) T (0, 0))) ∧ ∀ i j, i ≠ j → al i = true → al j = true → g i ≠ g j

section
variable {v : World} {a0 : Act} {d b : Fin 3 → Nat} {V : Fin 3 → Array Value} {Z : Array Value} {T : TypeId} {c al s : Fin 3 → Bool} {a : Act} {w : World}
theorem put_same {t : Array Value} {i : Nat} (x : Value) (h : i < t.size) : (t.setIfInBounds i x)[i]? = some x := by simp [h]
theorem put_far {t : Array Value} {i k : Nat} (x : Value) (h : k ≠ i) : (t.setIfInBounds i x)[k]? = t[k]? := by
  rw [Array.getElem?_setIfInBounds, if_neg (fun e => h e.symm)]

theorem Mid.call (m : Mid v a0 d b V Z T c al s a w) (hd : ∀ i j, d i = d j → i = j) (hdb : ∀ i j, d i ≠ b j) (hdz : ∀ j, d j < a0.tmps.size) (j : Fin 3) {w' : World} (hn : NoW w w') :
    Mid v a0 d b V Z T (up c j) al s (a.put (some (d j)) (.agg (V j))) w' := by
  obtain ⟨g, hg, hne⟩ := m.box
  refine ⟨m.low.trans hn (fun _ _ h => h), by simpa [Act.put] using m.size, m.defers, fun k h1 h2 => (put_far _ (h1 j)).trans (m.keep k h1 h2), fun i hi => ?_, m.imp, g, fun i hi => ?_, hne⟩
  · by_cases e : i = j
    · subst e; exact put_same _ (by rw [m.size]; exact hdz i)
    · rw [up_other c e] at hi
      exact (put_far _ (fun h => e (hd i j h))).trans (m.res i hi)
  · obtain ⟨h1, h2, h3⟩ := hg i hi
    exact ⟨(put_far _ (fun h => hdb j i h.symm)).trans h1, h2, (hn.block _ (Array.getElem?_eq_some_iff.1 h3).1 id).trans h3⟩

theorem Mid.make (m : Mid v a0 d b V Z T c al s a w) (hb : ∀ i j, b i = b j → i = j) (hdb : ∀ i j, d i ≠ b j) (hbz : ∀ j, b j < a0.tmps.size) (j : Fin 3) (hj : al j = false) :
    Mid v a0 d b V Z T c (up al j) s (a.put (some (b j)) (.pointer (some ⟨w.heap.size, 0, none⟩))) (w.alloc (.cells Z T)) := by
  obtain ⟨g, hg, hne⟩ := m.box
  have hn : NoW w (w.alloc (.cells Z T)) := (Fp.refl _ _).alloc _
  have hlt : ∀ i, al i = true → g i < w.heap.size := fun i hi => (Array.getElem?_eq_some_iff.1 (hg i hi).2.2).1
  refine ⟨m.low.trans hn (fun _ _ h => h), by simpa [Act.put] using m.size, m.defers, fun k h1 h2 => (put_far _ (h2 j)).trans (m.keep k h1 h2), fun i hi => (put_far _ (hdb i j)).trans (m.res i hi), fun i hi => ?_, fun k => if k = j then w.heap.size else g k, fun i hi => ?_, fun i k hik hi hk => ?_⟩
  · by_cases e : i = j
    · subst e; exact up_self _ _
    · rw [up_other al e]; exact m.imp i hi
  · by_cases e : i = j
    · subst e
      have hs : s i = false := by
        rcases h : s i
        · rfl
        · rw [m.imp i h] at hj; cases hj
      simp only [if_true, hs]
      exact ⟨put_same _ (by rw [m.size]; exact hbz i), m.low.size, heap_alloc_new _ _⟩
    · rw [up_other al e] at hi
      obtain ⟨h1, h2, h3⟩ := hg i hi
      simp only [if_neg e]
      exact ⟨(put_far _ (fun h => e (hb i j h))).trans h1, h2, (hn.block _ (Array.getElem?_eq_some_iff.1 h3).1 id).trans h3⟩
  · by_cases e : i = j
    · have e2 : k ≠ j := fun e2 => hik (e.trans e2.symm)
      rw [up_other al e2] at hk
      simp only [if_pos e, if_neg e2]
      have := hlt k hk; omega
    · rw [up_other al e] at hi
      by_cases e2 : k = j
      · simp only [if_neg e, if_pos e2]
        have := hlt i hi; omega
      · rw [up_other al e2] at hk
        simp only [if_neg e, if_neg e2]
        exact hne i k hik hi hk

theorem Mid.keepIn (m : Mid v a0 d b V Z T c al s a w) (j : Fin 3) (hj : al j = true) {w' : World} (h : ∀ g, a.tmps[b j]? = some (.pointer (some ⟨g, 0, none⟩)) → w'.heap[g]? = some (.cells (V j) T (0, 0)) ∧ Fp (fun k => k = g) w w') :
    Mid v a0 d b V Z T c al (up s j) a w' := by
  obtain ⟨g, hg, hne⟩ := m.box
  obtain ⟨h1, h2, h3⟩ := hg j hj
  obtain ⟨k1, k2⟩ := h _ h1
  refine ⟨m.low.trans k2 (fun i hi e => by have e' : i = g j := e; omega), m.size, m.defers, m.keep, m.res, fun i hi => ?_, g, fun i hi => ?_, hne⟩
  · by_cases e : i = j
    · subst e; exact hj
    · rw [up_other s e] at hi; exact m.imp i hi
  · obtain ⟨q1, q2, q3⟩ := hg i hi
    refine ⟨q1, q2, ?_⟩
    by_cases e : i = j
    · subst e; rw [up_self]; exact k1
    · rw [up_other s e]
      exact (k2.block _ (Array.getElem?_eq_some_iff.1 q3).1 (hne i j e hi hj)).trans q3

theorem act_eq (m : Mid v a0 d b V Z T c al s a w) (hc : ∀ j, c j = true) (ha : ∀ j, al j = true) (hb : ∀ i j, b i = b j → i = j) (hdd : ∀ i j, d i = d j → i = j) (hdz : ∀ j, d j < a0.tmps.size) (hbz : ∀ j, b j < a0.tmps.size) (g : Fin 3 → Nat)
    (r0 : a.tmps[b 0]? = some (.pointer (some ⟨g 0, 0, none⟩))) (r1 : a.tmps[b 1]? = some (.pointer (some ⟨g 1, 0, none⟩))) (r2 : a.tmps[b 2]? = some (.pointer (some ⟨g 2, 0, none⟩))) :
    a = { tmps := (((((a0.tmps.setIfInBounds (d 0) (.agg (V 0))).setIfInBounds (d 1) (.agg (V 1))).setIfInBounds (d 2) (.agg (V 2))).setIfInBounds (b 0) (.pointer (some ⟨g 0, 0, none⟩))).setIfInBounds (b 1) (.pointer (some ⟨g 1, 0, none⟩))).setIfInBounds (b 2) (.pointer (some ⟨g 2, 0, none⟩)), defers := a0.defers } := by
  have e1 := m.defers
  have d0 := m.res 0 (hc 0)
  have d1 := m.res 1 (hc 1)
  have d2 := m.res 2 (hc 2)
  have kp := m.keep
  clear m
  obtain ⟨t, df⟩ := a
  dsimp only at e1 d0 d1 d2 kp r0 r1 r2
  subst e1
  have nd01 : d 0 ≠ d 1 := fun e => absurd (hdd _ _ e) (by decide)
  have nd02 : d 0 ≠ d 2 := fun e => absurd (hdd _ _ e) (by decide)
  have nd12 : d 1 ≠ d 2 := fun e => absurd (hdd _ _ e) (by decide)
  have nb01 : b 0 ≠ b 1 := fun e => absurd (hb _ _ e) (by decide)
  have nb02 : b 0 ≠ b 2 := fun e => absurd (hb _ _ e) (by decide)
  have nb12 : b 1 ≠ b 2 := fun e => absurd (hb _ _ e) (by decide)
  have hx : t = (((((a0.tmps.setIfInBounds (d 0) (.agg (V 0))).setIfInBounds (d 1) (.agg (V 1))).setIfInBounds (d 2) (.agg (V 2))).setIfInBounds (b 0) (.pointer (some ⟨g 0, 0, none⟩))).setIfInBounds (b 1) (.pointer (some ⟨g 1, 0, none⟩))).setIfInBounds (b 2) (.pointer (some ⟨g 2, 0, none⟩)) := by
    apply Array.ext_getElem?
    intro k
    by_cases k2 : k = b 2
    · rw [k2, put_same _ (by simpa using hbz 2)]; exact r2
    rw [put_far _ k2]
    by_cases k1 : k = b 1
    · rw [k1, put_same _ (by simpa using hbz 1)]; exact r1
    rw [put_far _ k1]
    by_cases k0 : k = b 0
    · rw [k0, put_same _ (by simpa using hbz 0)]; exact r0
    rw [put_far _ k0]
    by_cases q2 : k = d 2
    · rw [q2, put_same _ (by simpa using hdz 2)]; exact d2
    rw [put_far _ q2]
    by_cases q1 : k = d 1
    · rw [q1, put_same _ (by simpa using hdz 1)]; exact d1
    rw [put_far _ q1]
    by_cases q0 : k = d 0
    · rw [q0, put_same _ (hdz 0)]; exact d0
    rw [put_far _ q0]
    exact kp k (fin3 q0 q1 q2) (fin3 k0 k1 k2)
  rw [hx]
theorem Mid.done (m : Mid v a0 d b V Z T c al s a w) (hc : ∀ j, c j = true) (ha : ∀ j, al j = true) (hs : ∀ j, s j = true) (hb : ∀ i j, b i = b j → i = j) (hdd : ∀ i j, d i = d j → i = j) (hdz : ∀ j, d j < a0.tmps.size) (hbz : ∀ j, b j < a0.tmps.size) :
    ∃ g0 g1 g2, a = { tmps := (((((a0.tmps.setIfInBounds (d 0) (.agg (V 0))).setIfInBounds (d 1) (.agg (V 1))).setIfInBounds (d 2) (.agg (V 2))).setIfInBounds (b 0) (.pointer (some ⟨g0, 0, none⟩))).setIfInBounds (b 1) (.pointer (some ⟨g1, 0, none⟩))).setIfInBounds (b 2) (.pointer (some ⟨g2, 0, none⟩)), defers := a0.defers } ∧
      v.heap.size ≤ g0 ∧ v.heap.size ≤ g1 ∧ v.heap.size ≤ g2 ∧ g0 ≠ g1 ∧ g0 ≠ g2 ∧ g1 ≠ g2 ∧ w.heap[g0]? = some (.cells (V 0) T (0, 0)) ∧ w.heap[g1]? = some (.cells (V 1) T (0, 0)) ∧ w.heap[g2]? = some (.cells (V 2) T (0, 0)) := by
  obtain ⟨g, hg, hne⟩ := m.box
  have r0 := hg 0 (ha 0)
  have r1 := hg 1 (ha 1)
  have r2 := hg 2 (ha 2)
  rw [hs 0] at r0
  rw [hs 1] at r1
  rw [hs 2] at r2
  refine ⟨g 0, g 1, g 2, ?_, r0.2.1, r1.2.1, r2.2.1, hne 0 1 (by decide) (ha _) (ha _), hne 0 2 (by decide) (ha _) (ha _), hne 1 2 (by decide) (ha _) (ha _), r0.2.2, r1.2.2, r2.2.2⟩
  exact act_eq m hc ha hb hdd hdz hbz g r0.1 r1.1 r2.1
end

/-- The region, from where the three loads were taken. -/
theorem boxes3 {P : Program} {ops : Array Oper} {md : Region.Mode} {Q : Exit → Act → World → Prop} {v w0 : World} {a0 : Act} {d b ld : Fin 3 → Nat} {V : Fin 3 → Array Value} {Z : Array Value} {T : TypeId}
    (hb : ∀ i j, b i = b j → i = j) (hdd : ∀ i j, d i = d j → i = j) (hdb : ∀ i j, d i ≠ b j) (hdz : ∀ j, d j < a0.tmps.size) (hbz : ∀ j, b j < a0.tmps.size)
    (hl : ∀ i j, ld i ≠ d j) (hl2 : ∀ i j, ld i ≠ b j)
    (hR : chkAll (Region.ready md ops) = true) (hv : NoW v w0)
    (hc : ∀ (j : Fin 3) (a : Act) (w : World), a.tmps[ld j]? = a0.tmps[ld j]? → ∃ o f args, ops[2 * j.val + 1]? = some o ∧ o.dst = some (d j) ∧ Region.wanted o (yielded ops a.tmps) = true ∧ (execOp a.eval o).run P w = .ok (.enter f args) w ∧
      (NoW v w → Calls P f args w (Ret1 (.agg (V j)) w)))
    (ha : ∀ (j : Fin 3) (a : Act) (w : World), ∃ o, ops[6 + j.val]? = some o ∧ o.dst = some (b j) ∧ Region.wanted o (yielded ops a.tmps) = true ∧ (execOp a.eval o).run P w = .ok (.value (.pointer (some ⟨w.heap.size, 0, none⟩))) (w.alloc (.cells Z T)))
    (hs : ∀ (j : Fin 3) (a : Act) (w : World) (g : Nat), a.tmps[b j]? = some (.pointer (some ⟨g, 0, none⟩)) → a.tmps[d j]? = some (.agg (V j)) → w.heap[g]? = some (.cells Z T (0, 0)) →
      ∃ o w' u, ops[9 + j.val]? = some o ∧ o.dst = none ∧ Region.wanted o (yielded ops a.tmps) = true ∧ (execOp a.eval o).run P w = .ok u w' ∧ (u = .skip ∨ ∃ x, u = .value x) ∧ w'.heap[g]? = some (.cells (V j) T (0, 0)) ∧ Fp (fun k => k = g) w w')
    (hq : ∀ (g0 g1 g2 : Nat) (w : World), NoW v w → v.heap.size ≤ g0 → v.heap.size ≤ g1 → v.heap.size ≤ g2 → g0 ≠ g1 → g0 ≠ g2 → g1 ≠ g2 → w.heap[g0]? = some (.cells (V 0) T (0, 0)) → w.heap[g1]? = some (.cells (V 1) T (0, 0)) → w.heap[g2]? = some (.cells (V 2) T (0, 0)) →
      Q .normal { tmps := (((((a0.tmps.setIfInBounds (d 0) (.agg (V 0))).setIfInBounds (d 1) (.agg (V 1))).setIfInBounds (d 2) (.agg (V 2))).setIfInBounds (b 0) (.pointer (some ⟨g0, 0, none⟩))).setIfInBounds (b 1) (.pointer (some ⟨g1, 0, none⟩))).setIfInBounds (b 2) (.pointer (some ⟨g2, 0, none⟩)), defers := a0.defers } w) :
    wpAnyH P md ops Q (fun wx => NoW v wx) 9 #[true, false, true, false, true, false, false, false, false, false, false, false] a0 w0 := by
  have hR' := chkAll_spec hR
  clear hR
  have key : ∀ (fuel : Nat) (c al s : Fin 3 → Bool) (a : Act) (w : World), nof c + nof al + nof s ≤ fuel → Mid v a0 d b V Z T c al s a w → wpAnyH P md ops Q (fun wx => NoW v wx) fuel (lst c al s) a w := by
    have fin : ∀ (c al s : Fin 3 → Bool) (a : Act) (w : World), full c al s = true → Mid v a0 d b V Z T c al s a w → Q .normal a w := by
      intro c al s a w hf m
      simp only [full, Bool.and_eq_true] at hf
      obtain ⟨⟨⟨⟨⟨⟨⟨⟨c0, c1⟩, c2⟩, q0⟩, q1⟩, q2⟩, s0⟩, s1⟩, s2⟩ := hf
      obtain ⟨g0, g1, g2, rfl, h⟩ := m.done (fin3 c0 c1 c2) (fin3 q0 q1 q2) (fin3 s0 s1 s2) hb hdd hdz hbz
      exact hq g0 g1 g2 w m.low h.1 h.2.1 h.2.2.1 h.2.2.2.1 h.2.2.2.2.1 h.2.2.2.2.2.1 h.2.2.2.2.2.2.1 h.2.2.2.2.2.2.2.1 h.2.2.2.2.2.2.2.2
    intro fuel
    induction fuel with
    | zero =>
      intro c al s a w hn m
      have hcc := hR' c al s
      have z1 := nof_zero (f := c) (by omega)
      have z2 := nof_zero (f := al) (by omega)
      have z3 := nof_zero (f := s) (by omega)
      have hf : full c al s = true := by simp [full, z1, z2, z3]
      simp only [chk, hf, Bool.and_eq_true, Bool.not_true, Bool.false_or] at hcc
      exact ⟨by simpa using hcc.2, fin _ _ _ _ _ hf m⟩
    | succ fuel ih =>
      intro c al s a w hn m
      have hcc := hR' c al s
      simp only [chk, Bool.and_eq_true, Bool.or_eq_true] at hcc
      obtain ⟨⟨h1, h2⟩, _⟩ := hcc
      refine ⟨fun e => fin _ _ _ _ _ (by rcases h2 with h2 | h2; (rw [e] at h2; simp at h2); exact h2) m, fun i hi => ?_⟩
      rcases okI_cases (List.all_eq_true.1 h1 i hi) with ⟨j, rfl, hj⟩ | ⟨j, rfl, hj⟩ | ⟨j, rfl, hj, hcj, haj⟩
      · obtain ⟨o, f, args, ho, hdst, hw, hrun, hcall⟩ := hc j a w (m.keep _ (hl j) (hl2 j))
        rw [lst_c]
        have hlt := nof_up c j hj
        unfold wpOp
        simp only [ho, hw, if_true]
        refine Or.inl ?_
        unfold Oper.wp
        rw [hrun, Oper.upon_enter]
        refine (hcall m.low).mono ?_
        rintro e w' ⟨rfl, hp⟩
        have m' := m.call hdd hdb hdz j hp
        rw [hdst]
        exact ⟨m'.low, ih _ _ _ _ _ (by omega) m'⟩
      · obtain ⟨o, ho, hdst, hw, hrun⟩ := ha j a w
        rw [lst_a]
        have hlt := nof_up al j hj
        unfold wpOp
        simp only [ho, hw, if_true]
        refine Or.inl ?_
        unfold Oper.wp
        rw [hrun, Oper.upon_value, hdst]
        have m' := m.make hb hdb hbz j hj
        exact ⟨m'.low, ih _ _ _ _ _ (by omega) m'⟩
      · obtain ⟨g, hg, _⟩ := m.box
        obtain ⟨r1, r2, r3⟩ := hg j haj
        rw [hj] at r3
        obtain ⟨o, w', u, ho, hdst, hw, hrun, hu, k1, k2⟩ := hs j a w (g j) r1 (m.res j hcj) r3
        rw [lst_s]
        have hlt := nof_up s j hj
        have m' := m.keepIn j haj (w' := w') (fun g' e => by
          obtain rfl : g' = g j := by rw [r1] at e; simpa using e.symm
          exact ⟨k1, k2⟩)
        have fin2 := And.intro m'.low (ih _ _ _ _ _ (by omega) m')
        unfold wpOp
        simp only [ho, hw, if_true]
        refine Or.inl ?_
        unfold Oper.wp
        rw [hrun]
        rcases hu with rfl | ⟨x, rfl⟩
        · rw [Oper.upon_skip, hdst]; exact fin2
        · rw [Oper.upon_value, hdst]; exact fin2
  refine key 9 (fun _ => false) (fun _ => false) (fun _ => false) a0 w0 (by simp [nof]) ⟨hv, rfl, rfl, fun _ _ _ => rfl, fun _ h => (by cases h), fun _ h => (by cases h), fun _ => 0, fun _ h => (by cases h), fun _ _ _ h => (by cases h)⟩
end Go.Proofs.YtaiimkcmgiceeaaDoor
