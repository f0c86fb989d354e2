/- What a reading of the arguments tells of their values, and the frame of a law's proof. -/
import Derived.Test.YtaiimkcmgiceeaaDoorBase
import Derived.ProofKit
import Derived.OpenShut
import Derived.ShutString
import Derived.ChangeOld
namespace Go.Proofs.YtaiimkcmgiceeaaDoor
set_option linter.unusedVariables false
set_option linter.unusedSimpArgs false
open Go.RowKit Go.ChangeShapes Go.WideShapes Go.ChangeAt

/-- The cells of a value of a type, as far as a law's walk wants them. -/
def Sees (P : Program) (w : World) : Nat → TypeId → List Value → Prop
  | 0, _, _ => False
  | n + 1, t, cs => match P.underlying t with
    | some .bool => ∃ b, cs = [.bool b]
    | some (.int k) => ∃ x, cs = [.int k x] ∧ (Lit.int k x).wf = true
    | some .string => ∃ s, cs = [.string s] ∧ s.size ≤ maxLen
    | some (.slice e) => cs = [.slice none 0 0] ∨ ∃ a len cap, cs = [.slice (some a) len cap] ∧ len ≤ cap ∧ cap ≤ maxLen ∧ ∀ i, i < cap → ∃ ds, w.cells? 0 (a.add (i * P.cellsOf e)) (P.cellsOf e) = some ds ∧ Sees P w n e ds
    | some (.struct fs) => cs.length = P.cellsOf t ∧ ∀ f, f ∈ fs.toList → Sees P w n f.type ((cs.drop f.offset).take (P.cellsOf f.type))
    | some (.array m e) => cs.length = P.cellsOf t ∧ ∀ i, i < m → Sees P w n e ((cs.drop (i * P.cellsOf e)).take (P.cellsOf e))
    | _ => True

theorem mapM_some {α β : Type} {f : α → Option β} : ∀ {l : List α} {r : List β}, l.mapM f = some r → ∀ a, a ∈ l → ∃ b, f a = some b
  | [], _, _, a, ha => by cases ha
  | x :: xs, r, h, a, ha => by
    simp only [List.mapM_cons, Option.bind_eq_bind, Option.bind_eq_some_iff] at h
    obtain ⟨b, hb, bs, hbs, _⟩ := h
    rcases List.mem_cons.1 ha with rfl | ha
    · exact ⟨b, hb⟩
    · exact mapM_some hbs a ha

theorem sees_of_trod {H : Type} {enc : TypeId × Value → H} {P : Program} {w : World} {held : Bool} : ∀ (n : Nat) (t : TypeId) (cs : List Value) (x : DataW H × List MemPlace),
    DataW.trod enc P w 0 (fun _ => true) held n t cs = some x → Sees P w n t cs
  | 0, _, _, _, h => by simp [DataW.trod] at h
  | n + 1, t, cs, x, h => by
    unfold Sees
    rcases hu : P.underlying t with _ | d
    · trivial
    cases d with
    | bool =>
      simp only [DataW.trod, hu] at h
      split at h <;> first | (simp_all; done) | skip
    | int k =>
      simp only [DataW.trod, hu] at h
      split at h <;> first | (simp_all; done) | skip
    | string =>
      simp only [DataW.trod, hu] at h
      split at h <;> first | (simp_all; done) | skip
    | slice e =>
      simp only [DataW.trod, hu] at h
      split at h <;> first | (simp_all; done) | skip
      rename_i a len cap heq
      cases heq
      refine Or.inr ⟨a, len, cap, rfl, ?_⟩
      split at h
      · rename_i hc
        refine ⟨hc.2.1, hc.2.2, fun i hi => ?_⟩
        simp only [Option.bind_eq_some_iff, Option.map_eq_some_iff, if_true] at h
        obtain ⟨elems, he, rest, hr, _⟩ := h
        have key : ∃ b, ((w.cells? 0 (a.add (i * P.cellsOf e)) (P.cellsOf e)).bind (DataW.trod enc P w 0 (fun _ => true) held n e)) = some b := by
          by_cases hl : i < len
          · exact mapM_some he i (List.mem_range.2 hl)
          · have := mapM_some hr (i - len) (List.mem_range.2 (by omega))
            rw [show len + (i - len) = i from by omega] at this
            exact this
        obtain ⟨b, hb⟩ := key
        obtain ⟨ds, h1, h2⟩ := Option.bind_eq_some_iff.1 hb
        exact ⟨ds, h1, sees_of_trod n e ds b h2⟩
      · cases h
    | struct fs =>
      simp only [DataW.trod, hu] at h
      split at h <;> first | (simp_all; done) | skip
      rename_i hc
      refine ⟨hc, fun f hf => ?_⟩
      obtain ⟨xs, hx, _⟩ := Option.map_eq_some_iff.1 h
      obtain ⟨b, hb⟩ := mapM_some hx f hf
      exact sees_of_trod n _ _ b hb
    | array m e =>
      simp only [DataW.trod, hu] at h
      split at h <;> first | (simp_all; done) | skip
      rename_i hc
      refine ⟨hc, fun i hi => ?_⟩
      obtain ⟨xs, hx, _⟩ := Option.map_eq_some_iff.1 h
      obtain ⟨b, hb⟩ := mapM_some hx i (List.mem_range.2 hi)
      exact sees_of_trod n _ _ b hb
    | _ => trivial

/-- A value of a type, and its cells. -/
def Good (P : Program) (w : World) (t : TypeId) (v : Value) : Prop :=
  (∃ n, Sees P w n t v.cells.toList) ∧ match P.underlying t with
    | some (.struct _) | some (.array _ _) => ∃ cs, v = .agg cs
    | _ => v.cells = #[v]

theorem good_of {H : Type} {enc : TypeId × Value → H} {P : Program} {w : World} {r : Reach} {base : Nat} {held : Bool} {t : TypeId} {v : Value} {d : DataW H} {ps : List MemPlace}
    (hv : Value.okWide P w r base t v) (h : DataW.Trod enc P w 0 (fun _ => true) held t v d ps) : Good P w t v := by
  obtain ⟨n, hn⟩ := h
  refine ⟨⟨n, sees_of_trod n t _ _ hn⟩, ?_⟩
  unfold Value.okWide at hv
  rcases hu : P.underlying t with _ | q
  · simp only [hu] at hv ⊢
    cases v <;> simp_all [Cell.okWide, Cell.ok, Value.cells]
  · cases q <;> simp only [hu] at hv ⊢ <;> first | (obtain ⟨cs, h1, _⟩ := hv; exact ⟨cs, h1⟩) | (cases v <;> simp_all [Cell.okWide, Cell.ok, Value.cells]; done) | skip

section
variable {P : Program} {w : World} {n : Nat} {t e : TypeId} {cs : List Value}
theorem sees_int {k : IntKind} (hu : P.underlying t = some (.int k)) (h : Sees P w n t cs) : ∃ x, cs = [.int k x] ∧ (Lit.int k x).wf = true := by
  cases n with
  | zero => exact h.elim
  | succ n => simpa only [Sees, hu] using h
theorem sees_bool (hu : P.underlying t = some .bool) (h : Sees P w n t cs) : ∃ b, cs = [.bool b] := by
  cases n with
  | zero => exact h.elim
  | succ n => simpa only [Sees, hu] using h
theorem sees_string (hu : P.underlying t = some .string) (h : Sees P w n t cs) : ∃ s, cs = [.string s] ∧ s.size ≤ maxLen := by
  cases n with
  | zero => exact h.elim
  | succ n => simpa only [Sees, hu] using h
theorem sees_slice (hu : P.underlying t = some (.slice e)) (h : Sees P w n t cs) : cs = [.slice none 0 0] ∨ ∃ m a len cap, cs = [.slice (some a) len cap] ∧ len ≤ cap ∧ cap ≤ maxLen ∧ ∀ i, i < cap → ∃ ds, w.cells? 0 (a.add (i * P.cellsOf e)) (P.cellsOf e) = some ds ∧ Sees P w m e ds := by
  cases n with
  | zero => exact h.elim
  | succ n => simp only [Sees, hu] at h; exact h.imp id fun ⟨a, len, cap, r⟩ => ⟨n, a, len, cap, r⟩
theorem sees_struct {fs : Array Field} (hu : P.underlying t = some (.struct fs)) (h : Sees P w n t cs) : cs.length = P.cellsOf t ∧ ∃ m, ∀ f, f ∈ fs.toList → Sees P w m f.type ((cs.drop f.offset).take (P.cellsOf f.type)) := by
  cases n with
  | zero => exact h.elim
  | succ n => simp only [Sees, hu] at h; exact ⟨h.1, n, h.2⟩
theorem sees_array {m : Nat} (hu : P.underlying t = some (.array m e)) (h : Sees P w n t cs) : cs.length = P.cellsOf t ∧ ∃ q, ∀ i, i < m → Sees P w q e ((cs.drop (i * P.cellsOf e)).take (P.cellsOf e)) := by
  cases n with
  | zero => exact h.elim
  | succ n => simp only [Sees, hu] at h; exact ⟨h.1, n, h.2⟩
theorem good_int {v : Value} {k : IntKind} (hu : P.underlying t = some (.int k)) (h : Good P w t v) : ∃ x, v = .int k x ∧ (Lit.int k x).wf = true := by
  obtain ⟨⟨n, hs⟩, hv⟩ := h
  simp only [hu] at hv
  rw [hv] at hs
  obtain ⟨x, e, hw⟩ := sees_int hu hs
  simp at e
  exact ⟨x, e, hw⟩
theorem good_bool {v : Value} (hu : P.underlying t = some .bool) (h : Good P w t v) : ∃ b, v = .bool b := by
  obtain ⟨⟨n, hs⟩, hv⟩ := h
  simp only [hu] at hv
  rw [hv] at hs
  obtain ⟨x, e⟩ := sees_bool hu hs
  simp at e
  exact ⟨x, e⟩
theorem good_string {v : Value} (hu : P.underlying t = some .string) (h : Good P w t v) : ∃ s, v = .string s ∧ s.size ≤ maxLen := by
  obtain ⟨⟨n, hs⟩, hv⟩ := h
  simp only [hu] at hv
  rw [hv] at hs
  obtain ⟨x, e, hw⟩ := sees_string hu hs
  simp at e
  exact ⟨x, e, hw⟩
theorem good_slice {v : Value} (hu : P.underlying t = some (.slice e)) (h : Good P w t v) : v = .slice none 0 0 ∨ ∃ m a len cap, v = .slice (some a) len cap ∧ len ≤ cap ∧ cap ≤ maxLen ∧ ∀ i, i < cap → ∃ ds, w.cells? 0 (a.add (i * P.cellsOf e)) (P.cellsOf e) = some ds ∧ Sees P w m e ds := by
  obtain ⟨⟨n, hs⟩, hv⟩ := h
  simp only [hu] at hv
  rw [hv] at hs
  rcases sees_slice hu hs with e | ⟨m, a, len, cap, e, r⟩
  · simp at e; exact Or.inl e
  · simp at e; exact Or.inr ⟨m, a, len, cap, e, r⟩
theorem good_struct {v : Value} {fs : Array Field} (hu : P.underlying t = some (.struct fs)) (h : Good P w t v) : ∃ cs n, v = .agg cs ∧ Sees P w n t cs.toList := by
  obtain ⟨⟨n, hs⟩, hv⟩ := h
  simp only [hu] at hv
  obtain ⟨cs, rfl⟩ := hv
  exact ⟨cs, n, rfl, hs⟩
end

theorem wf_u8 {x : Int} (h : (Lit.int .u8 x).wf = true) : 0 ≤ x ∧ x ≤ 255 := by
  simp [Lit.wf, IntKind.has, IntKind.min, IntKind.max, IntKind.signed, IntKind.bits] at h
  omega

theorem mapM_get {α β : Type} {f : α → Option β} : ∀ {l : List α} {r : List β}, l.mapM f = some r → r.length = l.length ∧ ∀ (j : Nat) (a : α), l[j]? = some a → f a = r[j]?
  | [], r, h => by simp at h; subst h; exact ⟨rfl, fun j a ha => by simp at ha⟩
  | x :: xs, r, h => by
    simp only [List.mapM_cons, Option.bind_eq_bind, Option.bind_eq_some_iff] at h
    obtain ⟨b, hb, bs, hbs, hr⟩ := h
    have hr : b :: bs = r := by simpa using hr
    subst hr
    obtain ⟨h1, h2⟩ := mapM_get hbs
    refine ⟨by simp [h1], fun j a ha => ?_⟩
    cases j with
    | zero => simp at ha; subst ha; simpa using hb
    | succ j => simp at ha; simpa using h2 j a ha

theorem add_eq (b o i : Nat) : (⟨b, o, none⟩ : Addr).add i = ⟨b, o + i, none⟩ := by
  unfold Addr.add
  split
  · subst_vars; rfl
  · rfl

/-- A slice that came in, its elements of 'size' cells each. -/
theorem good_rows {P : Program} {w : World} {t e : TypeId} {v : Value} {size : Nat} (hu : P.underlying t = some (.slice e)) (hc : P.cellsOf e = size) (hs : 0 < size) (h : Good P w t v) :
    ∃ a len cap, v = .slice a len cap ∧ len ≤ cap ∧ cap ≤ maxLen ∧ ∃ (m : Nat) (rows : Nat → List Value), (∀ i, i < cap → (rows i).length = size ∧ Sees P w m e (rows i)) ∧
      (0 < cap → ∃ b o, a = some ⟨b, o, none⟩ ∧ ∀ i, i < cap → ∀ j, j < size → w.cell? ⟨b, o + i * size + j, none⟩ = (rows i)[j]?) := by
  rcases good_slice hu h with rfl | ⟨m, a, len, cap, rfl, h1, h2, h3⟩
  · exact ⟨none, 0, 0, rfl, Nat.le_refl _, Nat.zero_le _, 0, fun _ => [], fun i hi => by omega, fun h => by omega⟩
  · rw [hc] at h3
    have key : ∀ i, ∃ ds, i < cap → w.cells? 0 (a.add (i * size)) size = some ds ∧ Sees P w m e ds := fun i => by
      by_cases hi : i < cap
      · obtain ⟨ds, hd⟩ := h3 i hi; exact ⟨ds, fun _ => hd⟩
      · exact ⟨[], fun h => absurd h hi⟩
    obtain ⟨rows, hrows⟩ : ∃ rows : Nat → List Value, ∀ i, i < cap → w.cells? 0 (a.add (i * size)) size = some (rows i) ∧ Sees P w m e (rows i) := ⟨fun i => Classical.choose (key i), fun i hi => Classical.choose_spec (key i) hi⟩
    clear key h3
    refine ⟨some a, len, cap, rfl, h1, h2, m, rows, fun i hi => ?_, fun hpos => ?_⟩
    · obtain ⟨k1, k2⟩ := hrows i hi
      refine ⟨?_, k2⟩
      unfold World.cells? at k1
      rw [if_pos (Nat.zero_le _)] at k1
      have := (mapM_get k1).1
      simpa using this
    · have hsp : a.spot = none := by
        obtain ⟨k1, _⟩ := hrows 0 hpos
        unfold World.cells? at k1
        rw [if_pos (Nat.zero_le _)] at k1
        have hk := mapM_get k1
        have h0 := hk.2 0 0 (by simp [hs])
        rw [List.getElem?_eq_getElem (by rw [hk.1]; simpa using hs)] at h0
        have e : (a.add 0).add 0 = a := by simp [Addr.add]
        have h0' := World.cell?_spot h0
        simp only [Nat.zero_mul] at h0'
        rw [e] at h0'
        exact h0'
      obtain ⟨b, o, sp⟩ := a
      obtain rfl : sp = none := hsp
      refine ⟨b, o, rfl, fun i hi j hj => ?_⟩
      obtain ⟨k1, _⟩ := hrows i hi
      unfold World.cells? at k1
      rw [if_pos (Nat.zero_le _)] at k1
      have := (mapM_get k1).2 j j (by simp [hj])
      rw [add_eq, add_eq] at this
      exact this

/-- A slice of bytes that came in. -/
theorem good_bytes {P : Program} {w : World} {t e : TypeId} {v : Value} (hu : P.underlying t = some (.slice e)) (he : P.underlying e = some (.int .u8)) (hc : P.cellsOf e = 1) (h : Good P w t v) :
    ∃ a len cap, v = .slice a len cap ∧ len ≤ maxLen ∧ ∃ z : Nat → Int, (∀ i, i < len → 0 ≤ z i ∧ z i ≤ 255) ∧ (0 < len → ∃ b o, a = some ⟨b, o, none⟩ ∧ ∀ i, i < len → w.cell? ⟨b, o + i, none⟩ = some (.int .u8 (z i))) := by
  obtain ⟨a, len, cap, rfl, h1, h2, m, rows, h3, h4⟩ := good_rows hu hc (by omega) h
  have key : ∀ i, ∃ x, i < cap → rows i = [.int .u8 x] ∧ 0 ≤ x ∧ x ≤ 255 := fun i => by
    by_cases hi : i < cap
    · obtain ⟨x, e, hw⟩ := sees_int he (h3 i hi).2
      exact ⟨x, fun _ => ⟨e, wf_u8 hw⟩⟩
    · exact ⟨0, fun h => absurd h hi⟩
  obtain ⟨z, hz⟩ : ∃ z : Nat → Int, ∀ i, i < cap → rows i = [.int .u8 (z i)] ∧ 0 ≤ z i ∧ z i ≤ 255 := ⟨fun i => Classical.choose (key i), fun i hi => Classical.choose_spec (key i) hi⟩
  refine ⟨a, len, cap, rfl, by omega, z, fun i hi => (hz i (by omega)).2, fun hpos => ?_⟩
  obtain ⟨b, o, e, hcell⟩ := h4 (by omega)
  refine ⟨b, o, e, fun i hi => ?_⟩
  have := hcell i (by omega) 0 (by omega)
  rw [(hz i (by omega)).1] at this
  simpa using this
end Go.Proofs.YtaiimkcmgiceeaaDoor
