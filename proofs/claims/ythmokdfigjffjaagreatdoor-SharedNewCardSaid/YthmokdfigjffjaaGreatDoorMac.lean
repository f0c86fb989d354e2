/- Texts of this proof, merged: Sxe Sxf. -/
import Derived.Test.YthmokdfigjffjaaGreatDoorMab
namespace Go.Proofs.YthmokdfigjffjaaGreatDoor
set_option linter.unusedVariables false
set_option linter.unusedSimpArgs false
open Go.RowKit
noncomputable section

theorem Blk.keep {e : Blk} {w w' : World} (h : e.sat w) (hh : w'.heap[e.b]? = w.heap[e.b]?) : e.sat w' := by
  obtain ⟨b, u, cs, T⟩ := e
  cases T with
  | row => exact fun k v hk => ⟨(World.cell?_of_block (w := w) hh).trans (h k v hk).1, (World.frozen?_of_block (w := w) hh).trans (h k v hk).2⟩
  | grow N => exact ⟨fun k v hk => ⟨(World.cell?_of_block (w := w) hh).trans (h.1 k v hk).1, (World.frozen?_of_block (w := w) hh).trans (h.1 k v hk).2⟩, h.2.1, h.2.2.1, fun k hk => by
      have := h.2.2.2 k hk
      rw [← World.cell?_of_block (w := w) (a := ⟨b, k, none⟩) hh, ← World.frozen?_of_block (w := w) (a := ⟨b, k, none⟩) hh] at this
      exact this⟩
  | map ks vs => exact MapIs.of_block h hh
  | pin t o z => exact ⟨hh.trans h.1, h.2⟩
  | defr => exact hh.trans h
  | loop ld => obtain ⟨k, st, cs', tmps, fn, h1, h2, h3⟩ := h; exact ⟨k, st, cs', tmps, fn, h1, hh.trans h2, h3⟩
  | obj T => exact ⟨hh.trans h.1, h.2⟩
theorem Ext.setV {L : Hp} {j : Nat} {e : Blk} (he : L[j]? = some e) {cs : List CV} (hc : e.void → cs = []) : Ext L (L.set j { e with cs := cs }) := fun i f hf => by
  by_cases h : i = j
  · subst h
    rw [he] at hf
    obtain rfl := Option.some.inj hf
    have hlt := (List.getElem?_eq_some_iff.1 he).1
    exact ⟨{ e with cs := cs }, by simp [hlt], rfl, rfl, Or.inr ⟨rfl, fun q => ⟨q.1, hc q⟩⟩⟩
  · exact ⟨f, by rw [List.getElem?_set_ne (Ne.symm h)]; exact hf, rfl, rfl, Or.inr ⟨rfl, id⟩⟩
theorem void_len {e : Blk} {cs : List CV} (hc : cs.length = e.cs.length) (q : e.void) : cs = [] := by
  have := q.2
  rw [this] at hc
  exact List.length_eq_zero_iff.1 hc
theorem Ext.set {L : Hp} {j : Nat} {e : Blk} (he : L[j]? = some e) {cs : List CV} (hc : cs.length = e.cs.length) : Ext L (L.set j { e with cs := cs }) := Ext.setV he (void_len hc)
theorem Ext.push (L M : Hp) : Ext L (L ++ M) := fun i f hf => ⟨f, by rw [List.getElem?_append_left (List.getElem?_eq_some_iff.1 hf).1]; exact hf, rfl, rfl, Or.inr ⟨rfl, id⟩⟩
theorem Apart.setV {L : Hp} (h : Apart L) {j : Nat} {e e' : Blk} (he : L[j]? = some e) (hb' : e'.b = e.b) (hc : e.void → e'.void) : Apart (L.set j e') := fun i k f g hf hg hik hb => by
  have key : ∀ (i : Nat) (f : Blk), (L.set j e')[i]? = some f → ∃ f0 : Blk, L[i]? = some f0 ∧ f0.b = f.b ∧ (f0.void → f.void) := fun i f hf => by
    by_cases q : i = j
    · subst q
      have hlt := (List.getElem?_eq_some_iff.1 he).1
      simp [hlt] at hf
      subst hf
      exact ⟨e, he, hb'.symm, hc⟩
    · rw [List.getElem?_set_ne (Ne.symm q)] at hf
      exact ⟨f, hf, rfl, id⟩
  obtain ⟨f0, h1, h2, h3⟩ := key i f hf
  obtain ⟨g0, k1, k2, k3⟩ := key k g hg
  exact (h i k f0 g0 h1 k1 hik (h2.trans (hb.trans k2.symm))).imp h3 k3
theorem Apart.set {L : Hp} (h : Apart L) {j : Nat} {e : Blk} (he : L[j]? = some e) {cs : List CV} (hc : cs.length = e.cs.length) : Apart (L.set j { e with cs := cs }) := h.setV he rfl fun q => ⟨q.1, void_len hc q⟩
theorem Apart.push {L : Hp} (h : Apart L) {e : Blk} (hn : ∀ f ∈ L, f.b = e.b → f.void) : Apart (L ++ [e]) := fun i k f g hf hg hik hb => by
  have key : ∀ (i : Nat) (f : Blk), (L ++ [e])[i]? = some f → (i < L.length ∧ L[i]? = some f) ∨ (i = L.length ∧ f = e) := fun i f hf => by
    rcases Nat.lt_trichotomy i L.length with q | q | q
    · rw [List.getElem?_append_left q] at hf; exact Or.inl ⟨q, hf⟩
    · subst q; simp at hf; exact Or.inr ⟨rfl, hf.symm⟩
    · rw [List.getElem?_eq_none (by simp; omega)] at hf; cases hf
  rcases key i f hf with ⟨_, h1⟩ | ⟨h1, rfl⟩ <;> rcases key k g hg with ⟨_, k1⟩ | ⟨k1, rfl⟩
  · exact h i k f g h1 k1 hik hb
  · exact Or.inl (hn f (List.mem_of_getElem? h1) hb)
  · exact Or.inr (hn g (List.mem_of_getElem? k1) hb.symm)
  · exact absurd (h1.trans k1.symm) hik
/-- Cells that were stored, and those beside them. -/
theorem row_store {w : World} {b u o : Nat} {es cs vs : List CV} (old : ∀ k x, es[k]? = some x → w.cell? ⟨b, u + k, none⟩ = some x.den ∧ w.frozen? ⟨b, u + k, none⟩ = false)
    (there : ∀ k, o ≤ k → k < o + vs.length → (w.cell? ⟨b, u + k, none⟩).isSome = true ∧ w.frozen? ⟨b, u + k, none⟩ = false)
    (h3 : ∀ k x, cs[k]? = some x → (if o ≤ k ∧ k < o + vs.length then vs[k - o]? else es[k]?) = some x) :
    ∀ k v, (cs.map CV.den)[k]? = some v → (stW w b (u + o) (vs.map CV.den)).cell? ⟨b, u + k, none⟩ = some v ∧ (stW w b (u + o) (vs.map CV.den)).frozen? ⟨b, u + k, none⟩ = false := by
  intro k v hk
  rw [List.getElem?_map] at hk
  rcases hx : cs[k]? with _ | x
  · rw [hx] at hk; cases hk
  rw [hx] at hk
  obtain rfl : x.den = v := by simpa using hk
  have h4 := h3 k x hx
  obtain ⟨oc, of⟩ : (w.cell? ⟨b, u + k, none⟩).isSome = true ∧ w.frozen? ⟨b, u + k, none⟩ = false := by
    by_cases hc : o ≤ k ∧ k < o + vs.length
    · exact there k hc.1 hc.2
    · rw [if_neg hc] at h4
      have := old k x h4
      exact ⟨by rw [this.1]; rfl, this.2⟩
  obtain ⟨c, T, fr, hb⟩ : ∃ c T fr, w.heap[b]? = some (.cells c T fr) := by
    unfold World.cell? at oc
    split at oc <;> first | (cases oc; done) | exact ⟨_, _, _, by assumption⟩
  obtain ⟨c', q1, q2, q3⟩ := stW_self (vs.map CV.den) (u + o) w _ hb
  have hcs : u + k < c.size := by
    rcases Nat.lt_or_ge (u + k) c.size with q | q
    · exact q
    · simp [World.cell?, hb] at oc; omega
  refine ⟨?_, ?_⟩
  · simp only [World.cell?, q1, Option.isSome_none, Bool.false_eq_true, if_false]
    rw [q3 (u + k)]
    by_cases hc : o ≤ k ∧ k < o + vs.length
    · rw [if_pos hc] at h4
      rw [if_pos ⟨by omega, by simp; omega, hcs⟩]
      have : u + k - (u + o) = k - o := by omega
      rw [this, List.getElem?_map, h4]; rfl
    · rw [if_neg hc] at h4
      rw [if_neg (fun q => hc ⟨by omega, by have := q.2.1; simp at this; omega⟩)]
      have := (old k x h4).1
      simpa [World.cell?, hb] using this
  · simp only [World.frozen?, q1]
    simpa [World.frozen?, hb] using of
theorem there_store {w : World} {b n : Nat} {o : Nat} {vs : List Value} (h : ∀ k, k < n → (w.cell? ⟨b, k, none⟩).isSome = true ∧ w.frozen? ⟨b, k, none⟩ = false) : ∀ k, k < n → ((stW w b o vs).cell? ⟨b, k, none⟩).isSome = true ∧ (stW w b o vs).frozen? ⟨b, k, none⟩ = false := fun k hk => by
  obtain ⟨oc, of⟩ := h k hk
  obtain ⟨c, T, fr, hb⟩ : ∃ c T fr, w.heap[b]? = some (.cells c T fr) := by
    unfold World.cell? at oc
    split at oc <;> first | (cases oc; done) | exact ⟨_, _, _, by assumption⟩
  obtain ⟨c', q1, q2, q3⟩ := stW_self vs o w _ hb
  have hcs : k < c.size := by
    rcases Nat.lt_or_ge k c.size with q | q
    · exact q
    · simp [World.cell?, hb] at oc; omega
  refine ⟨?_, ?_⟩
  · have : k < c'.size := by omega
    simp [World.cell?, q1, this]
  · simp only [World.frozen?, q1]
    simpa [World.frozen?, hb] using of
/-- A block whose cells were stored into; it may have grown by them. -/
theorem St.put {σ : Hs} {w : World} (h : St σ w) {j : Nat} {e : Blk} (he : σ.L[j]? = some e) {o : Nat} {vs cs : List CV} (hv : ∀ x ∈ vs, x.ok σ.L)
    (hne : e.void → vs = []) (hsat : Blk.sat { e with cs := cs } (stW w e.b (e.u + o) (vs.map CV.den)))
    (h3 : ∀ k x, cs[k]? = some x → (if o ≤ k ∧ k < o + vs.length then vs[k - o]? else e.cs[k]?) = some x) (hx : Ext σ.L (σ.L.set j { e with cs := cs })) (hap : Apart (σ.L.set j { e with cs := cs })) :
    St { σ with L := σ.L.set j { e with cs := cs } } (stW w e.b (e.u + o) (vs.map CV.den)) := by
  have hm := List.mem_of_getElem? he
  have hmem : ∀ f, f ∈ σ.L.set j { e with cs := cs } → f = { e with cs := cs } ∨ ∃ i, i ≠ j ∧ σ.L[i]? = some f := fun f hf => by
    obtain ⟨i, hi⟩ := List.mem_iff_getElem?.1 hf
    by_cases hij : i = j
    · subst hij
      have hlt := (List.getElem?_eq_some_iff.1 he).1
      simp [hlt] at hi
      exact Or.inl hi.symm
    · rw [List.getElem?_set_ne (Ne.symm hij)] at hi
      exact Or.inr ⟨i, hij, hi⟩
  have hds : ∀ x ∈ cs, x.ok σ.L := fun x hx => by
    obtain ⟨k, hk⟩ := List.mem_iff_getElem?.1 hx
    have hk := h3 k x hk
    split at hk
    · exact hv x (List.mem_of_getElem? hk)
    · exact h.ok e hm x (List.mem_of_getElem? hk)
  obtain ⟨so, st, su, ss⟩ := stW_same (b := e.b) (vs.map CV.den) (e.u + o) w
  refine ⟨fun f hf => ?_, fun f hf x hxx => ?_, hap, fun f hf => ?_, ⟨so.trans h.fp.os, st.trans h.fp.tape, su.trans h.fp.output, by rw [ss]; exact h.fp.size, fun k hk hn => ?_⟩⟩
  · rcases hmem f hf with rfl | ⟨i, hi, hfi⟩
    · exact hsat
    · by_cases hb : f.b = e.b
      · rcases h.nd i j f e hfi he hi hb with q | q
        · exact Blk.void_sat q _
        · obtain rfl := hne q
          exact h.sat f (List.mem_of_getElem? hfi)
      · exact Blk.keep (h.sat f (List.mem_of_getElem? hfi)) (stW_other hb _ _ _)
  · rcases hmem f hf with rfl | ⟨i, hi, hfi⟩
    · exact (hds x hxx).ext hx
    · exact (h.ok f (List.mem_of_getElem? hfi) x hxx).ext hx
  · rw [ss]
    rcases hmem f hf with rfl | ⟨i, hi, hfi⟩
    · exact h.lt e hm
    · exact h.lt f (List.mem_of_getElem? hfi)
  · have hlt := (List.getElem?_eq_some_iff.1 he).1
    have hme : { e with cs := cs } ∈ σ.L.set j { e with cs := cs } := List.mem_of_getElem? (i := j) (by simp [hlt])
    have hne : k ≠ e.b := fun q => hn (Or.inr ⟨{ e with cs := cs }, hme, q.symm⟩)
    rw [stW_other hne]
    refine h.fp.block k hk (fun q => hn ?_)
    rcases q with q | ⟨f, hf, rfl⟩
    · exact Or.inl q
    · obtain ⟨i, hi⟩ := List.mem_iff_getElem?.1 hf
      obtain ⟨f', h1', h2', _⟩ := hx i f hi
      exact Or.inr ⟨f', List.mem_of_getElem? h1', h2'⟩
theorem St.store {σ : Hs} {w : World} (h : St σ w) {j : Nat} {e : Blk} (he : σ.L[j]? = some e) (hu : e.T.isC = true) {o : Nat} {vs cs : List CV} (hs : setN e.cs o vs = some cs) (hv : ∀ x ∈ vs, x.ok σ.L) :
    St { σ with L := σ.L.set j { e with cs := cs } } (stW w e.b (e.u + o) (vs.map CV.den)) := by
  obtain ⟨h1, h2, h3⟩ := setN_ok hs
  have hm := List.mem_of_getElem? he
  have hsat := h.sat _ hm
  have old : ∀ k x, e.cs[k]? = some x → w.cell? ⟨e.b, e.u + k, none⟩ = some x.den ∧ w.frozen? ⟨e.b, e.u + k, none⟩ = false := fun k x hk => Blk.cell hsat hu hk
  have there : ∀ k, o ≤ k → k < o + vs.length → (w.cell? ⟨e.b, e.u + k, none⟩).isSome = true ∧ w.frozen? ⟨e.b, e.u + k, none⟩ = false := fun k _ hk => by
    have := old k _ (List.getElem?_eq_getElem (show k < e.cs.length by omega))
    exact ⟨by rw [this.1]; rfl, this.2⟩
  have h3' : ∀ k x, cs[k]? = some x → (if o ≤ k ∧ k < o + vs.length then vs[k - o]? else e.cs[k]?) = some x := fun k x hk => by rw [← h3 k]; exact hk
  have hrow := row_store old there h3'
  refine h.put he hv (fun q => ?_) ?_ h3' (Ext.set he h2) (h.nd.set he h2)
  · have q2 : e.cs.length = 0 := by rw [q.2]; rfl
    exact List.length_eq_zero_iff.1 (by omega)
  obtain ⟨b, u, es, T⟩ := e
  cases T with
  | row => exact hrow
  | grow N => exact ⟨hrow, hsat.2.1, by have := hsat.2.2.1; simp only at this h2 ⊢; omega, there_store hsat.2.2.2⟩
  | map ks vs => cases hu
  | pin o ks vs => cases hu
  | defr => cases hu
  | loop ld => cases hu
  | obj T =>
    obtain ⟨g1, g2⟩ := hsat
    simp only at g1 g2 h1 h2 h3 ⊢
    subst g2
    obtain ⟨c', q1, q2, q3⟩ := stW_self (vs.map CV.den) (0 + o) w _ g1
    refine ⟨?_, rfl⟩
    rw [q1]
    congr 2
    apply Array.ext_getElem?
    intro k
    rw [q3 k]
    simp only [List.getElem?_toArray, List.getElem?_map, h3 k, List.length_map, List.size_toArray, Nat.zero_add]
    by_cases hc : o ≤ k ∧ k < o + vs.length
    · rw [if_pos hc, if_pos ⟨hc.1, hc.2, by omega⟩]
    · rw [if_neg hc, if_neg (fun q => hc ⟨q.1, q.2.1⟩)]
theorem St.new {σ : Hs} {w : World} (h : St σ w) {cs : List CV} (hc : ∀ x ∈ cs, x.ok σ.L) (T : TypeId) :
    St { σ with L := σ.L ++ [⟨w.heap.size, 0, cs, .obj T⟩] } (w.alloc (.cells (cs.map CV.den).toArray T)) := by
  have hx := Ext.push σ.L [⟨w.heap.size, 0, cs, .obj T⟩]
  refine ⟨fun f hf => ?_, fun f hf x hxx => ?_, h.nd.push fun f hf q => absurd (h.lt f hf) (by simp only at q; omega), fun f hf => ?_, ?_⟩
  · rcases List.mem_append.1 hf with hf | hf
    · exact Blk.keep (h.sat f hf) (Below.heap_alloc _ _ _ (h.lt f hf))
    · obtain rfl := List.mem_singleton.1 hf
      exact ⟨heap_new w _ _ rfl, rfl⟩
  · rcases List.mem_append.1 hf with hf | hf
    · exact (h.ok f hf x hxx).ext hx
    · obtain rfl := List.mem_singleton.1 hf
      exact (hc x hxx).ext hx
  · have hsz : (w.alloc (.cells (cs.map CV.den).toArray T)).heap.size = w.heap.size + 1 := by simp
    rw [hsz]
    rcases List.mem_append.1 hf with hf | hf
    · exact Nat.lt_succ_of_lt (h.lt f hf)
    · obtain rfl := List.mem_singleton.1 hf
      exact Nat.lt_succ_self _
  · refine (h.fp.mono fun i _ hi => ?_).alloc _
    rcases hi with hi | ⟨f, hf, rfl⟩
    · exact Or.inl hi
    · exact Or.inr ⟨f, List.mem_append_left _ hf, rfl⟩
end
end Go.Proofs.YthmokdfigjffjaaGreatDoor

namespace Go.Proofs.YthmokdfigjffjaaGreatDoor
set_option linter.unusedVariables false
set_option linter.unusedSimpArgs false
open Go.RowKit
noncomputable section

inductive Eff where
  | no
  | val (x : SV)
  | upd (j : Nat) (L : Hp)
  | new (cs : List CV) (T : TypeId)
  | newS (cs : List CV) (T : TypeId) (n : Nat)
def valsE : SV → Option (List CV)
  | .e (.c x) => some [x]
  | .e (.a l) => some l
  | _ => none
def ldS (r : TR) (L : Hp) (j o : Nat) : Eff :=
  match L[j]? with
  | some e => bif e.T.isC then (match rdS r e.cs o with
    | some v => .val v
    | none => .no) else .no
  | none => .no
/-- The block with other cells (the kernel finds its parts at once). -/
def mkB (e : Blk) (cs : List CV) : Blk := match e with
  | ⟨b, u, _, T⟩ => ⟨b, u, cs, T⟩
theorem mkB_eq (e : Blk) (cs : List CV) : mkB e cs = { e with cs := cs } := by cases e; rfl
def stS (r : TR) (L : Hp) (j o : Nat) (y : SV) : Eff :=
  match L[j]?, valsE y with
  | some e, some vs => bif Nat.beq vs.length r.size && e.T.isC then (match setN e.cs o vs with
    | some cs => .upd j (L.set j (mkB e cs))
    | none => .no) else .no
  | _, _ => .no
/-- The parts of a struct, or an array, laid into its cells. -/
def fillS (pl : Nat → Option (Nat × Nat)) (F : Fr) : List CV → List (Nat × Operand) → Option (List CV)
  | cs, [] => some cs
  | cs, (i, x) :: r => match pl i, evO F x with
    | some (o, s), some y => (match valsE y with
      | some vs => bif Nat.beq vs.length s then (match setN cs o vs with
        | some cs' => fillS pl F cs' r
        | none => none) else none
      | none => none)
    | _, _ => none
def plF (fs : List (Nat × Nat × Nat × Nat)) (i : Nat) : Option (Nat × Nat) :=
  match fs[i]? with
  | some (o, s + 1, _, _) => some (o, s + 1)
  | _ => none
def buildS (tb : Tbx) (F : Fr) (T : TypeId) (ps : List (Nat × Operand)) : Option SV :=
  match tbl tb T with
  | some ⟨.struct _ fs, sz, z⟩ => bif Nat.beq z.length sz && fs.all (fun f => Nat.blt 0 f.2.1) then (match fillS (plF fs) F z ps with
    | some cs => some (.e (.a cs))
    | none => none) else none
  | some ⟨.array _ e, sz, z⟩ => bif Nat.beq z.length sz then (match tbl tb e with
    | some r => (match fillS (fun i => some (i * r.size, r.size)) F z ps with
      | some cs => some (.e (.a cs))
      | none => none)
    | none => none) else none
  | _ => none
def repN : Nat → List CV → List CV
  | 0, _ => []
  | n + 1, z => z ++ repN n z
/-- A slice of no cells. -/
def bs0 : Nat → TypeId → Nat → List (Nat × Operand) → Eff
  | 0, e, n, [] => .newS [] e n
  | _, _, _, _ => .no
theorem bs0_cases (m : Nat) (e : TypeId) (n : Nat) (ps : List (Nat × Operand)) : bs0 m e n ps = .no ∨ m = 0 ∧ ps = [] ∧ bs0 m e n ps = .newS [] e n := by
  unfold bs0; split
  · exact Or.inr ⟨rfl, rfl, rfl⟩
  · exact Or.inl rfl
def bsS (tb : Tbx) (F : Fr) (T : TypeId) (n : Nat) (ps : List (Nat × Operand)) : Eff :=
  match tbl tb T with
  | some ⟨.slice e, _, _⟩ => (match tbl tb e with
    | some r => bif Nat.beq r.zero.length r.size && (Nat.blt 0 (n * r.size) && Nat.ble (n * r.size) 16777216) then (match fillS (fun i => some (i * r.size, r.size)) F (repN n r.zero) ps with
      | some cs => .newS cs e n
      | none => .no) else bs0 (n * r.size) e n ps
    | none => .no)
  | _ => .no
def evLF (F : Fr) : List Operand → Option (List SV)
  | [] => some []
  | x :: l => match evO F x, evLF F l with
    | some y, some r => some (y :: r)
    | _, _ => none
def capP : List SV → Option (List (Nat × Nat × Nat))
  | [] => some []
  | .e (.c (.p j b o)) :: l => match capP l with
    | some r => some ((j, b, o) :: r)
    | none => none
  | _ => none
/-- A function with what it brings. -/
def mfV (fn : Fn) (a b : List SV) : SV :=
  match fn, capP a, capP b with
  | .func g, some fs, some cs => .e (.c (.f g fs cs))
  | _, _, _ => .e (.c (.v (.func fn (a.map SV.den).toArray (b.map SV.den).toArray)))
def effS (tb : Tbx) (F : Fr) (L : Hp) : Op → Eff
  | .load T x => match tbl tb T, evO F x with
    | some r, some (.e (.c (.p j _ o))) => ldS r L j o
    | some r, some (.e (.c (.q j _ _ o))) => ldS r L j o
    | _, _ => .no
  | .store T x y => match tbl tb T, evO F x, evO F y with
    | some r, some (.e (.c (.p j _ o))), some y => stS r L j o y
    | some r, some (.e (.c (.q j _ _ o))), some y => stS r L j o y
    | _, _, _ => .no
  | .alloc T => match tbl tb T with
    | some r => bif Nat.beq r.zero.length r.size then .new r.zero T else .no
    | none => .no
  | .box T x => match evO F x with
    | some y => (match valsE y with
      | some vs => .new vs T
      | none => .no)
    | none => .no
  | .build T ps => match buildS tb F T ps.toList with
    | some v => .val v
    | none => .no
  | .buildSlice T n ps => bsS tb F T n ps.toList
  | .makeFunc fn first cap => match evLF F first.toList, evLF F cap.toList with
    | some a, some b => .val (mfV fn a b)
    | _, _ => .no
  | op => match pureS tb F op with
    | some v => .val v
    | none => .no
section
variable {P : Program} {tb : Tbx} {n : Nz} {a : Act} {F : Fr} {w : World} {σ : Hs}
theorem valsE_ok {L : Hp} {y : SV} {vs : List CV} (h : valsE y = some vs) (hy : y.ok L) : y.den.cells.toList = vs.map CV.den ∧ ∀ x ∈ vs, x.ok L := by
  rcases y with (y | y) | y <;> simp only [valsE] at h <;> first | (cases h; done) | skip
  · obtain rfl := Option.some.inj h
    refine ⟨?_, fun x hx => by obtain rfl := List.mem_singleton.1 hx; exact hy⟩
    cases y with
    | v x => cases x <;> first | rfl | (exact absurd (show false = true from hy) (by simp))
    | _ => rfl
  · obtain rfl := Option.some.inj h
    exact ⟨by simp [SV.den, EV.den, Value.cells], hy⟩
theorem one_den {L : Hp} {x : CV} (h : x.ok L) : x.den.oneCell' = true := by
  cases x with
  | v x => exact h
  | _ => rfl
theorem ldS_ok (hT : TbOk P tb) (hS : St σ w) {T : TypeId} {r : TR} (hr : tbl tb T = some r) {j b u o : Nat} (hj : ∃ e : Blk, σ.L[j]? = some e ∧ e.b = b ∧ e.u = u) {v : SV} (h : ldS r σ.L j o = .val v) :
    (loadVar T ⟨b, u + o, none⟩).run P w = .ok v.den w ∧ v.ok σ.L := by
  obtain ⟨e, he, rfl, rfl⟩ := hj
  unfold ldS at h
  rw [he] at h
  simp only at h
  rcases hu : e.T.isC with _ | _
  · rw [hu] at h; cases h
  rw [hu] at h
  simp only [cond_true] at h
  rcases hv : rdS r e.cs o with _ | v'
  · rw [hv] at h; cases h
  rw [hv] at h
  cases h
  have hm := List.mem_of_getElem? he
  exact run_loadVar_cv (tbl_ok hT hr) (hS.sat e hm) hu (hS.ok e hm) hv
theorem stS_ok (hT : TbOk P tb) (hS : St σ w) {T : TypeId} {r : TR} (hr : tbl tb T = some r) {j b u o : Nat} (hj : ∃ e : Blk, σ.L[j]? = some e ∧ e.b = b ∧ e.u = u) {y : SV} (hy : y.ok σ.L) {j' : Nat} {L' : Hp} (h : stS r σ.L j o y = .upd j' L') :
    ∃ w', (storeVar T ⟨b, u + o, none⟩ y.den).run P w = .ok () w' ∧ St { σ with L := L' } w' ∧ Ext σ.L L' ∧ ∀ i, i ≠ j' → L'[i]? = σ.L[i]? := by
  obtain ⟨e, he, rfl, rfl⟩ := hj
  unfold stS at h
  rcases hv : valsE y with _ | vs
  · rw [he, hv] at h; cases h
  rw [he, hv] at h
  simp only at h
  rcases hn : Nat.beq vs.length r.size with _ | _
  · rw [hn] at h; cases h
  rcases hu : e.T.isC with _ | _
  · rw [hn, hu] at h; cases h
  rw [hn, hu] at h
  simp only [Bool.and_self, cond_true] at h
  rcases hs : setN e.cs o vs with _ | cs
  · rw [hs] at h; cases h
  rw [hs] at h
  cases h
  obtain ⟨h1, h2⟩ := valsE_ok hv hy
  obtain ⟨q1, q2, q3⟩ := setN_ok hs
  have hm := List.mem_of_getElem? he
  refine ⟨_, ?_, hS.store he hu hs h2, Ext.set he q2, fun i hi => List.getElem?_set_ne (Ne.symm hi)⟩
  have hsz : y.den.cells.size = r.size := by rw [← Array.length_toList, h1, List.length_map]; simpa using hn
  have hrun := run_storeCells_cv (P := P) (b := e.b) (u := e.u + o) (vs.map CV.den) 0 w (fun v hv => by obtain ⟨x, hx, rfl⟩ := List.mem_map.1 hv; exact one_den (h2 x hx)) (fun k hk => by
    have hk' : o + k < e.cs.length := by simp at hk; omega
    have := Blk.cell (hS.sat e hm) hu (k := o + k) (List.getElem?_eq_getElem hk')
    have e1 : e.u + o + 0 + k = e.u + (o + k) := by omega
    rw [e1]
    exact ⟨by rw [this.1]; rfl, this.2⟩)
  simp only [storeVar, Sem.run_bind, run_sizeOf (tbl_ok hT hr), Result.andThen_ok, hsz, ne_eq, not_true_eq_false, if_false, h1]
  exact hrun
theorem fill_ok {L : Hp} (hF : FrOk n a L F) {pl pl' : Nat → Option (Nat × Nat)} (hpl : ∀ i o s, pl i = some (o, s) → pl' i = some (o, s)) : ∀ (ps : List (Nat × Operand)) (cs r : List CV), (∀ x ∈ cs, x.ok L) → fillS pl F cs ps = some r →
    Instr.fill pl' (cs.map CV.den).toArray (ps.map fun p => (p.1, a.eval p.2)) = some (r.map CV.den).toArray ∧ ∀ x ∈ r, x.ok L
  | [], cs, r, hc, h => by obtain rfl := Option.some.inj h; exact ⟨rfl, hc⟩
  | (i, x) :: ps, cs, r, hc, h => by
    simp only [fillS] at h
    rcases hp : pl i with _ | ⟨o, s⟩
    · rw [hp] at h; simp at h
    rcases hx : evO F x with _ | y
    · rw [hp, hx] at h; simp at h
    rcases hv : valsE y with _ | vs
    · rw [hp, hx] at h; simp [hv] at h
    rw [hp, hx] at h
    simp only [hv] at h
    rcases hn : Nat.beq vs.length s with _ | _
    · rw [hn] at h; cases h
    rw [hn] at h
    simp only [cond_true] at h
    rcases hs : setN cs o vs with _ | cs'
    · rw [hs] at h; cases h
    rw [hs] at h
    simp only at h
    obtain ⟨e1, e2⟩ := evO_ok hF hx
    obtain ⟨h1, h2⟩ := valsE_ok hv e2
    obtain ⟨q1, q2, q3⟩ := setN_ok hs
    have hsz : y.den.cells.size = s := by rw [← Array.length_toList, h1, List.length_map]; simpa using hn
    have hok : ∀ x ∈ cs', x.ok L := fun z hz => by
      obtain ⟨k, hk⟩ := List.mem_iff_getElem?.1 hz
      rw [q3 k] at hk
      split at hk
      · exact h2 z (List.mem_of_getElem? hk)
      · exact hc z (List.mem_of_getElem? hk)
    have ih := fill_ok hF hpl ps cs' r hok h
    refine ⟨?_, ih.2⟩
    rw [← ih.1]
    have hlen : vs.length = s := by simpa using hn
    simp only [List.map_cons, Instr.fill, hpl _ _ _ hp, e1, hsz]
    rw [if_neg (by simp; omega)]
    congr 1
    have key : ∀ (vs : List Value) (o m : Nat) (c : Array Value), o + m + vs.length ≤ c.size → ∃ c', (vs.zipIdx m).foldl (fun cs (p : Value × Nat) => cs.setIfInBounds (o + p.2) p.1) c = c' ∧ c'.size = c.size ∧ ∀ k, c'[k]? = if o + m ≤ k ∧ k < o + m + vs.length then vs[k - (o + m)]? else c[k]? := by
      intro vs
      induction vs with
      | nil => intro o m c _; exact ⟨c, rfl, rfl, fun k => by rw [if_neg (by simp only [List.length_nil]; omega)]⟩
      | cons v vs ih =>
        intro o m c hc
        simp only [List.length_cons] at hc
        obtain ⟨c', g1, g2, g3⟩ := ih o (m + 1) (c.setIfInBounds (o + m) v) (by simp; omega)
        refine ⟨c', by simpa [List.zipIdx_cons] using g1, by simpa using g2, fun k => ?_⟩
        rw [g3 k]
        simp only [List.length_cons]
        by_cases hk : k = o + m
        · subst hk
          rw [if_neg (by omega), if_pos (by omega)]
          simp [show o + m < c.size by omega]
        · by_cases hb : o + (m + 1) ≤ k ∧ k < o + (m + 1) + vs.length
          · rw [if_pos hb, if_pos (by omega)]
            have : k - (o + m) = (k - (o + (m + 1))) + 1 := by omega
            rw [this]; simp
          · rw [if_neg hb, if_neg (by omega)]
            simp [Ne.symm hk]
    obtain ⟨c', g1, g2, g3⟩ := key (vs.map CV.den) o 0 (cs.map CV.den).toArray (by simp; omega)
    have hzip : y.den.cells.zipIdx = ((vs.map CV.den).zipIdx 0).toArray := by
      apply Array.ext'
      rw [Array.toList_zipIdx, h1]
    rw [hzip, List.foldl_toArray']
    · refine g1.trans ?_
      apply Array.ext_getElem?
      intro k
      rw [g3 k]
      simp only [List.getElem?_toArray, List.getElem?_map, List.length_map, q3 k, Nat.add_zero]
      by_cases hb : o ≤ k ∧ k < o + vs.length
      · rw [if_pos hb, if_pos hb]
      · rw [if_neg hb, if_neg hb]
    · simp
/-- What an operation's effect comes to. -/
def EffOk (P : Program) (o : Oper) (a : Act) (σ : Hs) (w : World) : Eff → Prop
  | .no => True
  | .val v => (execOp a.eval o).run P w = .ok (.value v.den) w ∧ v.ok σ.L
  | .upd j L' => ∃ w', (execOp a.eval o).run P w = .ok .skip w' ∧ St { σ with L := L' } w' ∧ Ext σ.L L' ∧ ∀ i, i ≠ j → L'[i]? = σ.L[i]?
  | .new cs T => (execOp a.eval o).run P w = .ok (.value (.pointer (some ⟨w.heap.size, 0, none⟩))) (w.alloc (.cells (cs.map CV.den).toArray T)) ∧ ∀ x ∈ cs, x.ok σ.L
  | .newS cs T m => (execOp a.eval o).run P w = .ok (.value (.slice (some ⟨w.heap.size, 0, none⟩) m m)) (w.alloc (.cells (cs.map CV.den).toArray T)) ∧ ∀ x ∈ cs, x.ok σ.L
theorem ldS_cases (r : TR) (L : Hp) (j o : Nat) : ldS r L j o = .no ∨ ∃ v, ldS r L j o = .val v := by
  unfold ldS; split
  · rename_i e _
    rcases e.T.isC with _ | _
    · exact Or.inl rfl
    simp only [cond_true]
    split
    · exact Or.inr ⟨_, rfl⟩
    · exact Or.inl rfl
  · exact Or.inl rfl
theorem stS_cases (r : TR) (L : Hp) (j o : Nat) (y : SV) : stS r L j o y = .no ∨ ∃ j' L', stS r L j o y = .upd j' L' := by
  unfold stS; split
  · rename_i e vs _ _
    rcases Nat.beq vs.length r.size && e.T.isC with _ | _
    · exact Or.inl rfl
    · simp only [cond_true]
      split
      · exact Or.inr ⟨_, _, rfl⟩
      · exact Or.inl rfl
  · exact Or.inl rfl
theorem ld_case (hT : TbOk P tb) (hF : FrOk n a σ.L F) (hS : St σ w) {dst : Option Tmp} {T : TypeId} {x : Operand} {ty : TypeId} {pos : String} {after : Array Edge} {g : Option (Nat × Bool)} {r : TR} (hr : tbl tb T = some r) {y : SV} (hy : evO F x = some y) {j b u o : Nat}
    (hd : y.den = .pointer (some ⟨b, u + o, none⟩)) (hj : ∃ e : Blk, σ.L[j]? = some e ∧ e.b = b ∧ e.u = u) : EffOk P ⟨dst, .load T x, ty, pos, after, g⟩ a σ w (ldS r σ.L j o) := by
  rcases ldS_cases r σ.L j o with h | ⟨v, h⟩
  · rw [h]; trivial
  · have := ldS_ok hT hS hr hj h
    rw [h]
    refine ⟨?_, this.2⟩
    simp only [execOp, (evO_ok hF hy).1, hd, Instr.loadAt, Instr.sureAddr, Sem.run_bind, Sem.run_pure, Result.andThen_ok, this.1]
theorem st_case (hT : TbOk P tb) (hF : FrOk n a σ.L F) (hS : St σ w) {dst : Option Tmp} {T : TypeId} {x z : Operand} {ty : TypeId} {pos : String} {after : Array Edge} {g : Option (Nat × Bool)} {r : TR} (hr : tbl tb T = some r) {y v : SV} (hy : evO F x = some y) (hz : evO F z = some v) {j b u o : Nat}
    (hd : y.den = .pointer (some ⟨b, u + o, none⟩)) (hj : ∃ e : Blk, σ.L[j]? = some e ∧ e.b = b ∧ e.u = u) : EffOk P ⟨dst, .store T x z, ty, pos, after, g⟩ a σ w (stS r σ.L j o v) := by
  rcases stS_cases r σ.L j o v with h | ⟨j', L', h⟩
  · rw [h]; trivial
  · obtain ⟨w', h1, h2, h3, h4⟩ := stS_ok hT hS hr hj (evO_ok hF hz).2 h
    rw [h]
    refine ⟨w', ?_, h2, h3, h4⟩
    simp only [execOp, (evO_ok hF hy).1, (evO_ok hF hz).1, hd, Instr.storeAt, Instr.sureAddr, Sem.run_bind, Sem.run_pure, Result.andThen_ok, h1]
theorem pure_case (hT : TbOk P tb) (hF : FrOk n a σ.L F) {o : Oper} : EffOk P o a σ w (match pureS tb F o.op with | some v => .val v | none => .no) := by
  rcases h : pureS tb F o.op with _ | v
  · trivial
  · exact pureS_ok hT hF h
theorem plF_ok {fs : Array Field} {i o s : Nat} (h : plF (fs.toList.map fun f => (f.offset, (match P.info? f.type with | some i => i.size | none => 0), aggN P f.type, f.type)) i = some (o, s)) :
    ∃ x, fs[i]? = some x ∧ x.offset = o ∧ ∀ w, (sizeOf x.type).run P w = .ok s w := by
  unfold plF at h
  split at h <;> first | (cases h; done) | skip
  rename_i hq
  cases h
  obtain ⟨x, h1, h2, h3, _⟩ := fld hq
  exact ⟨x, h1, h2, h3⟩
theorem run_zero {T : TypeId} {r : TR} (h : vr P T = some r) (hl : Nat.beq r.zero.length r.size = true) (w : World) : ∃ z, (zeroValue T).run P w = .ok z w ∧ z.cells = (r.zero.map CV.den).toArray := by
  obtain ⟨i, hi, _, _, _, hc⟩ := vr_info h
  obtain ⟨z, hz, hc⟩ := hc hl
  exact ⟨z, by simp [zeroValue, typeInfo, hi, hz], by rw [← hc]⟩
theorem run_places {fs : Array Field} (w : World) : ∀ (l : List Field), (∀ f ∈ l, ∃ s, ∀ w, (sizeOf f.type).run P w = .ok s w) → ∃ ps : List (Nat × Nat), (l.mapM (fun f => do pure (f.offset, ← sizeOf f.type) : Field → Sem (Nat × Nat))).run P w = .ok ps w ∧ ps.length = l.length ∧ ∀ (i : Nat) (f : Field) (s : Nat), l[i]? = some f → (∀ w, (sizeOf f.type).run P w = .ok s w) → ps[i]? = some (f.offset, s)
  | [], _ => ⟨[], rfl, rfl, fun i f s h => by simp at h⟩
  | f :: l, h => by
    obtain ⟨ps, h1, h2, h3⟩ := run_places (fs := fs) w l (fun g hg => h g (List.mem_cons_of_mem _ hg))
    obtain ⟨s, hs⟩ := h f (List.mem_cons_self ..)
    refine ⟨(f.offset, s) :: ps, ?_, by simp [h2], fun i g t hi ht => ?_⟩
    · rw [List.mapM_cons]
      simp only [Sem.run_bind, hs, Result.andThen_ok, Sem.run_pure, h1]
    · cases i with
      | zero =>
        obtain rfl : f = g := by simpa using hi
        have := (hs w).symm.trans (ht w)
        cases this
        rfl
      | succ i => simpa using h3 i g t (by simpa using hi) ht
theorem build_case (hT : TbOk P tb) (hF : FrOk n a σ.L F) {dst : Option Tmp} {T : TypeId} {ps : Array (Nat × Operand)} {ty : TypeId} {pos : String} {after : Array Edge} {g : Option (Nat × Bool)} :
    EffOk P ⟨dst, .build T ps, ty, pos, after, g⟩ a σ w (match buildS tb F T ps.toList with | some v => .val v | none => .no) := by
  rcases h : buildS tb F T ps.toList with _ | v
  · trivial
  unfold buildS at h
  have hmap : (ps.map fun (i, x) => (i, a.eval x)).toList = ps.toList.map fun p => (p.1, a.eval p.2) := by simp
  split at h <;> first | (cases h; done) | skip
  · rename_i c fs sz z hr
    rcases hall0 : Nat.beq z.length sz && fs.all (fun f => Nat.blt 0 f.2.1) with _ | _
    · rw [hall0] at h; cases h
    rw [hall0] at h
    simp only [cond_true] at h
    simp only [Bool.and_eq_true] at hall0
    obtain ⟨hzl, hall0⟩ := hall0
    rcases hf : fillS (plF fs) F z ps.toList with _ | cs
    · rw [hf] at h; cases h
    rw [hf] at h
    obtain rfl := Option.some.inj h
    obtain ⟨t, ht, rfl, _⟩ := und_struct (tbl_d hT hr)
    obtain ⟨zv, hz1, hz2⟩ := run_zero (tbl_ok hT hr) hzl w
    obtain ⟨i0, _, _, _, hok, _⟩ := vr_info (tbl_ok hT hr)
    have hall : ∀ f ∈ t.toList, ∃ s, ∀ w, (sizeOf f.type).run P w = .ok s w := fun f hf => by
      have := List.all_eq_true.1 hall0 _ (List.mem_map.2 ⟨f, hf, rfl⟩)
      rcases hi : P.info? f.type with _ | i
      · simp [hi] at this
      · exact ⟨i.size, fun w => by simp [sizeOf, typeInfo, hi]⟩
    · obtain ⟨pl, p1, p2, p3⟩ := run_places (P := P) (fs := t) w t.toList hall
      have hfill := fill_ok hF (pl' := fun i => pl.toArray[i]?) (fun i o s hp => by
        obtain ⟨x, hx, hxo, hxs⟩ := plF_ok hp
        have := p3 i x s (by simpa using hx) hxs
        simpa [hxo] using this) ps.toList z cs (hok σ.L) hf
      refine ⟨?_, hfill.2⟩
      have hm : (t.mapM (fun f => do pure (f.offset, ← sizeOf f.type) : Field → Sem (Nat × Nat))).run P w = .ok pl.toArray w := by
        rw [Array.mapM_eq_mapM_toList]
        simp only [Sem.run_map, p1, Result.andThen_ok]
      simp only at hz2
      simp only [execOp, Instr.build, Sem.run_bind, hz1, Result.andThen_ok, run_underlying ht, hm, hmap, hz2, hfill.1, Sem.run_pure]
      rfl
  · rename_i m e sz z hr
    rcases hzl : Nat.beq z.length sz with _ | _
    · rw [hzl] at h; cases h
    rw [hzl] at h
    simp only [cond_true] at h
    split at h <;> first | (cases h; done) | skip
    rename_i r he
    rcases hf : fillS (fun i => some (i * r.size, r.size)) F z ps.toList with _ | cs
    · rw [hf] at h; cases h
    rw [hf] at h
    obtain rfl := Option.some.inj h
    obtain ⟨zv, hz1, hz2⟩ := run_zero (tbl_ok hT hr) hzl w
    obtain ⟨i0, _, _, _, hok, _⟩ := vr_info (tbl_ok hT hr)
    have hfill := fill_ok hF (pl' := fun i => some (i * r.size, r.size)) (fun i o s hp => hp) ps.toList z cs (hok σ.L) hf
    refine ⟨?_, hfill.2⟩
    simp only at hz2
    simp only [execOp, Instr.build, Sem.run_bind, hz1, Result.andThen_ok, run_underlying (und_array (tbl_d hT hr)), run_sizeOf (tbl_ok hT he), hmap, hz2, hfill.1, Sem.run_pure]
    rfl
theorem repN_len (z : List CV) : ∀ n, (repN n z).length = n * z.length
  | 0 => by simp [repN]
  | n + 1 => by simp [repN, repN_len z n, Nat.add_mul]; omega
theorem repN_get (z : List CV) (hz : 0 < z.length) : ∀ (n k : Nat), k < n * z.length → (repN n z)[k]? = z[k % z.length]?
  | 0, k, h => by omega
  | n + 1, k, h => by
    simp only [repN]
    by_cases hk : k < z.length
    · rw [List.getElem?_append_left hk, Nat.mod_eq_of_lt hk]
    · rw [List.getElem?_append_right (by omega), repN_get z hz n (k - z.length) (by rw [Nat.add_mul] at h; omega)]
      congr 1
      conv => rhs; rw [show k = (k - z.length) + z.length by omega, Nat.add_mod_right]
theorem repN_mem (z : List CV) : ∀ (n : Nat) (x : CV), x ∈ repN n z → x ∈ z
  | 0, x, h => by cases h
  | n + 1, x, h => by
    simp only [repN] at h
    rcases List.mem_append.1 h with h | h
    · exact h
    · exact repN_mem z n x h
theorem bs_case (hT : TbOk P tb) (hF : FrOk n a σ.L F) {dst : Option Tmp} {T : TypeId} {m : Nat} {ps : Array (Nat × Operand)} {ty : TypeId} {pos : String} {after : Array Edge} {g : Option (Nat × Bool)} :
    EffOk P ⟨dst, .buildSlice T m ps, ty, pos, after, g⟩ a σ w (bsS tb F T m ps.toList) := by
  unfold bsS
  split
  · rename_i e s z hr
    split
    · rename_i r he
      rcases hb : Nat.beq r.zero.length r.size && (Nat.blt 0 (m * r.size) && Nat.ble (m * r.size) 16777216) with _ | _
      · simp only [cond_false]
        rcases bs0_cases (m * r.size) e m ps.toList with q | ⟨q1, q2, q3⟩
        · rw [q]; exact trivial
        · rw [q3]
          refine ⟨?_, fun x hx => by cases hx⟩
          obtain rfl : ps = #[] := by apply Array.ext'; exact q2
          simp only [execOp, Instr.buildSlice, Sem.run_bind, run_underlying (und_slice (tbl_d hT hr)), Result.andThen_ok, run_sizeOf (tbl_ok hT he), q1]
          simp [Instr.fill, newRow, run_newObj]
          congr 2
          apply Array.ext'
          simp
      simp only [cond_true]
      simp only [Bool.and_eq_true, Nat.blt_eq, Nat.ble_eq] at hb
      obtain ⟨hlen0, hb1, hb2⟩ := hb
      have hlen : r.zero.length = r.size := by simpa using hlen0
      split
      · rename_i cs hf
        obtain ⟨zv, hz1, hz2⟩ := run_zero (tbl_ok hT he) hlen0 w
        obtain ⟨i0, _, _, _, hok, _⟩ := vr_info (tbl_ok hT he)
        have hfill := fill_ok hF (pl' := fun i => some (i * r.size, r.size)) (fun i o s hp => hp) ps.toList _ cs (fun x hx => hok σ.L x (repN_mem _ _ x hx)) hf
        have hmap : (ps.map fun (i, x) => (i, a.eval x)).toList = ps.toList.map fun p => (p.1, a.eval p.2) := by simp
        refine ⟨?_, hfill.2⟩
        have hpos : 0 < r.size := by rcases hs : r.size with _ | k <;> simp_all
        have hzs : zv.cells.size = r.size := by rw [hz2]; simp [hlen]
        have hzero : (Array.range (m * r.size)).map (fun k => zv.cells[k % zv.cells.size]!) = ((repN m r.zero).map CV.den).toArray := by
          apply Array.ext_getElem?
          intro k
          simp only [Array.getElem?_map, List.getElem?_toArray, List.getElem?_map]
          by_cases hk : k < m * r.size
          · rw [repN_get r.zero (by omega) m k (by rw [hlen]; exact hk)]
            have hkm : k % r.size < r.zero.length := by rw [hlen]; exact Nat.mod_lt _ hpos
            simp only [Array.getElem?_range, hk, if_true, Option.map_some, hzs, hlen]
            simp [hz2, List.getElem?_eq_getElem hkm]
          · have : (repN m r.zero)[k]? = none := by rw [List.getElem?_eq_none]; rw [repN_len, hlen]; omega
            rw [this]
            simp [hk]
        simp only [execOp, Instr.buildSlice, Sem.run_bind, run_underlying (und_slice (tbl_d hT hr)), Result.andThen_ok, run_sizeOf (tbl_ok hT he)]
        rw [if_neg (by omega), if_neg (by omega)]
        simp only [Sem.run_bind, hz1, Result.andThen_ok, Sem.run_pure, hzero, hmap, hfill.1, newRow, run_newObj]
        simp
      · exact trivial
    · exact trivial
  · exact trivial
theorem evLF_ok (hF : FrOk n a σ.L F) : ∀ {l : List Operand} {r : List SV}, evLF F l = some r → l.map a.eval = r.map SV.den
  | [], r, h => by obtain rfl := Option.some.inj h; rfl
  | x :: l, r, h => by
    simp only [evLF] at h
    split at h <;> first | (cases h; done) | skip
    rename_i y r' hy hr
    obtain rfl := Option.some.inj h
    simp [(evO_ok hF hy).1, evLF_ok hF hr]
theorem evLF_all (hF : FrOk n a σ.L F) : ∀ {l : List Operand} {r : List SV}, evLF F l = some r → ∀ x ∈ r, x.ok σ.L
  | [], r, h => by obtain rfl := Option.some.inj h; exact fun x hx => by cases hx
  | x :: l, r, h => by
    simp only [evLF] at h
    split at h <;> first | (cases h; done) | skip
    rename_i y r' hy hr
    obtain rfl := Option.some.inj h
    exact fun z hz => (List.mem_cons.1 hz).elim (fun q => q ▸ (evO_ok hF hy).2) (evLF_all hF hr z)
theorem capP_ok {L : Hp} : ∀ {b : List SV} {cs : List (Nat × Nat × Nat)}, capP b = some cs → (∀ x ∈ b, x.ok L) → b.map SV.den = cs.map (fun x => Value.pointer (some ⟨x.2.1, x.2.2, none⟩)) ∧ ∀ x ∈ cs, ∃ e : Blk, L[x.1]? = some e ∧ e.b = x.2.1 ∧ e.u = 0
  | [], cs, h, _ => by obtain rfl := Option.some.inj h; exact ⟨rfl, fun x hx => by cases hx⟩
  | x :: l, cs, h, ho => by
    unfold capP at h
    split at h
    · rename_i he; cases he
    · rename_i j b o l' he
      cases he
      split at h <;> first | (cases h; done) | skip
      rename_i r hr
      obtain rfl := Option.some.inj h
      obtain ⟨h1, h2⟩ := capP_ok hr fun x hx => ho x (List.mem_cons_of_mem _ hx)
      refine ⟨by rw [List.map_cons, List.map_cons, h1]; rfl, fun x hx => ?_⟩
      rcases List.mem_cons.1 hx with rfl | hx
      · exact ho _ (List.mem_cons_self ..)
      · exact h2 x hx
    · cases h
theorem mfV_ok {L : Hp} {fn : Fn} {x y : List SV} (hx : ∀ z ∈ x, z.ok L) (hy : ∀ z ∈ y, z.ok L) : (mfV fn x y).den = .func fn (x.map SV.den).toArray (y.map SV.den).toArray ∧ (mfV fn x y).ok L := by
  unfold mfV
  split
  · rename_i g fs cs hf hc
    obtain ⟨h1, h2⟩ := capP_ok hc hy
    obtain ⟨k1, k2⟩ := capP_ok hf hx
    refine ⟨?_, fun z hz => (List.mem_append.1 hz).elim (k2 z) (h2 z)⟩
    rw [h1, k1]; rfl
  · exact ⟨rfl, rfl⟩
theorem mf_case (hF : FrOk n a σ.L F) {dst : Option Tmp} {fn : Fn} {first cap : Array Operand} {ty : TypeId} {pos : String} {after : Array Edge} {g : Option (Nat × Bool)} :
    EffOk P ⟨dst, .makeFunc fn first cap, ty, pos, after, g⟩ a σ w (match evLF F first.toList, evLF F cap.toList with | some a, some b => .val (mfV fn a b) | _, _ => .no) := by
  split
  · rename_i x y hx hy
    refine ⟨?_, (mfV_ok (evLF_all hF hx) (evLF_all hF hy)).2⟩
    have h1 : first.map a.eval = (x.map SV.den).toArray := by apply Array.ext'; rw [Array.toList_map]; exact evLF_ok hF hx
    have h2 : cap.map a.eval = (y.map SV.den).toArray := by apply Array.ext'; rw [Array.toList_map]; exact evLF_ok hF hy
    simp [execOp, Instr.makeFunc, h1, h2, (mfV_ok (fn := fn) (x := x) (evLF_all hF hx) (evLF_all hF hy)).1]
  · trivial
theorem bsS_nv {T : TypeId} {m : Nat} {ps : List (Nat × Operand)} {v : SV} : bsS tb F T m ps ≠ .val v := fun h => by
  unfold bsS at h
  split at h <;> first | (cases h; done) | skip
  split at h <;> first | (cases h; done) | skip
  rename_i r _
  rcases hb : (Nat.beq r.zero.length r.size && (Nat.blt 0 (m * r.size) && Nat.ble (m * r.size) 16777216)) with _ | _
  · rw [hb] at h
    simp only [cond_false] at h
    rcases bs0_cases (m * r.size) _ m ps with q | ⟨_, _, q⟩
    · rw [q] at h; cases h
    · rw [q] at h; cases h
  · rw [hb] at h
    simp only [cond_true] at h
    split at h <;> cases h
theorem effS_ok (hT : TbOk P tb) (hF : FrOk n a σ.L F) (hS : St σ w) {o : Oper} : EffOk P o a σ w (effS tb F σ.L o.op) := by
  obtain ⟨dst, op, ty, pos, after, g⟩ := o
  simp only
  unfold effS
  split
  · split
    · rename_i r j b o hr hx; exact ld_case hT hF hS hr hx (b := b) (u := 0) (by simp [SV.den, EV.den, CV.den]) ((evO_ok hF hx).2)
    · rename_i r j b u o hr hx; exact ld_case hT hF hS hr hx rfl ((evO_ok hF hx).2)
    · trivial
  · split
    · rename_i r j b o v hr hx hz; exact st_case hT hF hS hr hx hz (b := b) (u := 0) (by simp [SV.den, EV.den, CV.den]) ((evO_ok hF hx).2)
    · rename_i r j b u o v hr hx hz; exact st_case hT hF hS hr hx hz rfl ((evO_ok hF hx).2)
    · trivial
  · split
    · rename_i r hr
      rcases hzl : Nat.beq r.zero.length r.size with _ | _
      · exact trivial
      obtain ⟨zv, hz1, hz2⟩ := run_zero (tbl_ok hT hr) hzl w
      obtain ⟨i0, _, _, _, hok, _⟩ := vr_info (tbl_ok hT hr)
      refine ⟨?_, hok σ.L⟩
      simp only [execOp, Instr.alloc, Sem.run_bind, hz1, Result.andThen_ok]
      cases zv <;> simp [newVar, newRow, hz2]
    · trivial
  · split
    · rename_i y hy
      split
      · rename_i vs hv
        obtain ⟨h1, h2⟩ := valsE_ok hv (evO_ok hF hy).2
        refine ⟨?_, h2⟩
        simp [execOp, Instr.box, newVar, newRow, (evO_ok hF hy).1, ← h1]
      · trivial
    · trivial
  · exact build_case hT hF
  · exact bs_case hT hF
  · exact mf_case hF
  · exact pure_case hT hF
theorem bsS_ne {T : TypeId} {m : Nat} {ps : List (Nat × Operand)} {j : Nat} {L : Hp} : bsS tb F T m ps ≠ .upd j L := fun h => by
  unfold bsS at h
  split at h <;> first | (cases h; done) | skip
  split at h <;> first | (cases h; done) | skip
  rename_i r _
  rcases hb : (Nat.beq r.zero.length r.size && (Nat.blt 0 (m * r.size) && Nat.ble (m * r.size) 16777216)) with _ | _
  · rw [hb] at h
    simp only [cond_false] at h
    rcases bs0_cases (m * r.size) _ m ps with q | ⟨_, _, q⟩
    · rw [q] at h; cases h
    · rw [q] at h; cases h
  · rw [hb] at h
    simp only [cond_true] at h
    split at h <;> cases h
theorem upd_len {o : Op} {L L' : Hp} {i : Nat} (hq : effS tb F L o = .upd i L') : L'.length = L.length := by
  unfold effS at hq
  have hst : ∀ r j o y, stS r L j o y = .upd i L' → L'.length = L.length := fun r j o y hs => by
    unfold stS at hs
    split at hs
    · rename_i e vs _ _
      rcases hb : Nat.beq vs.length r.size && e.T.isC with _ | _
      · rw [hb] at hs; cases hs
      · rw [hb] at hs
        simp only [cond_true] at hs
        split at hs
        · cases hs; simp
        · cases hs
    · cases hs
  have hld : ∀ r j o, ldS r L j o ≠ .upd i L' := fun r j o hs => by
    rcases ldS_cases r L j o with q | ⟨v, q⟩ <;> rw [q] at hs <;> cases hs
  split at hq
  · split at hq <;> first | exact absurd hq (hld _ _ _) | cases hq
  · split at hq <;> first | exact hst _ _ _ _ hq | cases hq
  · split at hq
    · rename_i r _
      rcases hzl : Nat.beq r.zero.length r.size with _ | _ <;> rw [hzl] at hq <;> cases hq
    · cases hq
  · split at hq
    · split at hq <;> cases hq
    · cases hq
  · split at hq <;> cases hq
  · exact absurd hq bsS_ne
  · split at hq <;> cases hq
  · split at hq <;> cases hq
end
end
end Go.Proofs.YthmokdfigjffjaaGreatDoor
