/- What putting and cutting does to chains in memory: plain laws. -/
import Derived.Test.YtmhjdjndckeepaaChR
namespace Go.Proofs.Ytmhjdjndckeepaa
set_option linter.unusedVariables false
set_option linter.unusedSimpArgs false
open Go.RowKit
open Go.ChangeMaps (setBlock)

theorem flatten_set_perm {α : Type} : ∀ (σ : List (List α)) (i : Nat) (r : List α) (x : α), σ[i]? = some r → (σ.set i (x :: r)).flatten.Perm (x :: σ.flatten)
  | [], _, _, _, h => by simp at h
  | s :: σ, 0, r, x, h => by
    simp at h; subst h; simp
  | s :: σ, i + 1, r, x, h => by
    simp at h
    have := flatten_set_perm σ i r x h
    simp only [List.set_cons_succ, List.flatten_cons]
    exact (this.append_left s).trans (List.perm_middle)

theorem mem_flatten_of {α : Type} {σ : List (List α)} {i : Nat} {r : List α} {x : α} (h : σ[i]? = some r) (hx : x ∈ r) : x ∈ σ.flatten :=
  List.mem_flatten.2 ⟨r, List.mem_of_getElem? h, hx⟩

/-- Two places of a list of rows whose parts are all unlike. -/
theorem ne_of_nodup {α β : Type} (f : α → β) : ∀ {σ : List (List α)} {i j : Nat} {r s : List α} {x y : α}, (σ.flatten.map f).Nodup → σ[i]? = some r → σ[j]? = some s → i ≠ j → x ∈ r → y ∈ s → f x ≠ f y
  | [], _, _, _, _, _, _, _, h, _, _, _, _ => by simp at h
  | t :: σ, 0, 0, _, _, _, _, _, _, _, h, _, _ => absurd rfl h
  | t :: σ, 0, j + 1, r, s, x, y, hn, h1, h2, _, hx, hy => by
    simp at h1 h2; subst h1
    simp only [List.flatten_cons, List.map_append, List.nodup_append] at hn
    exact hn.2.2 _ (List.mem_map.2 ⟨x, hx, rfl⟩) _ (List.mem_map.2 ⟨y, mem_flatten_of h2 hy, rfl⟩)
  | t :: σ, i + 1, 0, r, s, x, y, hn, h1, h2, _, hx, hy => by
    simp at h1 h2; subst h2
    simp only [List.flatten_cons, List.map_append, List.nodup_append] at hn
    exact fun e => hn.2.2 _ (List.mem_map.2 ⟨y, hy, rfl⟩) _ (List.mem_map.2 ⟨x, mem_flatten_of h1 hx, rfl⟩) e.symm
  | t :: σ, i + 1, j + 1, r, s, x, y, hn, h1, h2, hne, hx, hy => by
    simp at h1 h2
    simp only [List.flatten_cons, List.map_append, List.nodup_append] at hn
    exact ne_of_nodup f hn.2.1 h1 h2 (by omega) hx hy

theorem nodup_row {α β : Type} (f : α → β) {σ : List (List α)} {i : Nat} {r : List α} (hn : (σ.flatten.map f).Nodup) (h : σ[i]? = some r) : (r.map f).Nodup := by
  refine List.Nodup.sublist ?_ hn
  exact (List.sublist_flatten_of_mem (List.mem_of_getElem? h)).map f

theorem mem_nodes {r : Row} {a : Ad} (h : a ∈ nodes r) : ∃ x, x ∈ r ∧ a = (x.1, 0) := by
  obtain ⟨x, hx, rfl⟩ := List.mem_map.1 h
  exact ⟨x, hx, rfl⟩

section
variable {w : World} {bc bf bm : Nat} {σ : List Row}

theorem ChRep.nd1 (h : ChRep w bc bf bm σ) : (σ.flatten.map Prod.fst).Nodup := by
  have := h.apart; simp only [List.nodup_cons] at this; exact this.2.2.2
theorem ChRep.ne_bf (h : ChRep w bc bf bm σ) {x : Nat × Lk} (hx : x ∈ σ.flatten) : x.1 ≠ bf := by
  have := h.apart; simp only [List.nodup_cons, List.mem_cons] at this
  exact fun e => this.2.1 (Or.inr (e ▸ List.mem_map.2 ⟨x, hx, rfl⟩))
theorem ChRep.ne_bm (h : ChRep w bc bf bm σ) {x : Nat × Lk} (hx : x ∈ σ.flatten) : x.1 ≠ bm := by
  have := h.apart; simp only [List.nodup_cons, List.mem_cons] at this
  exact fun e => this.2.2.1 (e ▸ List.mem_map.2 ⟨x, hx, rfl⟩)
theorem ChRep.ne_bc (h : ChRep w bc bf bm σ) {x : Nat × Lk} (hx : x ∈ σ.flatten) : x.1 ≠ bc := by
  have := h.apart; simp only [List.nodup_cons, List.mem_cons] at this
  exact fun e => this.1 (Or.inr (Or.inr (e ▸ List.mem_map.2 ⟨x, hx, rfl⟩)))
theorem ChRep.bf_bm (h : ChRep w bc bf bm σ) : bf ≠ bm := by
  have := h.apart; simp only [List.nodup_cons, List.mem_cons] at this
  exact fun e => this.2.1 (Or.inl e)
theorem ChRep.bc_bm (h : ChRep w bc bf bm σ) : bc ≠ bm := by
  have := h.apart; simp only [List.nodup_cons, List.mem_cons] at this
  exact fun e => this.1 (Or.inr (Or.inl e))
theorem ChRep.bc_bf (h : ChRep w bc bf bm σ) : bc ≠ bf := by
  have := h.apart; simp only [List.nodup_cons, List.mem_cons] at this
  exact fun e => this.1 (Or.inl e)
theorem ChRep.lt_bc (h : ChRep w bc bf bm σ) : bc < w.heap.size := cell_lt h.c0
theorem ChRep.lt_bf (h : ChRep w bc bf bm σ) : bf < w.heap.size := cell_lt (h.front 0 h.pos).1
theorem ChRep.lt_bm (h : ChRep w bc bf bm σ) : bm < w.heap.size := by obtain ⟨m, hm, _⟩ := h.map; exact hm.lt
theorem ChRep.lt_node (h : ChRep w bc bf bm σ) {x : Nat × Lk} (hx : x ∈ σ.flatten) : x.1 < w.heap.size := by
  obtain ⟨r, hr, hx⟩ := List.mem_flatten.1 hx
  obtain ⟨i, hi, e⟩ := List.getElem_of_mem hr
  exact cell_lt (h.node i r (by rw [List.getElem?_eq_getElem hi, e]) x hx).1

/-- The blocks of chains. -/
def blocks (bc bf bm : Nat) (σ : List Row) : List Nat := bc :: bf :: bm :: σ.flatten.map Prod.fst

theorem ChRep.stay {w' : World} (h : ChRep w bc bf bm σ) (hs : ∀ b, b ∈ blocks bc bf bm σ → w'.heap[b]? = w.heap[b]?) : ChRep w' bc bf bm σ := by
  have k0 := hs bc (by simp [blocks])
  have kf := hs bf (by simp [blocks])
  have km := hs bm (by simp [blocks])
  have kn : ∀ x, x ∈ σ.flatten → w'.heap[x.1]? = w.heap[x.1]? := fun x hx => hs _ (by simp only [blocks, List.mem_cons]; exact Or.inr (Or.inr (Or.inr (List.mem_map.2 ⟨x, hx, rfl⟩))))
  have cf : ∀ o i, cl w' (bf, o) i = cl w (bf, o) i := fun o i => World.cell?_of_block kf
  have cn : ∀ x, x ∈ σ.flatten → ∀ i, cl w' (x.1, 0) i = cl w (x.1, 0) i := fun x hx i => World.cell?_of_block (kn x hx)
  refine ⟨(World.cell?_of_block k0).trans h.c0, (World.cell?_of_block k0).trans h.c1, h.pos, h.le, ?_, ?_, ?_, ?_, ?_, h.nd, h.ok, h.apart⟩
  · intro b o hb
    rcases hb with rfl | hb
    · rw [World.frozen?_of_block kf]; exact h.fz _ _ (Or.inl rfl)
    · obtain ⟨x, hx, rfl⟩ := List.mem_map.1 hb
      rw [World.frozen?_of_block (kn x hx)]; exact h.fz _ _ (Or.inr hb)
  · intro i hi
    simp only [cf]; exact h.front i hi
  · intro i r hr x hx
    simp only [cn x (mem_flatten_of hr hx)]; exact h.node i r hr x hx
  · intro i r hr
    have key : ∀ a, a ∈ (bf, i * 6) :: nodes r → ∀ j, cl w' a j = cl w a j := by
      intro a ha j
      rcases List.mem_cons.1 ha with rfl | ha
      · exact cf _ _
      · obtain ⟨x, hx, rfl⟩ := mem_nodes ha
        exact cn x (mem_flatten_of hr hx) j
    exact (h.ring i r hr).frame (fun a ha => key a ha 1) (fun a ha => key a (by simp at ha ⊢; exact ha.symm) 0)
  · obtain ⟨m, hm, hp⟩ := h.map
    exact ⟨m, hm.of_block km, hp⟩

/-- The front, or the first node: where a new node is put. -/
def qq (bf i : Nat) (r : Row) : Ad := hd (nodes r) (bf, i * 6)

theorem ChRep.put {w' : World} (h : ChRep w bc bf bm σ) {i : Nat} {r : Row} (hi : σ[i]? = some r) {l : Lk} (hl : Lok l) (hno : ∀ x, x ∈ σ.flatten → x.2 ≠ l) {b' : Nat} (hb' : w.heap.size ≤ b')
    (hc : ∀ b o, b < w.heap.size → b ≠ bm → w'.cell? ⟨b, o, none⟩ = if (b = bf ∧ o = i * 6 + 1) ∨ (b = (qq bf i r).1 ∧ o = (qq bf i r).2) then some (ptr (b', 0)) else w.cell? ⟨b, o, none⟩)
    (hz : ∀ b o, b < w.heap.size → b ≠ bm → w'.frozen? ⟨b, o, none⟩ = w.frozen? ⟨b, o, none⟩) (nz : ∀ o, w'.frozen? ⟨b', o, none⟩ = false)
    (n0 : cl w' (b', 0) 0 = some (ptr (bf, i * 6))) (n1 : cl w' (b', 0) 1 = some (ptr (qq bf i r))) (n2 : cl w' (b', 0) 2 = some (.int .i64 l.1)) (n3 : cl w' (b', 0) 3 = some (.int .u32 l.2.1))
    (n4 : cl w' (b', 0) 4 = some (.bool l.2.2)) (n5 : cl w' (b', 0) 5 = some (.int .i64 i))
    (hm : ∀ m, MapIs w bm m → m.Perm (pairs σ) → MapIs w' bm (m ++ [(lv l, ptr (b', 0))])) : ChRep w' bc bf bm (σ.set i ((b', l) :: r)) := by
  have hil : i < σ.length := (List.getElem?_eq_some_iff.1 hi).1
  have hperm := flatten_set_perm σ i r (b', l) hi
  have hbf := h.lt_bf
  have hq : (qq bf i r = (bf, i * 6) ∧ r = []) ∨ ∃ y ys, r = y :: ys ∧ qq bf i r = (y.1, 0) := by
    cases r with
    | nil => exact Or.inl ⟨rfl, rfl⟩
    | cons y ys => exact Or.inr ⟨y, ys, rfl, rfl⟩
  -- cells of fronts and nodes away from the two that are written
  have front_same : ∀ j k, k < 6 → ¬ (j = i ∧ k = 1) → ¬ (j = i ∧ k = 0 ∧ r = []) → cl w' (bf, j * 6) k = cl w (bf, j * 6) k := by
    intro j k hk h1 h2
    unfold cl
    rw [hc _ _ hbf h.bf_bm, if_neg]
    rintro (⟨_, e⟩ | ⟨e1, e2⟩)
    · exact h1 (by simp only at e; omega)
    · rcases hq with ⟨hq, hr⟩ | ⟨y, ys, hr, hq⟩
      · rw [hq] at e2; exact h2 ⟨by simp only at e2; omega, by simp only at e2; omega, hr⟩
      · rw [hq] at e1; exact h.ne_bf (mem_flatten_of hi (hr ▸ List.mem_cons_self ..)) e1.symm
  have node_same : ∀ x, x ∈ σ.flatten → ∀ k, ¬ ((x.1, k) = qq bf i r) → cl w' (x.1, 0) k = cl w (x.1, 0) k := by
    intro x hx k hk
    unfold cl
    rw [hc _ _ (h.lt_node hx) (h.ne_bm hx), if_neg]
    rintro (⟨e, _⟩ | ⟨e1, e2⟩)
    · exact h.ne_bf hx e
    · exact hk (Prod.ext e1 (by simpa using e2))
  have qne : ∀ x, x ∈ σ.flatten → ∀ k, 1 ≤ k → ¬ ((x.1, k) = qq bf i r) := by
    intro x hx k hk e
    rcases hq with ⟨hq, hr⟩ | ⟨y, ys, hr, hq⟩
    · rw [hq] at e; exact h.ne_bf hx (by injection e)
    · rw [hq] at e; injection e; omega
  have len : (σ.set i ((b', l) :: r)).length = σ.length := by simp
  refine ⟨?_, ?_, by rw [len]; exact h.pos, by rw [len]; exact h.le, ?_, ?_, ?_, ?_, ?_, ?_, ?_, ?_⟩
  · rw [hc _ _ h.lt_bc h.bc_bm, if_neg, len]; exact h.c0
    rintro (⟨e, _⟩ | ⟨e, _⟩)
    · exact h.bc_bf e
    · rcases hq with ⟨hq, _⟩ | ⟨y, ys, hr, hq⟩
      · rw [hq] at e; exact h.bc_bf e
      · rw [hq] at e; exact h.ne_bc (mem_flatten_of hi (hr ▸ List.mem_cons_self ..)) e.symm
  · rw [hc _ _ h.lt_bc h.bc_bm, if_neg]; exact h.c1
    rintro (⟨e, _⟩ | ⟨e, _⟩)
    · exact h.bc_bf e
    · rcases hq with ⟨hq, _⟩ | ⟨y, ys, hr, hq⟩
      · rw [hq] at e; exact h.bc_bf e
      · rw [hq] at e; exact h.ne_bc (mem_flatten_of hi (hr ▸ List.mem_cons_self ..)) e.symm
  · intro b o hb
    rcases hb with rfl | hb
    · rw [hz _ _ hbf h.bf_bm]; exact h.fz _ _ (Or.inl rfl)
    · obtain ⟨x, hx, rfl⟩ := List.mem_map.1 hb
      rcases List.mem_cons.1 (hperm.mem_iff.1 hx) with rfl | hx
      · exact nz o
      · rw [hz _ _ (h.lt_node hx) (h.ne_bm hx)]; exact h.fz _ _ (Or.inr (List.mem_map.2 ⟨x, hx, rfl⟩))
  · intro j hj
    rw [len] at hj
    rw [front_same j 2 (by omega) (by omega) (by omega), front_same j 3 (by omega) (by omega) (by omega), front_same j 4 (by omega) (by omega) (by omega), front_same j 5 (by omega) (by omega) (by omega)]
    exact h.front j hj
  · intro j s hs x hx
    by_cases hj : i = j
    · subst hj
      rw [List.getElem?_set_self hil] at hs
      obtain rfl := Option.some.inj hs
      rcases List.mem_cons.1 hx with rfl | hx
      · exact ⟨n2, n3, n4, n5⟩
      · have hf := mem_flatten_of hi hx
        rw [node_same x hf 2 (qne x hf 2 (by omega)), node_same x hf 3 (qne x hf 3 (by omega)), node_same x hf 4 (qne x hf 4 (by omega)), node_same x hf 5 (qne x hf 5 (by omega))]
        exact h.node i r hi x hx
    · rw [List.getElem?_set_ne hj] at hs
      have hf := mem_flatten_of hs hx
      rw [node_same x hf 2 (qne x hf 2 (by omega)), node_same x hf 3 (qne x hf 3 (by omega)), node_same x hf 4 (qne x hf 4 (by omega)), node_same x hf 5 (qne x hf 5 (by omega))]
      exact h.node j s hs x hx
  · intro j s hs
    by_cases hj : i = j
    · subst hj
      rw [List.getElem?_set_self hil] at hs
      obtain rfl := Option.some.inj hs
      have hr := h.ring i r hi
      refine Ring.insert (b', 0) hr ?_ n0 n1 ?_ ?_ ?_
      · unfold cl; rw [hc _ _ hbf h.bf_bm, if_pos (Or.inl ⟨rfl, rfl⟩)]
      · unfold cl
        have hlt : (qq bf i r).1 < w.heap.size ∧ (qq bf i r).1 ≠ bm := by
          rcases hq with ⟨hq, _⟩ | ⟨y, ys, hr, hq⟩
          · rw [hq]; exact ⟨hbf, h.bf_bm⟩
          · rw [hq]; have hy := mem_flatten_of hi (hr ▸ List.mem_cons_self .. : y ∈ r); exact ⟨h.lt_node hy, h.ne_bm hy⟩
        show w'.cell? ⟨(qq bf i r).1, (qq bf i r).2 + 0, none⟩ = _
        rw [hc _ _ hlt.1 hlt.2, if_pos (Or.inr ⟨rfl, rfl⟩)]
      · intro b hb
        obtain ⟨x, hx, rfl⟩ := mem_nodes hb
        exact node_same x (mem_flatten_of hi hx) 1 (qne x (mem_flatten_of hi hx) 1 (by omega))
      · intro b hb
        rcases hq with ⟨_, hr⟩ | ⟨y, ys, hr, hq⟩
        · subst hr; simp at hb
        · subst hr
          simp only [List.map_cons, List.cons_append, List.tail_cons, List.mem_append, List.mem_singleton] at hb
          rcases hb with hb | rfl
          · obtain ⟨x, hx, rfl⟩ := List.mem_map.1 hb
            refine node_same x (mem_flatten_of hi (List.mem_cons_of_mem _ hx)) 0 (fun e => ?_)
            rw [hq] at e; injection e with e1
            have := nodup_row Prod.fst h.nd1 hi
            simp only [List.map_cons, List.nodup_cons] at this
            exact this.1 (e1 ▸ List.mem_map.2 ⟨x, hx, rfl⟩)
          · exact front_same i 0 (by omega) (by omega) (by simp)
    · rw [List.getElem?_set_ne hj] at hs
      refine (h.ring j s hs).frame ?_ ?_
      · intro a ha
        rcases List.mem_cons.1 ha with rfl | ha
        · exact front_same j 1 (by omega) (by omega) (by omega)
        · obtain ⟨x, hx, rfl⟩ := mem_nodes ha
          exact node_same x (mem_flatten_of hs hx) 1 (qne x (mem_flatten_of hs hx) 1 (by omega))
      · intro a ha
        rcases List.mem_append.1 ha with ha | ha
        · obtain ⟨x, hx, rfl⟩ := mem_nodes ha
          refine node_same x (mem_flatten_of hs hx) 0 (fun e => ?_)
          rcases hq with ⟨hq, _⟩ | ⟨y, ys, hr, hq⟩
          · rw [hq] at e; injection e with e1; exact h.ne_bf (mem_flatten_of hs hx) e1
          · rw [hq] at e; injection e with e1
            exact ne_of_nodup Prod.fst h.nd1 hs hi (fun e => hj e.symm) hx (hr ▸ List.mem_cons_self ..) e1
        · simp only [List.mem_singleton] at ha
          subst ha
          exact front_same j 0 (by omega) (by omega) (by omega)
  · obtain ⟨m, hm1, hp⟩ := h.map
    refine ⟨_, hm m hm1 hp, ?_⟩
    refine (List.perm_append_singleton _ _).trans ?_
    have := (hperm.map (fun x : Nat × Lk => (lv x.2, ptr (x.1, 0)))).symm
    exact ((hp.cons _)).trans this
  · have := (hperm.map (Prod.snd : Nat × Lk → Lk)).nodup_iff.2
    refine this ?_
    simp only [List.map_cons, List.nodup_cons]
    refine ⟨fun hmem => ?_, h.nd⟩
    obtain ⟨x, hx, e⟩ := List.mem_map.1 hmem
    exact hno x hx e
  · intro x hx
    rcases List.mem_cons.1 (hperm.mem_iff.1 hx) with rfl | hx
    · exact hl
    · exact h.ok x hx
  · have hp2 := hperm.map (Prod.fst : Nat × Lk → Nat)
    have : (bc :: bf :: bm :: (σ.set i ((b', l) :: r)).flatten.map Prod.fst).Perm (b' :: (bc :: bf :: bm :: σ.flatten.map Prod.fst)) := by
      refine ((hp2.cons bm).cons bf |>.cons bc).trans ?_
      simp only [List.map_cons]
      exact (((List.Perm.swap _ _ _).cons _).cons _).trans (((List.Perm.swap _ _ _).cons _).trans (List.Perm.swap _ _ _))
    rw [this.nodup_iff, List.nodup_cons]
    refine ⟨fun hmem => ?_, h.apart⟩
    have : b' < w.heap.size := by
      simp only [List.mem_cons] at hmem
      rcases hmem with rfl | rfl | rfl | hmem
      · exact h.lt_bc
      · exact h.lt_bf
      · exact h.lt_bm
      · obtain ⟨x, hx, rfl⟩ := List.mem_map.1 hmem
        exact h.lt_node hx
    omega

end
end Go.Proofs.Ytmhjdjndckeepaa
