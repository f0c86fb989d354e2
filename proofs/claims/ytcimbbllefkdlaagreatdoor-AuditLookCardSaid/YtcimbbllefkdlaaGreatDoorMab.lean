/- Texts of this proof, merged: ChU ChV ChP ChQ ChS. -/
import Derived.Test.YtcimbbllefkdlaaGreatDoorMaa
namespace Go.Proofs.YtcimbbllefkdlaaGreatDoor
set_option linter.unusedVariables false
set_option linter.unusedSimpArgs false
open Go.RowKit
open Go.ChangeMaps (setBlock)

theorem flatten_set_perm {α : Type} : ∀ (σ : List (List α)) (i : Nat) (r : List α) (x : α), σ[i]? = some r → (σ.set i (x :: r)).flatten.Perm (x :: σ.flatten)
  | [], _, _, _, h => by simp at h
  | s :: σ, 0, r, x, h => by
    simp at h; subst h; simp
  | s :: σ, i + 1, r, x, h => by
    simp at h
    have := flatten_set_perm σ i r x h
    simp only [List.set_cons_succ, List.flatten_cons]
    exact (this.append_left s).trans (List.perm_middle)

theorem mem_flatten_of {α : Type} {σ : List (List α)} {i : Nat} {r : List α} {x : α} (h : σ[i]? = some r) (hx : x ∈ r) : x ∈ σ.flatten :=
  List.mem_flatten.2 ⟨r, List.mem_of_getElem? h, hx⟩

/-- Two places of a list of rows whose parts are all unlike. -/
theorem ne_of_nodup {α β : Type} (f : α → β) : ∀ {σ : List (List α)} {i j : Nat} {r s : List α} {x y : α}, (σ.flatten.map f).Nodup → σ[i]? = some r → σ[j]? = some s → i ≠ j → x ∈ r → y ∈ s → f x ≠ f y
  | [], _, _, _, _, _, _, _, h, _, _, _, _ => by simp at h
  | t :: σ, 0, 0, _, _, _, _, _, _, _, h, _, _ => absurd rfl h
  | t :: σ, 0, j + 1, r, s, x, y, hn, h1, h2, _, hx, hy => by
    simp at h1 h2; subst h1
    simp only [List.flatten_cons, List.map_append, List.nodup_append] at hn
    exact hn.2.2 _ (List.mem_map.2 ⟨x, hx, rfl⟩) _ (List.mem_map.2 ⟨y, mem_flatten_of h2 hy, rfl⟩)
  | t :: σ, i + 1, 0, r, s, x, y, hn, h1, h2, _, hx, hy => by
    simp at h1 h2; subst h2
    simp only [List.flatten_cons, List.map_append, List.nodup_append] at hn
    exact fun e => hn.2.2 _ (List.mem_map.2 ⟨y, hy, rfl⟩) _ (List.mem_map.2 ⟨x, mem_flatten_of h1 hx, rfl⟩) e.symm
  | t :: σ, i + 1, j + 1, r, s, x, y, hn, h1, h2, hne, hx, hy => by
    simp at h1 h2
    simp only [List.flatten_cons, List.map_append, List.nodup_append] at hn
    exact ne_of_nodup f hn.2.1 h1 h2 (by omega) hx hy

theorem nodup_row {α β : Type} (f : α → β) {σ : List (List α)} {i : Nat} {r : List α} (hn : (σ.flatten.map f).Nodup) (h : σ[i]? = some r) : (r.map f).Nodup := by
  refine List.Nodup.sublist ?_ hn
  exact (List.sublist_flatten_of_mem (List.mem_of_getElem? h)).map f

theorem mem_nodes {r : Row} {a : Ad} (h : a ∈ nodes r) : ∃ x, x ∈ r ∧ a = (x.1, 0) := by
  obtain ⟨x, hx, rfl⟩ := List.mem_map.1 h
  exact ⟨x, hx, rfl⟩

section
variable {w : World} {bc bf bm : Nat} {σ : List Row}

theorem ChRep.nd1 (h : ChRep w bc bf bm σ) : (σ.flatten.map Prod.fst).Nodup := by
  have := h.apart; simp only [List.nodup_cons] at this; exact this.2.2.2
theorem ChRep.ne_bf (h : ChRep w bc bf bm σ) {x : Nat × Lk} (hx : x ∈ σ.flatten) : x.1 ≠ bf := by
  have := h.apart; simp only [List.nodup_cons, List.mem_cons] at this
  exact fun e => this.2.1 (Or.inr (e ▸ List.mem_map.2 ⟨x, hx, rfl⟩))
theorem ChRep.ne_bm (h : ChRep w bc bf bm σ) {x : Nat × Lk} (hx : x ∈ σ.flatten) : x.1 ≠ bm := by
  have := h.apart; simp only [List.nodup_cons, List.mem_cons] at this
  exact fun e => this.2.2.1 (e ▸ List.mem_map.2 ⟨x, hx, rfl⟩)
theorem ChRep.ne_bc (h : ChRep w bc bf bm σ) {x : Nat × Lk} (hx : x ∈ σ.flatten) : x.1 ≠ bc := by
  have := h.apart; simp only [List.nodup_cons, List.mem_cons] at this
  exact fun e => this.1 (Or.inr (Or.inr (e ▸ List.mem_map.2 ⟨x, hx, rfl⟩)))
theorem ChRep.bf_bm (h : ChRep w bc bf bm σ) : bf ≠ bm := by
  have := h.apart; simp only [List.nodup_cons, List.mem_cons] at this
  exact fun e => this.2.1 (Or.inl e)
theorem ChRep.bc_bm (h : ChRep w bc bf bm σ) : bc ≠ bm := by
  have := h.apart; simp only [List.nodup_cons, List.mem_cons] at this
  exact fun e => this.1 (Or.inr (Or.inl e))
theorem ChRep.bc_bf (h : ChRep w bc bf bm σ) : bc ≠ bf := by
  have := h.apart; simp only [List.nodup_cons, List.mem_cons] at this
  exact fun e => this.1 (Or.inl e)
theorem ChRep.lt_bc (h : ChRep w bc bf bm σ) : bc < w.heap.size := cell_lt h.c0
theorem ChRep.lt_bf (h : ChRep w bc bf bm σ) : bf < w.heap.size := cell_lt (h.front 0 h.pos).1
theorem ChRep.lt_bm (h : ChRep w bc bf bm σ) : bm < w.heap.size := by obtain ⟨m, hm, _⟩ := h.map; exact hm.lt
theorem ChRep.lt_node (h : ChRep w bc bf bm σ) {x : Nat × Lk} (hx : x ∈ σ.flatten) : x.1 < w.heap.size := by
  obtain ⟨r, hr, hx⟩ := List.mem_flatten.1 hx
  obtain ⟨i, hi, e⟩ := List.getElem_of_mem hr
  exact cell_lt (h.node i r (by rw [List.getElem?_eq_getElem hi, e]) x hx).1

/-- The blocks of chains. -/
def blocks (bc bf bm : Nat) (σ : List Row) : List Nat := bc :: bf :: bm :: σ.flatten.map Prod.fst

theorem ChRep.stay {w' : World} (h : ChRep w bc bf bm σ) (hs : ∀ b, b ∈ blocks bc bf bm σ → w'.heap[b]? = w.heap[b]?) : ChRep w' bc bf bm σ := by
  have k0 := hs bc (by simp [blocks])
  have kf := hs bf (by simp [blocks])
  have km := hs bm (by simp [blocks])
  have kn : ∀ x, x ∈ σ.flatten → w'.heap[x.1]? = w.heap[x.1]? := fun x hx => hs _ (by simp only [blocks, List.mem_cons]; exact Or.inr (Or.inr (Or.inr (List.mem_map.2 ⟨x, hx, rfl⟩))))
  have cf : ∀ o i, cl w' (bf, o) i = cl w (bf, o) i := fun o i => World.cell?_of_block kf
  have cn : ∀ x, x ∈ σ.flatten → ∀ i, cl w' (x.1, 0) i = cl w (x.1, 0) i := fun x hx i => World.cell?_of_block (kn x hx)
  refine ⟨(World.cell?_of_block k0).trans h.c0, (World.cell?_of_block k0).trans h.c1, h.pos, h.le, ?_, ?_, ?_, ?_, ?_, h.nd, h.ok, h.apart⟩
  · intro b o hb
    rcases hb with rfl | hb
    · rw [World.frozen?_of_block kf]; exact h.fz _ _ (Or.inl rfl)
    · obtain ⟨x, hx, rfl⟩ := List.mem_map.1 hb
      rw [World.frozen?_of_block (kn x hx)]; exact h.fz _ _ (Or.inr hb)
  · intro i hi
    simp only [cf]; exact h.front i hi
  · intro i r hr x hx
    simp only [cn x (mem_flatten_of hr hx)]; exact h.node i r hr x hx
  · intro i r hr
    have key : ∀ a, a ∈ (bf, i * 6) :: nodes r → ∀ j, cl w' a j = cl w a j := by
      intro a ha j
      rcases List.mem_cons.1 ha with rfl | ha
      · exact cf _ _
      · obtain ⟨x, hx, rfl⟩ := mem_nodes ha
        exact cn x (mem_flatten_of hr hx) j
    exact (h.ring i r hr).frame (fun a ha => key a ha 1) (fun a ha => key a (by simp at ha ⊢; exact ha.symm) 0)
  · obtain ⟨m, hm, hp⟩ := h.map
    exact ⟨m, hm.of_block km, hp⟩

/-- The front, or the first node: where a new node is put. -/
def qq (bf i : Nat) (r : Row) : Ad := hd (nodes r) (bf, i * 6)

theorem ChRep.put {w' : World} (h : ChRep w bc bf bm σ) {i : Nat} {r : Row} (hi : σ[i]? = some r) {l : Lk} (hl : Lok l) (hno : ∀ x, x ∈ σ.flatten → x.2 ≠ l) {b' : Nat} (hb' : w.heap.size ≤ b')
    (hc : ∀ b o, b < w.heap.size → b ≠ bm → w'.cell? ⟨b, o, none⟩ = if (b = bf ∧ o = i * 6 + 1) ∨ (b = (qq bf i r).1 ∧ o = (qq bf i r).2) then some (ptr (b', 0)) else w.cell? ⟨b, o, none⟩)
    (hz : ∀ b o, b < w.heap.size → b ≠ bm → w'.frozen? ⟨b, o, none⟩ = w.frozen? ⟨b, o, none⟩) (nz : ∀ o, w'.frozen? ⟨b', o, none⟩ = false)
    (n0 : cl w' (b', 0) 0 = some (ptr (bf, i * 6))) (n1 : cl w' (b', 0) 1 = some (ptr (qq bf i r))) (n2 : cl w' (b', 0) 2 = some (.int .i64 l.1)) (n3 : cl w' (b', 0) 3 = some (.int .u32 l.2.1))
    (n4 : cl w' (b', 0) 4 = some (.bool l.2.2)) (n5 : cl w' (b', 0) 5 = some (.int .i64 i))
    (hm : ∀ m, MapIs w bm m → m.Perm (pairs σ) → MapIs w' bm (m ++ [(lv l, ptr (b', 0))])) : ChRep w' bc bf bm (σ.set i ((b', l) :: r)) := by
  have hil : i < σ.length := (List.getElem?_eq_some_iff.1 hi).1
  have hperm := flatten_set_perm σ i r (b', l) hi
  have hbf := h.lt_bf
  have hq : (qq bf i r = (bf, i * 6) ∧ r = []) ∨ ∃ y ys, r = y :: ys ∧ qq bf i r = (y.1, 0) := by
    cases r with
    | nil => exact Or.inl ⟨rfl, rfl⟩
    | cons y ys => exact Or.inr ⟨y, ys, rfl, rfl⟩
  -- cells of fronts and nodes away from the two that are written
  have front_same : ∀ j k, k < 6 → ¬ (j = i ∧ k = 1) → ¬ (j = i ∧ k = 0 ∧ r = []) → cl w' (bf, j * 6) k = cl w (bf, j * 6) k := by
    intro j k hk h1 h2
    unfold cl
    rw [hc _ _ hbf h.bf_bm, if_neg]
    rintro (⟨_, e⟩ | ⟨e1, e2⟩)
    · exact h1 (by simp only at e; omega)
    · rcases hq with ⟨hq, hr⟩ | ⟨y, ys, hr, hq⟩
      · rw [hq] at e2; exact h2 ⟨by simp only at e2; omega, by simp only at e2; omega, hr⟩
      · rw [hq] at e1; exact h.ne_bf (mem_flatten_of hi (hr ▸ List.mem_cons_self ..)) e1.symm
  have node_same : ∀ x, x ∈ σ.flatten → ∀ k, ¬ ((x.1, k) = qq bf i r) → cl w' (x.1, 0) k = cl w (x.1, 0) k := by
    intro x hx k hk
    unfold cl
    rw [hc _ _ (h.lt_node hx) (h.ne_bm hx), if_neg]
    rintro (⟨e, _⟩ | ⟨e1, e2⟩)
    · exact h.ne_bf hx e
    · exact hk (Prod.ext e1 (by simpa using e2))
  have qne : ∀ x, x ∈ σ.flatten → ∀ k, 1 ≤ k → ¬ ((x.1, k) = qq bf i r) := by
    intro x hx k hk e
    rcases hq with ⟨hq, hr⟩ | ⟨y, ys, hr, hq⟩
    · rw [hq] at e; exact h.ne_bf hx (by injection e)
    · rw [hq] at e; injection e; omega
  have len : (σ.set i ((b', l) :: r)).length = σ.length := by simp
  refine ⟨?_, ?_, by rw [len]; exact h.pos, by rw [len]; exact h.le, ?_, ?_, ?_, ?_, ?_, ?_, ?_, ?_⟩
  · rw [hc _ _ h.lt_bc h.bc_bm, if_neg, len]; exact h.c0
    rintro (⟨e, _⟩ | ⟨e, _⟩)
    · exact h.bc_bf e
    · rcases hq with ⟨hq, _⟩ | ⟨y, ys, hr, hq⟩
      · rw [hq] at e; exact h.bc_bf e
      · rw [hq] at e; exact h.ne_bc (mem_flatten_of hi (hr ▸ List.mem_cons_self ..)) e.symm
  · rw [hc _ _ h.lt_bc h.bc_bm, if_neg]; exact h.c1
    rintro (⟨e, _⟩ | ⟨e, _⟩)
    · exact h.bc_bf e
    · rcases hq with ⟨hq, _⟩ | ⟨y, ys, hr, hq⟩
      · rw [hq] at e; exact h.bc_bf e
      · rw [hq] at e; exact h.ne_bc (mem_flatten_of hi (hr ▸ List.mem_cons_self ..)) e.symm
  · intro b o hb
    rcases hb with rfl | hb
    · rw [hz _ _ hbf h.bf_bm]; exact h.fz _ _ (Or.inl rfl)
    · obtain ⟨x, hx, rfl⟩ := List.mem_map.1 hb
      rcases List.mem_cons.1 (hperm.mem_iff.1 hx) with rfl | hx
      · exact nz o
      · rw [hz _ _ (h.lt_node hx) (h.ne_bm hx)]; exact h.fz _ _ (Or.inr (List.mem_map.2 ⟨x, hx, rfl⟩))
  · intro j hj
    rw [len] at hj
    rw [front_same j 2 (by omega) (by omega) (by omega), front_same j 3 (by omega) (by omega) (by omega), front_same j 4 (by omega) (by omega) (by omega), front_same j 5 (by omega) (by omega) (by omega)]
    exact h.front j hj
  · intro j s hs x hx
    by_cases hj : i = j
    · subst hj
      rw [List.getElem?_set_self hil] at hs
      obtain rfl := Option.some.inj hs
      rcases List.mem_cons.1 hx with rfl | hx
      · exact ⟨n2, n3, n4, n5⟩
      · have hf := mem_flatten_of hi hx
        rw [node_same x hf 2 (qne x hf 2 (by omega)), node_same x hf 3 (qne x hf 3 (by omega)), node_same x hf 4 (qne x hf 4 (by omega)), node_same x hf 5 (qne x hf 5 (by omega))]
        exact h.node i r hi x hx
    · rw [List.getElem?_set_ne hj] at hs
      have hf := mem_flatten_of hs hx
      rw [node_same x hf 2 (qne x hf 2 (by omega)), node_same x hf 3 (qne x hf 3 (by omega)), node_same x hf 4 (qne x hf 4 (by omega)), node_same x hf 5 (qne x hf 5 (by omega))]
      exact h.node j s hs x hx
  · intro j s hs
    by_cases hj : i = j
    · subst hj
      rw [List.getElem?_set_self hil] at hs
      obtain rfl := Option.some.inj hs
      have hr := h.ring i r hi
      refine Ring.insert (b', 0) hr ?_ n0 n1 ?_ ?_ ?_
      · unfold cl; rw [hc _ _ hbf h.bf_bm, if_pos (Or.inl ⟨rfl, rfl⟩)]
      · unfold cl
        have hlt : (qq bf i r).1 < w.heap.size ∧ (qq bf i r).1 ≠ bm := by
          rcases hq with ⟨hq, _⟩ | ⟨y, ys, hr, hq⟩
          · rw [hq]; exact ⟨hbf, h.bf_bm⟩
          · rw [hq]; have hy := mem_flatten_of hi (hr ▸ List.mem_cons_self .. : y ∈ r); exact ⟨h.lt_node hy, h.ne_bm hy⟩
        show w'.cell? ⟨(qq bf i r).1, (qq bf i r).2 + 0, none⟩ = _
        rw [hc _ _ hlt.1 hlt.2, if_pos (Or.inr ⟨rfl, rfl⟩)]
      · intro b hb
        obtain ⟨x, hx, rfl⟩ := mem_nodes hb
        exact node_same x (mem_flatten_of hi hx) 1 (qne x (mem_flatten_of hi hx) 1 (by omega))
      · intro b hb
        rcases hq with ⟨_, hr⟩ | ⟨y, ys, hr, hq⟩
        · subst hr; simp at hb
        · subst hr
          simp only [List.map_cons, List.cons_append, List.tail_cons, List.mem_append, List.mem_singleton] at hb
          rcases hb with hb | rfl
          · obtain ⟨x, hx, rfl⟩ := List.mem_map.1 hb
            refine node_same x (mem_flatten_of hi (List.mem_cons_of_mem _ hx)) 0 (fun e => ?_)
            rw [hq] at e; injection e with e1
            have := nodup_row Prod.fst h.nd1 hi
            simp only [List.map_cons, List.nodup_cons] at this
            exact this.1 (e1 ▸ List.mem_map.2 ⟨x, hx, rfl⟩)
          · exact front_same i 0 (by omega) (by omega) (by simp)
    · rw [List.getElem?_set_ne hj] at hs
      refine (h.ring j s hs).frame ?_ ?_
      · intro a ha
        rcases List.mem_cons.1 ha with rfl | ha
        · exact front_same j 1 (by omega) (by omega) (by omega)
        · obtain ⟨x, hx, rfl⟩ := mem_nodes ha
          exact node_same x (mem_flatten_of hs hx) 1 (qne x (mem_flatten_of hs hx) 1 (by omega))
      · intro a ha
        rcases List.mem_append.1 ha with ha | ha
        · obtain ⟨x, hx, rfl⟩ := mem_nodes ha
          refine node_same x (mem_flatten_of hs hx) 0 (fun e => ?_)
          rcases hq with ⟨hq, _⟩ | ⟨y, ys, hr, hq⟩
          · rw [hq] at e; injection e with e1; exact h.ne_bf (mem_flatten_of hs hx) e1
          · rw [hq] at e; injection e with e1
            exact ne_of_nodup Prod.fst h.nd1 hs hi (fun e => hj e.symm) hx (hr ▸ List.mem_cons_self ..) e1
        · simp only [List.mem_singleton] at ha
          subst ha
          exact front_same j 0 (by omega) (by omega) (by omega)
  · obtain ⟨m, hm1, hp⟩ := h.map
    refine ⟨_, hm m hm1 hp, ?_⟩
    refine (List.perm_append_singleton _ _).trans ?_
    have := (hperm.map (fun x : Nat × Lk => (lv x.2, ptr (x.1, 0)))).symm
    exact ((hp.cons _)).trans this
  · have := (hperm.map (Prod.snd : Nat × Lk → Lk)).nodup_iff.2
    refine this ?_
    simp only [List.map_cons, List.nodup_cons]
    refine ⟨fun hmem => ?_, h.nd⟩
    obtain ⟨x, hx, e⟩ := List.mem_map.1 hmem
    exact hno x hx e
  · intro x hx
    rcases List.mem_cons.1 (hperm.mem_iff.1 hx) with rfl | hx
    · exact hl
    · exact h.ok x hx
  · have hp2 := hperm.map (Prod.fst : Nat × Lk → Nat)
    have : (bc :: bf :: bm :: (σ.set i ((b', l) :: r)).flatten.map Prod.fst).Perm (b' :: (bc :: bf :: bm :: σ.flatten.map Prod.fst)) := by
      refine ((hp2.cons bm).cons bf |>.cons bc).trans ?_
      simp only [List.map_cons]
      exact (((List.Perm.swap _ _ _).cons _).cons _).trans (((List.Perm.swap _ _ _).cons _).trans (List.Perm.swap _ _ _))
    rw [this.nodup_iff, List.nodup_cons]
    refine ⟨fun hmem => ?_, h.apart⟩
    have : b' < w.heap.size := by
      simp only [List.mem_cons] at hmem
      rcases hmem with rfl | rfl | rfl | hmem
      · exact h.lt_bc
      · exact h.lt_bf
      · exact h.lt_bm
      · obtain ⟨x, hx, rfl⟩ := List.mem_map.1 hmem
        exact h.lt_node hx
    omega

end
end Go.Proofs.YtcimbbllefkdlaaGreatDoor

namespace Go.Proofs.YtcimbbllefkdlaaGreatDoor
set_option linter.unusedVariables false
set_option linter.unusedSimpArgs false
open Go.RowKit
open Go.ChangeMaps (setBlock)

theorem flatten_cut_perm {α : Type} : ∀ (σ : List (List α)) (i : Nat) (r1 r2 : List α) (x : α), σ[i]? = some (r1 ++ x :: r2) → σ.flatten.Perm (x :: (σ.set i (r1 ++ r2)).flatten)
  | [], _, _, _, _, h => by simp at h
  | s :: σ, 0, r1, r2, x, h => by
    simp at h; subst h
    simp only [List.flatten_cons, List.set_cons_zero, List.append_assoc, List.cons_append]
    exact List.perm_middle
  | s :: σ, i + 1, r1, r2, x, h => by
    simp at h
    have := flatten_cut_perm σ i r1 r2 x h
    simp only [List.set_cons_succ, List.flatten_cons]
    exact (this.append_left s).trans List.perm_middle

theorem nodes_append (r s : Row) : nodes (r ++ s) = nodes r ++ nodes s := by simp [nodes]
theorem nodes_cons (x : Nat × Lk) (s : Row) : nodes (x :: s) = (x.1, 0) :: nodes s := rfl

theorem not_dropLast {α : Type} {l : List α} (hn : l.Nodup) {b : α} (hb : b ∈ l.dropLast) : ∀ h : l ≠ [], b ≠ l.getLast h := by
  intro h e
  have hl := List.dropLast_concat_getLast h
  rw [← hl, List.nodup_append] at hn
  exact hn.2.2 b hb _ (by simp) e

theorem lst_getLast (x : Ad) : ∀ (ys : List Ad) (h : x :: ys ≠ []), (x :: ys).getLast h = lst x ys
  | [], _ => rfl
  | y :: ys, _ => by rw [List.getLast_cons (by simp)]; exact lst_getLast y ys (by simp)

section
variable {w : World} {bc bf bm : Nat} {σ : List Row}

theorem ChRep.cut {w' : World} (h : ChRep w bc bf bm σ) {i : Nat} {r1 r2 : Row} {a : Nat} {l : Lk} (hi : σ[i]? = some (r1 ++ (a, l) :: r2)) {p q : Ad}
    (hp : p = lst (bf, i * 6) (nodes r1)) (hq : q = hd (nodes r2) (bf, i * 6))
    (hc : ∀ b o, b < w.heap.size → b ≠ bm → w'.cell? ⟨b, o, none⟩ = if b = q.1 ∧ o = q.2 then some (ptr p) else if b = p.1 ∧ o = p.2 + 1 then some (ptr q) else w.cell? ⟨b, o, none⟩)
    (hz : ∀ b o, b < w.heap.size → b ≠ bm → w'.frozen? ⟨b, o, none⟩ = w.frozen? ⟨b, o, none⟩)
    (hm : ∀ m, MapIs w bm m → m.Perm (pairs σ) → ∃ m', MapIs w' bm m' ∧ ((lv l, ptr (a, 0)) :: m').Perm m) : ChRep w' bc bf bm (σ.set i (r1 ++ r2)) := by
  have hil : i < σ.length := (List.getElem?_eq_some_iff.1 hi).1
  have hperm := flatten_cut_perm σ i r1 r2 (a, l) hi
  have hbf := h.lt_bf
  have hsub : ∀ x, x ∈ (σ.set i (r1 ++ r2)).flatten → x ∈ σ.flatten := fun x hx => hperm.mem_iff.2 (List.mem_cons_of_mem _ hx)
  have m1 : ∀ x, x ∈ r1 → x ∈ r1 ++ (a, l) :: r2 := fun x hx => List.mem_append_left _ hx
  have m2 : ∀ x, x ∈ r2 → x ∈ r1 ++ (a, l) :: r2 := fun x hx => List.mem_append_right _ (List.mem_cons_of_mem _ hx)
  have hpq : (p = (bf, i * 6) ∨ ∃ x, x ∈ r1 ∧ p = (x.1, 0)) ∧ (q = (bf, i * 6) ∨ ∃ x, x ∈ r2 ∧ q = (x.1, 0)) := by
    constructor
    · have := lst_mem (bf, i * 6) (nodes r1)
      rw [← hp] at this
      rcases List.mem_cons.1 this with e | e
      · exact Or.inl e
      · exact Or.inr (mem_nodes e)
    · have := hd_mem (nodes r2) (bf, i * 6)
      rw [← hq] at this
      rcases List.mem_append.1 this with e | e
      · exact Or.inr (mem_nodes e)
      · exact Or.inl (List.mem_singleton.1 e)
  -- the cells that stay
  have front_same : ∀ j k, k < 6 → ¬ (j = i ∧ k = 1 ∧ p = (bf, i * 6)) → ¬ (j = i ∧ k = 0 ∧ q = (bf, i * 6)) → cl w' (bf, j * 6) k = cl w (bf, j * 6) k := by
    intro j k hk h1 h2
    unfold cl
    rw [hc _ _ hbf h.bf_bm, if_neg, if_neg]
    · rintro ⟨e1, e2⟩
      rcases hpq.1 with e | ⟨x, hx, e⟩
      · rw [e] at e2; exact h1 ⟨by simp only at e2; omega, by simp only at e2; omega, e⟩
      · rw [e] at e1; exact h.ne_bf (mem_flatten_of hi (m1 x hx)) e1.symm
    · rintro ⟨e1, e2⟩
      rcases hpq.2 with e | ⟨x, hx, e⟩
      · rw [e] at e2; exact h2 ⟨by simp only at e2; omega, by simp only at e2; omega, e⟩
      · rw [e] at e1; exact h.ne_bf (mem_flatten_of hi (m2 x hx)) e1.symm
  have node_same : ∀ x, x ∈ σ.flatten → ∀ k, ¬ (k = 1 ∧ p = (x.1, 0)) → ¬ (k = 0 ∧ q = (x.1, 0)) → cl w' (x.1, 0) k = cl w (x.1, 0) k := by
    intro x hx k h1 h2
    unfold cl
    rw [hc _ _ (h.lt_node hx) (h.ne_bm hx), if_neg, if_neg]
    · rintro ⟨e1, e2⟩
      rcases hpq.1 with e | ⟨y, _, e⟩
      · rw [e] at e1; exact h.ne_bf hx e1
      · rw [e] at e1 e2; exact h1 ⟨by simp only at e2; omega, by rw [e]; simp only at e1; rw [e1]⟩
    · rintro ⟨e1, e2⟩
      rcases hpq.2 with e | ⟨y, _, e⟩
      · rw [e] at e1; exact h.ne_bf hx e1
      · rw [e] at e1 e2; exact h2 ⟨by simp only at e2; omega, by rw [e]; simp only at e1; rw [e1]⟩
  have len : (σ.set i (r1 ++ r2)).length = σ.length := by simp
  have c_same : ∀ o, w'.cell? ⟨bc, o, none⟩ = w.cell? ⟨bc, o, none⟩ := by
    intro o
    rw [hc _ _ h.lt_bc h.bc_bm, if_neg, if_neg]
    · rintro ⟨e1, _⟩
      rcases hpq.1 with e | ⟨x, hx, e⟩
      · rw [e] at e1; exact h.bc_bf e1
      · rw [e] at e1; exact h.ne_bc (mem_flatten_of hi (m1 x hx)) e1.symm
    · rintro ⟨e1, _⟩
      rcases hpq.2 with e | ⟨x, hx, e⟩
      · rw [e] at e1; exact h.bc_bf e1
      · rw [e] at e1; exact h.ne_bc (mem_flatten_of hi (m2 x hx)) e1.symm
  have nrow := nodup_row Prod.fst h.nd1 hi
  simp only [List.map_append, List.map_cons, List.nodup_append, List.nodup_cons] at nrow
  obtain ⟨nr1, ⟨nr3, nr2⟩, nr12⟩ := nrow
  have a12 : ∀ x, x ∈ r1 → ∀ y, y ∈ r2 → x.1 ≠ y.1 := fun x hx y hy => nr12 _ (List.mem_map.2 ⟨x, hx, rfl⟩) _ (List.mem_cons_of_mem _ (List.mem_map.2 ⟨y, hy, rfl⟩))
  have lt_of : ∀ z : Ad, (z = (bf, i * 6) ∨ ∃ x, (x ∈ r1 ∨ x ∈ r2) ∧ z = (x.1, 0)) → z.1 < w.heap.size ∧ z.1 ≠ bm := by
    rintro z (e | ⟨x, hx, e⟩)
    · rw [e]; exact ⟨hbf, h.bf_bm⟩
    · have hx := mem_flatten_of hi (hx.elim (m1 x) (m2 x))
      rw [e]; exact ⟨h.lt_node hx, h.ne_bm hx⟩
  have ltp := lt_of p (hpq.1.imp id (fun ⟨x, hx, e⟩ => ⟨x, Or.inl hx, e⟩))
  have ltq := lt_of q (hpq.2.imp id (fun ⟨x, hx, e⟩ => ⟨x, Or.inr hx, e⟩))
  have wq : cl w' q 0 = some (ptr p) := by unfold cl; rw [hc _ _ ltq.1 ltq.2, if_pos ⟨rfl, rfl⟩]
  have wp : cl w' p 1 = some (ptr q) := by
    unfold cl; rw [hc _ _ ltp.1 ltp.2, if_neg, if_pos ⟨rfl, rfl⟩]
    rintro ⟨e1, e2⟩
    rcases hpq.1 with e | ⟨x, _, e⟩ <;> rcases hpq.2 with f | ⟨y, _, f⟩ <;> rw [e, f] at e2 <;> simp only at e2 <;> try omega
  refine ⟨(c_same 0).trans (by rw [len]; exact h.c0), (c_same 1).trans h.c1, by rw [len]; exact h.pos, by rw [len]; exact h.le, ?_, ?_, ?_, ?_, ?_, ?_, ?_, ?_⟩
  · intro b o hb
    rcases hb with rfl | hb
    · rw [hz _ _ hbf h.bf_bm]; exact h.fz _ _ (Or.inl rfl)
    · obtain ⟨x, hx, rfl⟩ := List.mem_map.1 hb
      have hx := hsub x hx
      rw [hz _ _ (h.lt_node hx) (h.ne_bm hx)]; exact h.fz _ _ (Or.inr (List.mem_map.2 ⟨x, hx, rfl⟩))
  · intro j hj
    rw [len] at hj
    rw [front_same j 2 (by omega) (by omega) (by omega), front_same j 3 (by omega) (by omega) (by omega), front_same j 4 (by omega) (by omega) (by omega), front_same j 5 (by omega) (by omega) (by omega)]
    exact h.front j hj
  · intro j s hs x hx
    have hf := hsub x (mem_flatten_of hs hx)
    rw [node_same x hf 2 (by omega) (by omega), node_same x hf 3 (by omega) (by omega), node_same x hf 4 (by omega) (by omega), node_same x hf 5 (by omega) (by omega)]
    by_cases hj : i = j
    · subst hj
      rw [List.getElem?_set_self hil] at hs
      obtain rfl := Option.some.inj hs
      exact h.node i _ hi x ((List.mem_append.1 hx).elim (m1 x) (m2 x))
    · rw [List.getElem?_set_ne hj] at hs
      exact h.node j s hs x hx
  · intro j s hs
    by_cases hj : i = j
    · subst hj
      rw [List.getElem?_set_self hil] at hs
      obtain rfl := Option.some.inj hs
      have hr := h.ring i _ hi
      rw [nodes_append, nodes_cons, Ring.split] at hr
      rw [nodes_append]
      refine Ring.join hr.1 hr.2 (by rw [← hp, ← hq]; exact wp) (by rw [← hp, ← hq]; exact wq) ?_ ?_
      · rintro b (hb | hb)
        · have hbp : b ≠ p := by
            rw [hp, ← lst_getLast _ _ (by simp)]
            refine not_dropLast ?_ hb _
            refine List.nodup_cons.2 ⟨fun e => ?_, ?_⟩
            · obtain ⟨x, hx, e⟩ := mem_nodes e
              exact h.ne_bf (mem_flatten_of hi (m1 x hx)) (by injection e with e _; exact e.symm)
            · have : nodes r1 = (r1.map Prod.fst).map (fun b => (b, 0)) := by simp [nodes]
              rw [this]
              unfold List.Nodup; rw [List.pairwise_map]
              exact nr1.imp (fun h e => h (by injection e))
          have hb' := List.dropLast_subset _ hb
          rcases List.mem_cons.1 hb' with rfl | hb'
          · exact front_same i 1 (by omega) (fun e => hbp e.2.2.symm) (by omega)
          · obtain ⟨x, hx, rfl⟩ := mem_nodes hb'
            exact node_same x (mem_flatten_of hi (m1 x hx)) 1 (fun e => hbp e.2.symm) (by omega)
        · obtain ⟨x, hx, rfl⟩ := mem_nodes hb
          refine node_same x (mem_flatten_of hi (m2 x hx)) 1 (fun e => ?_) (by omega)
          rcases hpq.1 with f | ⟨y, hy, f⟩
          · rw [f] at e; exact h.ne_bf (mem_flatten_of hi (m2 x hx)) (by have := e.2; injection this with this _; exact this.symm)
          · rw [f] at e; exact a12 y hy x hx (by have := e.2; injection this)
      · rintro b (hb | hb)
        · obtain ⟨x, hx, rfl⟩ := mem_nodes hb
          refine node_same x (mem_flatten_of hi (m1 x hx)) 0 (by omega) (fun e => ?_)
          rcases hpq.2 with f | ⟨y, hy, f⟩
          · rw [f] at e; exact h.ne_bf (mem_flatten_of hi (m1 x hx)) (by have := e.2; injection this with this _; exact this.symm)
          · rw [f] at e; exact a12 x hx y hy (by have := e.2; injection this with this _; exact this.symm)
        · cases r2 with
          | nil => simp [nodes] at hb
          | cons y ys =>
            have hqy : q = (y.1, 0) := hq
            simp only [nodes_cons, List.cons_append, List.tail_cons, List.mem_append, List.mem_singleton] at hb
            rcases hb with hb | rfl
            · obtain ⟨x, hx, rfl⟩ := mem_nodes hb
              refine node_same x (mem_flatten_of hi (m2 x (List.mem_cons_of_mem _ hx))) 0 (by omega) (fun e => ?_)
              rw [hqy] at e
              simp only [List.map_cons, List.nodup_cons] at nr2
              refine nr2.1 ?_
              have := e.2; injection this with this _
              rw [this]; exact List.mem_map.2 ⟨x, hx, rfl⟩
            · refine front_same i 0 (by omega) (by omega) (fun e => ?_)
              rw [hqy] at e
              exact h.ne_bf (mem_flatten_of hi (m2 y (List.mem_cons_self ..))) (by have := e.2.2; injection this)
    · rw [List.getElem?_set_ne hj] at hs
      have far : ∀ x, x ∈ s → ∀ z : Ad, (z = (bf, i * 6) ∨ ∃ y, (y ∈ r1 ∨ y ∈ r2) ∧ z = (y.1, 0)) → z ≠ (x.1, 0) := by
        rintro x hx z (e | ⟨y, hy, e⟩) f
        · rw [e] at f; exact h.ne_bf (mem_flatten_of hs hx) (by injection f with f _; exact f.symm)
        · rw [e] at f; exact ne_of_nodup Prod.fst h.nd1 hi hs hj (hy.elim (m1 y) (m2 y)) hx (by injection f)
      have farp : ∀ x, x ∈ s → p ≠ (x.1, 0) := fun x hx => far x hx p (hpq.1.imp id (fun ⟨y, hy, e⟩ => ⟨y, Or.inl hy, e⟩))
      have farq : ∀ x, x ∈ s → q ≠ (x.1, 0) := fun x hx => far x hx q (hpq.2.imp id (fun ⟨y, hy, e⟩ => ⟨y, Or.inr hy, e⟩))
      refine (h.ring j s hs).frame ?_ ?_
      · intro b hb
        rcases List.mem_cons.1 hb with rfl | hb
        · exact front_same j 1 (by omega) (by omega) (by omega)
        · obtain ⟨x, hx, rfl⟩ := mem_nodes hb
          exact node_same x (mem_flatten_of hs hx) 1 (fun e => farp x hx e.2) (by omega)
      · intro b hb
        rcases List.mem_append.1 hb with hb | hb
        · obtain ⟨x, hx, rfl⟩ := mem_nodes hb
          exact node_same x (mem_flatten_of hs hx) 0 (by omega) (fun e => farq x hx e.2)
        · simp only [List.mem_singleton] at hb
          subst hb
          exact front_same j 0 (by omega) (by omega) (by omega)
  · obtain ⟨m, hm1, hpm⟩ := h.map
    obtain ⟨m', hm', hp'⟩ := hm m hm1 hpm
    refine ⟨m', hm', ?_⟩
    have e := hperm.map (fun x : Nat × Lk => (lv x.2, ptr (x.1, 0)))
    exact (List.perm_cons _).1 ((hp'.trans hpm).trans e)
  · have := (hperm.map (Prod.snd : Nat × Lk → Lk)).nodup_iff.1 h.nd
    simp only [List.map_cons, List.nodup_cons] at this
    exact this.2
  · exact fun x hx => h.ok x (hsub x hx)
  · refine List.Nodup.sublist ?_ h.apart
    refine ((List.Sublist.cons_cons _ (List.Sublist.cons_cons _ (List.Sublist.cons_cons _ ?_))))
    refine List.Sublist.map _ ?_
    have : ∀ (τ : List Row) (i : Nat) (r s : Row), τ[i]? = some r → s.Sublist r → (τ.set i s).flatten.Sublist τ.flatten := by
      intro τ
      induction τ with
      | nil => intro i r s h; simp at h
      | cons t τ ih =>
        intro i r s h hs
        cases i with
        | zero => simp at h; subst h; simp only [List.set_cons_zero, List.flatten_cons]; exact hs.append (List.Sublist.refl _)
        | succ i => simp at h; simp only [List.set_cons_succ, List.flatten_cons]; exact (List.Sublist.refl t).append (ih i r s h hs)
    exact this σ i _ _ hi ((List.Sublist.refl r1).append (List.sublist_cons_self _ _))

end
end Go.Proofs.YtcimbbllefkdlaaGreatDoor

namespace Go.Proofs.YtcimbbllefkdlaaGreatDoor
set_option linter.unusedVariables false
set_option linter.unusedSimpArgs false
open Go.RowKit
open Go.ChangeMaps (setBlock)
open Go.WideMaps (KeyLaw)

section
variable {w : World} {bc bf bm : Nat} {σ : List Row}

theorem ChRep.keys (h : ChRep w bc bf bm σ) {m : List (Value × Value)} (hp : m.Perm (pairs σ)) : ∀ p ∈ m, ∃ x, keyOf Tryz.prog 83 p.1 = some x := by
  intro p hp'
  obtain ⟨x, hx, rfl⟩ := List.mem_map.1 (hp.mem_iff.1 hp')
  exact lv_key _ (h.ok x hx)
theorem ChRep.keysNd (h : ChRep w bc bf bm σ) {m : List (Value × Value)} (hp : m.Perm (pairs σ)) : (m.map Prod.fst).Nodup := by
  rw [(hp.map Prod.fst).nodup_iff]
  have : (pairs σ).map Prod.fst = (σ.flatten.map Prod.snd).map lv := by unfold pairs; rw [List.map_map, List.map_map]; rfl
  rw [this]
  unfold List.Nodup
  rw [List.pairwise_map]
  exact List.Pairwise.imp (fun h e => h (lv_inj e)) h.nd
theorem ChRep.inMap (_h : ChRep w bc bf bm σ) {m : List (Value × Value)} (hp : m.Perm (pairs σ)) {x : Nat × Lk} (hx : x ∈ σ.flatten) : (lv x.2, ptr (x.1, 0)) ∈ m :=
  hp.mem_iff.2 (List.mem_map.2 ⟨x, hx, rfl⟩)

end
end Go.Proofs.YtcimbbllefkdlaaGreatDoor

namespace Go.Proofs.YtcimbbllefkdlaaGreatDoor
set_option linter.unusedVariables false
set_option linter.unusedSimpArgs false
set_option maxRecDepth 100000
open Go.RowKit
open Go.ChangeMaps (setBlock)
open Go.WideMaps (KeyLaw)

def lk0 : Lk := (0, 0, false)

theorem ringSize : Tryz.prog.cellsOf 168 ≠ 0 := of_decide_eq_true (by kernel_rfl)


theorem ChRep.plain_bf {w : World} {bc bf bm : Nat} {σ : List Row} (h : ChRep w bc bf bm σ) : Plain w bf := Plain.of_cell (h.front 0 h.pos).1 (fun _ => h.fz _ _ (Or.inl rfl))
theorem ChRep.plain_node {w : World} {bc bf bm : Nat} {σ : List Row} (h : ChRep w bc bf bm σ) {x : Nat × Lk} (hx : x ∈ σ.flatten) : Plain w x.1 := by
  obtain ⟨r, hr, hx'⟩ := List.mem_flatten.1 hx
  obtain ⟨i, hi, e⟩ := List.getElem_of_mem hr
  exact Plain.of_cell (h.node i r (by rw [List.getElem?_eq_getElem hi, e]) x hx').1 (fun _ => h.fz _ _ (Or.inr (List.mem_map.2 ⟨x, hx, rfl⟩)))

/-- The first of a row's links, if there is one. -/
def hdl : Row → Lk × Bool
  | [] => (lk0, false)
  | y :: _ => (y.2, true)

theorem ptr_run {w : World} {b q : Ad} (hb : Plain w b.1) (hq : Plain w q.1) (O : Obj) :
    (binOp .eql 166 (ptr q) (ptr b)).run Tryz.prog (w.alloc O).drew = .ok (.bool (decide (q = b))) (w.alloc O).drew := by
  have e1 : (w.alloc O).drew.heap[b.1]? = w.heap[b.1]? := Below.heap_alloc _ _ _ hb.lt
  have e2 : (w.alloc O).drew.heap[q.1]? = w.heap[q.1]? := Below.heap_alloc _ _ _ hq.lt
  have := run_eql_ptr (a := ⟨q.1, q.2, none⟩) (b := ⟨b.1, b.2, none⟩) Tryz.underlying166 ringSize rfl rfl (hq.of_block e2) (hb.of_block e1)
  unfold ptr
  rw [this]
  have e : ((⟨q.1, q.2, none⟩ : Addr) == ⟨b.1, b.2, none⟩) = decide (q = b) := by
    rw [Bool.eq_iff_iff]; simp [Prod.ext_iff]
  rw [e]

set_option maxHeartbeats 400000 in
theorem behind_end (bc bf n i a o : Nat) (w : World) (c0 : w.cell? ⟨bc, 0, none⟩ = some (.slice (some ⟨bf, 0, none⟩) n n)) (g1 : w.cell? ⟨a, o + 1, none⟩ = some (.pointer (some ⟨bf, i * 6, none⟩)))
    (g5 : w.cell? ⟨a, o + 5, none⟩ = some (.int .i64 i)) (hi : i < n) (hn : n ≤ 64) (hp : Plain w bf) :
    Calls Tryz.prog 103 #[.pointer (some ⟨bc, 0, none⟩), .pointer (some ⟨a, o, none⟩)] w (Ret1 (.tuple #[lv lk0, .bool false]) w) := by
  have lc : bc < w.heap.size := cell_lt c0
  have la : a < w.heap.size := cell_lt g1
  have heq : ∀ O : Obj, (binOp .eql 166 (.pointer (some ⟨bf, i * 6, none⟩)) (.pointer (some ⟨bf, i * 6, none⟩))).run Tryz.prog (w.alloc O).drew = .ok (.bool true) (w.alloc O).drew := fun O => by
    have := ptr_run (b := (bf, i * 6)) (q := (bf, i * 6)) hp hp O
    simpa [ptr] using this
  go_enter Tryz.func103, Tryz.ntmps103
  go_wp2_with fail
  (refine wp_still_lit (by kernel_rfl) (by kernel_rfl) ?_; (repeat still_step); refine wpStill_nil ?_)
  go_wp2_with fail
  refine bodyPost_ret (v := .tuple #[lv lk0, .bool false]) (by simp [results, Tryz.results103, go_sem, lv, lk0]) rfl ⟨rfl, ?_⟩
  (repeat (first | exact Fp.refl _ _ | refine Fp.drew ?_ | refine Fp.drewN ?_ _ | refine Fp.alloc ?_ _ | (refine Fp.setCell ?_ (Or.inl (by simp)) _) | (refine Fp.setCell ?_ (Or.inl (by simp; omega)) _) | refine Fp.trans ?_ (by assumption) (fun _ _ h => h)))

set_option maxHeartbeats 400000 in
theorem behind_mid (bc bf n i a o q : Nat) (l : Lk) (w : World) (c0 : w.cell? ⟨bc, 0, none⟩ = some (.slice (some ⟨bf, 0, none⟩) n n)) (g1 : w.cell? ⟨a, o + 1, none⟩ = some (.pointer (some ⟨q, 0, none⟩)))
    (g5 : w.cell? ⟨a, o + 5, none⟩ = some (.int .i64 i)) (hi : i < n) (hn : n ≤ 64) (hp : Plain w bf) (hq : Plain w q) (hne : q ≠ bf)
    (q2 : w.cell? ⟨q, 2, none⟩ = some (.int .i64 l.1)) (q3 : w.cell? ⟨q, 3, none⟩ = some (.int .u32 l.2.1)) (q4 : w.cell? ⟨q, 4, none⟩ = some (.bool l.2.2)) :
    Calls Tryz.prog 103 #[.pointer (some ⟨bc, 0, none⟩), .pointer (some ⟨a, o, none⟩)] w (Ret1 (.tuple #[lv l, .bool true]) w) := by
  have lc : bc < w.heap.size := cell_lt c0
  have la : a < w.heap.size := cell_lt g1
  have lq : q < w.heap.size := cell_lt q2
  have heq : ∀ O : Obj, (binOp .eql 166 (.pointer (some ⟨q, 0, none⟩)) (.pointer (some ⟨bf, i * 6, none⟩))).run Tryz.prog (w.alloc O).drew = .ok (.bool false) (w.alloc O).drew := fun O => by
    have := ptr_run (b := (bf, i * 6)) (q := (q, 0)) hp hq O
    simpa [ptr, hne] using this
  clear hne
  go_enter Tryz.func103, Tryz.ntmps103
  go_wp2_with fail
  (refine wp_still_lit (by kernel_rfl) (by kernel_rfl) ?_; (repeat still_step); refine wpStill_nil ?_)
  go_wp2_with fail
  refine bodyPost_ret (v := .tuple #[lv l, .bool true]) (by simp [results, Tryz.results103, go_sem, lv]) rfl ⟨rfl, ?_⟩
  (repeat (first | exact Fp.refl _ _ | refine Fp.drew ?_ | refine Fp.drewN ?_ _ | refine Fp.alloc ?_ _ | (refine Fp.setCell ?_ (Or.inl (by simp)) _) | (refine Fp.setCell ?_ (Or.inl (by simp; omega)) _) | refine Fp.trans ?_ (by assumption) (fun _ _ h => h)))

section
variable {w : World} {bc bf bm : Nat} {σ : List Row}

theorem behind_ok (h : ChRep w bc bf bm σ) {i : Nat} {r1 r2 : Row} (hi : σ[i]? = some (r1 ++ r2)) {a o : Nat} (g1 : w.cell? ⟨a, o + 1, none⟩ = some (ptr (hd (nodes r2) (bf, i * 6)))) (g5 : w.cell? ⟨a, o + 5, none⟩ = some (.int .i64 i)) :
    Calls Tryz.prog 103 #[.pointer (some ⟨bc, 0, none⟩), .pointer (some ⟨a, o, none⟩)] w (Ret1 (.tuple #[lv (hdl r2).1, .bool (hdl r2).2]) w) := by
  have hil : i < σ.length := (List.getElem?_eq_some_iff.1 hi).1
  cases r2 with
  | nil => exact behind_end bc bf σ.length i a o w h.c0 g1 g5 hil h.le h.plain_bf
  | cons y ys =>
    have hy : y ∈ r1 ++ y :: ys := by simp
    have hf := mem_flatten_of hi hy
    have hn := h.node i _ hi y hy
    simp only [cl, Nat.zero_add] at hn
    exact behind_mid bc bf σ.length i a o y.1 y.2 w h.c0 g1 g5 hil h.le h.plain_bf (h.plain_node hf) (h.ne_bf hf) hn.1 hn.2.1 hn.2.2.1

end
end Go.Proofs.YtcimbbllefkdlaaGreatDoor

namespace Go.Proofs.YtcimbbllefkdlaaGreatDoor
set_option linter.unusedVariables false
set_option linter.unusedSimpArgs false
set_option maxRecDepth 100000
open Go.RowKit
open Go.ChangeMaps (setBlock)
open Go.WideMaps (KeyLaw)

section
variable {w : World} {bc bf bm : Nat} {σ : List Row}

theorem ChRep.alloc (h : ChRep w bc bf bm σ) (O : Obj) : ChRep (w.alloc O) bc bf bm σ := h.stay fun b hb => Below.heap_alloc _ _ _ (by
  simp only [blocks, List.mem_cons] at hb
  rcases hb with rfl | rfl | rfl | hb
  · exact h.lt_bc
  · exact h.lt_bf
  · exact h.lt_bm
  · obtain ⟨x, hx, rfl⟩ := List.mem_map.1 hb; exact h.lt_node hx)
theorem ChRep.drew (h : ChRep w bc bf bm σ) : ChRep w.drew bc bf bm σ := h.stay fun _ _ => rfl
theorem ChRep.lt (h : ChRep w bc bf bm σ) {b : Nat} (hb : b ∈ blocks bc bf bm σ) : b < w.heap.size := by
  simp only [blocks, List.mem_cons] at hb
  rcases hb with rfl | rfl | rfl | hb
  · exact h.lt_bc
  · exact h.lt_bf
  · exact h.lt_bm
  · obtain ⟨x, hx, rfl⟩ := List.mem_map.1 hb; exact h.lt_node hx
theorem ChRep.fp {S : Nat → Prop} {w' : World} (h : ChRep w bc bf bm σ) (hf : Fp S w w') (hs : ∀ b, b ∈ blocks bc bf bm σ → ¬ S b) : ChRep w' bc bf bm σ := h.stay fun b hb => hf.block b (h.lt hb) (hs b hb)

theorem there_yes (b : Nat) (a : Option Addr) (n c : Nat) (i : Int) (w : World) (hc : w.cell? ⟨b, 0, none⟩ = some (.slice a n c)) (hx : 0 ≤ i ∧ i < n) :
    Calls Tryz.prog 102 #[.pointer (some ⟨b, 0, none⟩), .int .i64 i] w fun e w' => e = .returned (.bool true) ∧ w = w' :=
  (there_ptr b a n c i w hc).mono fun e w' h => by rw [decide_eq_true hx] at h; exact h

set_option maxHeartbeats 400000 in
theorem first_ok (h : ChRep w bc bf bm σ) {i : Nat} {r : Row} (hi : σ[i]? = some r) :
    Calls Tryz.prog 86 #[.pointer (some ⟨bc, 0, none⟩), .int .i64 i] w (Ret1 (.tuple #[lv (hdl r).1, .bool (hdl r).2]) w) := by
  have hil : i < σ.length := (List.getElem?_eq_some_iff.1 hi).1
  have c0 := h.c0
  have lc := h.lt_bc
  have lf := h.lt_bf
  have hle := h.le
  obtain ⟨f2, f3, f4, f5⟩ := h.front i hil
  have f1 := (h.ring i r hi).first
  have f0 := (h.ring i r hi).last.1
  obtain ⟨⟨p0, o0⟩, hv0⟩ : ∃ v, v = lst (bf, i * 6) (nodes r) := ⟨_, rfl⟩
  obtain ⟨⟨p1, o1⟩, hv1⟩ : ∃ v, v = hd (nodes r) (bf, i * 6) := ⟨_, rfl⟩
  rw [← hv0] at f0
  rw [← hv1] at f1
  have Hv1 := Lib.hid hv1
  clear hv1 hv0
  unfold ptr at f0 f1
  simp only [cl, Nat.add_zero] at f0 f1 f2 f3 f4 f5
  go_enter Tryz.func86, Tryz.ntmps86
  go_wp2_with (go_at_call 102; refine (there_yes _ (some ⟨bf, 0, none⟩) σ.length σ.length _ _ (by go_simp) (by omega)).mono ?_; rintro e w' ⟨rfl, rfl⟩)
  refine (behind_ok (r1 := []) (r2 := r) (((h.alloc _).alloc _)) hi ?_ ?_).mono ?_
  · rw [← Hv1.out]; simp [ptr]
  · simp
  rintro e w1 ⟨rfl, hb⟩
  obtain ⟨hc, hf, hz⟩ := hb.bcell
  generalize hdl r = y at *
  obtain ⟨l, t⟩ := y
  have k0 : w1.cell? ⟨w.heap.size, 0, none⟩ = some (.int .i64 0) := by rw [hc _ _ (by simp; omega)]; simp
  have k1 : w1.cell? ⟨w.heap.size, 1, none⟩ = some (.int .u32 0) := by rw [hc _ _ (by simp; omega)]; simp
  have k2 : w1.cell? ⟨w.heap.size, 2, none⟩ = some (.bool false) := by rw [hc _ _ (by simp; omega)]; simp
  unfold lv
  go_wp2_with fail
  refine bodyPost_ret (v := .tuple #[lv l, .bool t]) (by simp only [results, Tryz.results86, lv]; go_simp) rfl ⟨rfl, ?_⟩
  (repeat (first | exact Fp.refl _ _ | refine Fp.drew ?_ | refine Fp.drewN ?_ _ | refine Fp.alloc ?_ _ | (refine Fp.setCell ?_ (Or.inl (by simp)) _) | (refine Fp.setCell ?_ (Or.inl (by simp; omega)) _) | refine Fp.trans ?_ (by assumption) (fun _ _ h => h)))

theorem ChRep.look_yes (h : ChRep w bc bf bm σ) {x : Nat × Lk} (hx : x ∈ σ.flatten) :
    (Instr.lookup 162 (.map (some bm)) (.agg #[.int .i64 x.2.1, .int .u32 x.2.2.1, .bool x.2.2.2]) false).run Tryz.prog w = .ok (.pointer (some ⟨x.1, 0, none⟩)) w := by
  obtain ⟨m, hm, hp⟩ := h.map
  exact look_hit0 lawLk Tryz.underlying162 hm (h.keys hp) (h.keysNd hp) (h.inMap hp hx)

set_option maxHeartbeats 400000 in
theorem next_ok (h : ChRep w bc bf bm σ) {i : Nat} {r1 r2 : Row} {x : Nat × Lk} (hi : σ[i]? = some (r1 ++ x :: r2)) :
    Calls Tryz.prog 87 #[.pointer (some ⟨bc, 0, none⟩), lv x.2] w (Ret1 (.tuple #[lv (hdl r2).1, .bool (hdl r2).2, .int .i64 0]) w) := by
  have c0 := h.c0
  have c1 := h.c1
  have lc := h.lt_bc
  have pos := h.pos
  have hx : x ∈ σ.flatten := mem_flatten_of hi (by simp)
  have lx := h.lt_node hx
  have hring := h.ring i _ hi
  rw [nodes_append, nodes_cons, Ring.split] at hring
  have g1 := hring.2.first
  have g5 := (h.node i _ hi x (by simp)).2.2.2
  have hlk := fun O O' => ((h.alloc O).alloc O').drew.look_yes hx
  have d1 : ((σ.length : Int) == 0) = false := by rw [beq_eq_false_iff_ne]; omega
  unfold lv
  go_enter Tryz.func87, Tryz.ntmps87
  go_wp2_with (go_at_call 63; refine (size_ptr _ (some ⟨bf, 0, none⟩) σ.length σ.length _ (by go_simp)).mono ?_; rintro e w' ⟨rfl, rfl⟩)
  (refine wp_still_lit (by kernel_rfl) (by kernel_rfl) ?_; (repeat still_step); refine wpStill_nil ?_)
  go_wp2_with fail
  refine (behind_ok (r1 := r1 ++ [x]) (r2 := r2) (((h.alloc _).alloc _).drew) (by simpa using hi) ?_ ?_).mono ?_
  · simp [cl] at g1; go_simp
  · simp [cl] at g5; go_simp
  rintro e w1 ⟨rfl, hb⟩
  obtain ⟨hc, hf, hz⟩ := hb.bcell
  generalize hdl r2 = y at *
  obtain ⟨l, t⟩ := y
  have hz' : w.heap.size + 1 < w1.heap.size := by simp at hz; omega
  have k0 : w1.cell? ⟨w.heap.size + 1, 0, none⟩ = some (.int .i64 0) := by rw [hc _ _ (by simp)]; simp
  have k1 : w1.cell? ⟨w.heap.size + 1, 1, none⟩ = some (.int .u32 0) := by rw [hc _ _ (by simp)]; simp
  have k2 : w1.cell? ⟨w.heap.size + 1, 2, none⟩ = some (.bool false) := by rw [hc _ _ (by simp)]; simp
  unfold lv
  go_wp2_with fail
  refine bodyPost_ret (v := .tuple #[lv l, .bool t, .int .i64 0]) (by simp only [results, Tryz.results87, lv]; go_simp) rfl ⟨rfl, ?_⟩
  (repeat (first | exact Fp.refl _ _ | refine Fp.drew ?_ | refine Fp.drewN ?_ _ | refine Fp.alloc ?_ _ | (refine Fp.setCell ?_ (Or.inl (by simp)) _) | (refine Fp.setCell ?_ (Or.inl (by simp; omega)) _) | refine Fp.trans ?_ (by assumption) (fun _ _ h => h)))
end
end Go.Proofs.YtcimbbllefkdlaaGreatDoor
