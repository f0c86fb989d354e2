/- What cutting does to chains in memory: plain laws. -/
import Derived.Test.YtmhjdjndckeepaaChU
namespace Go.Proofs.Ytmhjdjndckeepaa
set_option linter.unusedVariables false
set_option linter.unusedSimpArgs false
open Go.RowKit
open Go.ChangeMaps (setBlock)

theorem flatten_cut_perm {α : Type} : ∀ (σ : List (List α)) (i : Nat) (r1 r2 : List α) (x : α), σ[i]? = some (r1 ++ x :: r2) → σ.flatten.Perm (x :: (σ.set i (r1 ++ r2)).flatten)
  | [], _, _, _, _, h => by simp at h
  | s :: σ, 0, r1, r2, x, h => by
    simp at h; subst h
    simp only [List.flatten_cons, List.set_cons_zero, List.append_assoc, List.cons_append]
    exact List.perm_middle
  | s :: σ, i + 1, r1, r2, x, h => by
    simp at h
    have := flatten_cut_perm σ i r1 r2 x h
    simp only [List.set_cons_succ, List.flatten_cons]
    exact (this.append_left s).trans List.perm_middle

theorem nodes_append (r s : Row) : nodes (r ++ s) = nodes r ++ nodes s := by simp [nodes]
theorem nodes_cons (x : Nat × Lk) (s : Row) : nodes (x :: s) = (x.1, 0) :: nodes s := rfl

theorem not_dropLast {α : Type} {l : List α} (hn : l.Nodup) {b : α} (hb : b ∈ l.dropLast) : ∀ h : l ≠ [], b ≠ l.getLast h := by
  intro h e
  have hl := List.dropLast_concat_getLast h
  rw [← hl, List.nodup_append] at hn
  exact hn.2.2 b hb _ (by simp) e

theorem lst_getLast (x : Ad) : ∀ (ys : List Ad) (h : x :: ys ≠ []), (x :: ys).getLast h = lst x ys
  | [], _ => rfl
  | y :: ys, _ => by rw [List.getLast_cons (by simp)]; exact lst_getLast y ys (by simp)

section
variable {w : World} {bc bf bm : Nat} {σ : List Row}

theorem ChRep.cut {w' : World} (h : ChRep w bc bf bm σ) {i : Nat} {r1 r2 : Row} {a : Nat} {l : Lk} (hi : σ[i]? = some (r1 ++ (a, l) :: r2)) {p q : Ad}
    (hp : p = lst (bf, i * 6) (nodes r1)) (hq : q = hd (nodes r2) (bf, i * 6))
    (hc : ∀ b o, b < w.heap.size → b ≠ bm → w'.cell? ⟨b, o, none⟩ = if b = q.1 ∧ o = q.2 then some (ptr p) else if b = p.1 ∧ o = p.2 + 1 then some (ptr q) else w.cell? ⟨b, o, none⟩)
    (hz : ∀ b o, b < w.heap.size → b ≠ bm → w'.frozen? ⟨b, o, none⟩ = w.frozen? ⟨b, o, none⟩)
    (hm : ∀ m, MapIs w bm m → m.Perm (pairs σ) → ∃ m', MapIs w' bm m' ∧ ((lv l, ptr (a, 0)) :: m').Perm m) : ChRep w' bc bf bm (σ.set i (r1 ++ r2)) := by
  have hil : i < σ.length := (List.getElem?_eq_some_iff.1 hi).1
  have hperm := flatten_cut_perm σ i r1 r2 (a, l) hi
  have hbf := h.lt_bf
  have hsub : ∀ x, x ∈ (σ.set i (r1 ++ r2)).flatten → x ∈ σ.flatten := fun x hx => hperm.mem_iff.2 (List.mem_cons_of_mem _ hx)
  have m1 : ∀ x, x ∈ r1 → x ∈ r1 ++ (a, l) :: r2 := fun x hx => List.mem_append_left _ hx
  have m2 : ∀ x, x ∈ r2 → x ∈ r1 ++ (a, l) :: r2 := fun x hx => List.mem_append_right _ (List.mem_cons_of_mem _ hx)
  have hpq : (p = (bf, i * 6) ∨ ∃ x, x ∈ r1 ∧ p = (x.1, 0)) ∧ (q = (bf, i * 6) ∨ ∃ x, x ∈ r2 ∧ q = (x.1, 0)) := by
    constructor
    · have := lst_mem (bf, i * 6) (nodes r1)
      rw [← hp] at this
      rcases List.mem_cons.1 this with e | e
      · exact Or.inl e
      · exact Or.inr (mem_nodes e)
    · have := hd_mem (nodes r2) (bf, i * 6)
      rw [← hq] at this
      rcases List.mem_append.1 this with e | e
      · exact Or.inr (mem_nodes e)
      · exact Or.inl (List.mem_singleton.1 e)
  -- the cells that stay
  have front_same : ∀ j k, k < 6 → ¬ (j = i ∧ k = 1 ∧ p = (bf, i * 6)) → ¬ (j = i ∧ k = 0 ∧ q = (bf, i * 6)) → cl w' (bf, j * 6) k = cl w (bf, j * 6) k := by
    intro j k hk h1 h2
    unfold cl
    rw [hc _ _ hbf h.bf_bm, if_neg, if_neg]
    · rintro ⟨e1, e2⟩
      rcases hpq.1 with e | ⟨x, hx, e⟩
      · rw [e] at e2; exact h1 ⟨by simp only at e2; omega, by simp only at e2; omega, e⟩
      · rw [e] at e1; exact h.ne_bf (mem_flatten_of hi (m1 x hx)) e1.symm
    · rintro ⟨e1, e2⟩
      rcases hpq.2 with e | ⟨x, hx, e⟩
      · rw [e] at e2; exact h2 ⟨by simp only at e2; omega, by simp only at e2; omega, e⟩
      · rw [e] at e1; exact h.ne_bf (mem_flatten_of hi (m2 x hx)) e1.symm
  have node_same : ∀ x, x ∈ σ.flatten → ∀ k, ¬ (k = 1 ∧ p = (x.1, 0)) → ¬ (k = 0 ∧ q = (x.1, 0)) → cl w' (x.1, 0) k = cl w (x.1, 0) k := by
    intro x hx k h1 h2
    unfold cl
    rw [hc _ _ (h.lt_node hx) (h.ne_bm hx), if_neg, if_neg]
    · rintro ⟨e1, e2⟩
      rcases hpq.1 with e | ⟨y, _, e⟩
      · rw [e] at e1; exact h.ne_bf hx e1
      · rw [e] at e1 e2; exact h1 ⟨by simp only at e2; omega, by rw [e]; simp only at e1; rw [e1]⟩
    · rintro ⟨e1, e2⟩
      rcases hpq.2 with e | ⟨y, _, e⟩
      · rw [e] at e1; exact h.ne_bf hx e1
      · rw [e] at e1 e2; exact h2 ⟨by simp only at e2; omega, by rw [e]; simp only at e1; rw [e1]⟩
  have len : (σ.set i (r1 ++ r2)).length = σ.length := by simp
  have c_same : ∀ o, w'.cell? ⟨bc, o, none⟩ = w.cell? ⟨bc, o, none⟩ := by
    intro o
    rw [hc _ _ h.lt_bc h.bc_bm, if_neg, if_neg]
    · rintro ⟨e1, _⟩
      rcases hpq.1 with e | ⟨x, hx, e⟩
      · rw [e] at e1; exact h.bc_bf e1
      · rw [e] at e1; exact h.ne_bc (mem_flatten_of hi (m1 x hx)) e1.symm
    · rintro ⟨e1, _⟩
      rcases hpq.2 with e | ⟨x, hx, e⟩
      · rw [e] at e1; exact h.bc_bf e1
      · rw [e] at e1; exact h.ne_bc (mem_flatten_of hi (m2 x hx)) e1.symm
  have nrow := nodup_row Prod.fst h.nd1 hi
  simp only [List.map_append, List.map_cons, List.nodup_append, List.nodup_cons] at nrow
  obtain ⟨nr1, ⟨nr3, nr2⟩, nr12⟩ := nrow
  have a12 : ∀ x, x ∈ r1 → ∀ y, y ∈ r2 → x.1 ≠ y.1 := fun x hx y hy => nr12 _ (List.mem_map.2 ⟨x, hx, rfl⟩) _ (List.mem_cons_of_mem _ (List.mem_map.2 ⟨y, hy, rfl⟩))
  have lt_of : ∀ z : Ad, (z = (bf, i * 6) ∨ ∃ x, (x ∈ r1 ∨ x ∈ r2) ∧ z = (x.1, 0)) → z.1 < w.heap.size ∧ z.1 ≠ bm := by
    rintro z (e | ⟨x, hx, e⟩)
    · rw [e]; exact ⟨hbf, h.bf_bm⟩
    · have hx := mem_flatten_of hi (hx.elim (m1 x) (m2 x))
      rw [e]; exact ⟨h.lt_node hx, h.ne_bm hx⟩
  have ltp := lt_of p (hpq.1.imp id (fun ⟨x, hx, e⟩ => ⟨x, Or.inl hx, e⟩))
  have ltq := lt_of q (hpq.2.imp id (fun ⟨x, hx, e⟩ => ⟨x, Or.inr hx, e⟩))
  have wq : cl w' q 0 = some (ptr p) := by unfold cl; rw [hc _ _ ltq.1 ltq.2, if_pos ⟨rfl, rfl⟩]
  have wp : cl w' p 1 = some (ptr q) := by
    unfold cl; rw [hc _ _ ltp.1 ltp.2, if_neg, if_pos ⟨rfl, rfl⟩]
    rintro ⟨e1, e2⟩
    rcases hpq.1 with e | ⟨x, _, e⟩ <;> rcases hpq.2 with f | ⟨y, _, f⟩ <;> rw [e, f] at e2 <;> simp only at e2 <;> try omega
  refine ⟨(c_same 0).trans (by rw [len]; exact h.c0), (c_same 1).trans h.c1, by rw [len]; exact h.pos, by rw [len]; exact h.le, ?_, ?_, ?_, ?_, ?_, ?_, ?_, ?_⟩
  · intro b o hb
    rcases hb with rfl | hb
    · rw [hz _ _ hbf h.bf_bm]; exact h.fz _ _ (Or.inl rfl)
    · obtain ⟨x, hx, rfl⟩ := List.mem_map.1 hb
      have hx := hsub x hx
      rw [hz _ _ (h.lt_node hx) (h.ne_bm hx)]; exact h.fz _ _ (Or.inr (List.mem_map.2 ⟨x, hx, rfl⟩))
  · intro j hj
    rw [len] at hj
    rw [front_same j 2 (by omega) (by omega) (by omega), front_same j 3 (by omega) (by omega) (by omega), front_same j 4 (by omega) (by omega) (by omega), front_same j 5 (by omega) (by omega) (by omega)]
    exact h.front j hj
  · intro j s hs x hx
    have hf := hsub x (mem_flatten_of hs hx)
    rw [node_same x hf 2 (by omega) (by omega), node_same x hf 3 (by omega) (by omega), node_same x hf 4 (by omega) (by omega), node_same x hf 5 (by omega) (by omega)]
    by_cases hj : i = j
    · subst hj
      rw [List.getElem?_set_self hil] at hs
      obtain rfl := Option.some.inj hs
      exact h.node i _ hi x ((List.mem_append.1 hx).elim (m1 x) (m2 x))
    · rw [List.getElem?_set_ne hj] at hs
      exact h.node j s hs x hx
  · intro j s hs
    by_cases hj : i = j
    · subst hj
      rw [List.getElem?_set_self hil] at hs
      obtain rfl := Option.some.inj hs
      have hr := h.ring i _ hi
      rw [nodes_append, nodes_cons, Ring.split] at hr
      rw [nodes_append]
      refine Ring.join hr.1 hr.2 (by rw [← hp, ← hq]; exact wp) (by rw [← hp, ← hq]; exact wq) ?_ ?_
      · rintro b (hb | hb)
        · have hbp : b ≠ p := by
            rw [hp, ← lst_getLast _ _ (by simp)]
            refine not_dropLast ?_ hb _
            refine List.nodup_cons.2 ⟨fun e => ?_, ?_⟩
            · obtain ⟨x, hx, e⟩ := mem_nodes e
              exact h.ne_bf (mem_flatten_of hi (m1 x hx)) (by injection e with e _; exact e.symm)
            · have : nodes r1 = (r1.map Prod.fst).map (fun b => (b, 0)) := by simp [nodes]
              rw [this]
              unfold List.Nodup; rw [List.pairwise_map]
              exact nr1.imp (fun h e => h (by injection e))
          have hb' := List.dropLast_subset _ hb
          rcases List.mem_cons.1 hb' with rfl | hb'
          · exact front_same i 1 (by omega) (fun e => hbp e.2.2.symm) (by omega)
          · obtain ⟨x, hx, rfl⟩ := mem_nodes hb'
            exact node_same x (mem_flatten_of hi (m1 x hx)) 1 (fun e => hbp e.2.symm) (by omega)
        · obtain ⟨x, hx, rfl⟩ := mem_nodes hb
          refine node_same x (mem_flatten_of hi (m2 x hx)) 1 (fun e => ?_) (by omega)
          rcases hpq.1 with f | ⟨y, hy, f⟩
          · rw [f] at e; exact h.ne_bf (mem_flatten_of hi (m2 x hx)) (by have := e.2; injection this with this _; exact this.symm)
          · rw [f] at e; exact a12 y hy x hx (by have := e.2; injection this)
      · rintro b (hb | hb)
        · obtain ⟨x, hx, rfl⟩ := mem_nodes hb
          refine node_same x (mem_flatten_of hi (m1 x hx)) 0 (by omega) (fun e => ?_)
          rcases hpq.2 with f | ⟨y, hy, f⟩
          · rw [f] at e; exact h.ne_bf (mem_flatten_of hi (m1 x hx)) (by have := e.2; injection this with this _; exact this.symm)
          · rw [f] at e; exact a12 x hx y hy (by have := e.2; injection this with this _; exact this.symm)
        · cases r2 with
          | nil => simp [nodes] at hb
          | cons y ys =>
            have hqy : q = (y.1, 0) := hq
            simp only [nodes_cons, List.cons_append, List.tail_cons, List.mem_append, List.mem_singleton] at hb
            rcases hb with hb | rfl
            · obtain ⟨x, hx, rfl⟩ := mem_nodes hb
              refine node_same x (mem_flatten_of hi (m2 x (List.mem_cons_of_mem _ hx))) 0 (by omega) (fun e => ?_)
              rw [hqy] at e
              simp only [List.map_cons, List.nodup_cons] at nr2
              refine nr2.1 ?_
              have := e.2; injection this with this _
              rw [this]; exact List.mem_map.2 ⟨x, hx, rfl⟩
            · refine front_same i 0 (by omega) (by omega) (fun e => ?_)
              rw [hqy] at e
              exact h.ne_bf (mem_flatten_of hi (m2 y (List.mem_cons_self ..))) (by have := e.2.2; injection this)
    · rw [List.getElem?_set_ne hj] at hs
      have far : ∀ x, x ∈ s → ∀ z : Ad, (z = (bf, i * 6) ∨ ∃ y, (y ∈ r1 ∨ y ∈ r2) ∧ z = (y.1, 0)) → z ≠ (x.1, 0) := by
        rintro x hx z (e | ⟨y, hy, e⟩) f
        · rw [e] at f; exact h.ne_bf (mem_flatten_of hs hx) (by injection f with f _; exact f.symm)
        · rw [e] at f; exact ne_of_nodup Prod.fst h.nd1 hi hs hj (hy.elim (m1 y) (m2 y)) hx (by injection f)
      have farp : ∀ x, x ∈ s → p ≠ (x.1, 0) := fun x hx => far x hx p (hpq.1.imp id (fun ⟨y, hy, e⟩ => ⟨y, Or.inl hy, e⟩))
      have farq : ∀ x, x ∈ s → q ≠ (x.1, 0) := fun x hx => far x hx q (hpq.2.imp id (fun ⟨y, hy, e⟩ => ⟨y, Or.inr hy, e⟩))
      refine (h.ring j s hs).frame ?_ ?_
      · intro b hb
        rcases List.mem_cons.1 hb with rfl | hb
        · exact front_same j 1 (by omega) (by omega) (by omega)
        · obtain ⟨x, hx, rfl⟩ := mem_nodes hb
          exact node_same x (mem_flatten_of hs hx) 1 (fun e => farp x hx e.2) (by omega)
      · intro b hb
        rcases List.mem_append.1 hb with hb | hb
        · obtain ⟨x, hx, rfl⟩ := mem_nodes hb
          exact node_same x (mem_flatten_of hs hx) 0 (by omega) (fun e => farq x hx e.2)
        · simp only [List.mem_singleton] at hb
          subst hb
          exact front_same j 0 (by omega) (by omega) (by omega)
  · obtain ⟨m, hm1, hpm⟩ := h.map
    obtain ⟨m', hm', hp'⟩ := hm m hm1 hpm
    refine ⟨m', hm', ?_⟩
    have e := hperm.map (fun x : Nat × Lk => (lv x.2, ptr (x.1, 0)))
    exact (List.perm_cons _).1 ((hp'.trans hpm).trans e)
  · have := (hperm.map (Prod.snd : Nat × Lk → Lk)).nodup_iff.1 h.nd
    simp only [List.map_cons, List.nodup_cons] at this
    exact this.2
  · exact fun x hx => h.ok x (hsub x hx)
  · refine List.Nodup.sublist ?_ h.apart
    refine ((List.Sublist.cons_cons _ (List.Sublist.cons_cons _ (List.Sublist.cons_cons _ ?_))))
    refine List.Sublist.map _ ?_
    have : ∀ (τ : List Row) (i : Nat) (r s : Row), τ[i]? = some r → s.Sublist r → (τ.set i s).flatten.Sublist τ.flatten := by
      intro τ
      induction τ with
      | nil => intro i r s h; simp at h
      | cons t τ ih =>
        intro i r s h hs
        cases i with
        | zero => simp at h; subst h; simp only [List.set_cons_zero, List.flatten_cons]; exact hs.append (List.Sublist.refl _)
        | succ i => simp at h; simp only [List.set_cons_succ, List.flatten_cons]; exact (List.Sublist.refl t).append (ih i r s h hs)
    exact this σ i _ _ hi ((List.Sublist.refl r1).append (List.sublist_cons_self _ _))

end
end Go.Proofs.Ytmhjdjndckeepaa
