/- Texts of this proof, merged: ChV ChP ChQ ChS ChN ChL Awa Awb Awc. -/
import Derived.Test.YthmokdfigjffjaaGreatDoorMas
import Derived.Laws.Tables
import Derived.Test.YthmokdfigjffjaaGreatDoorMar
import Derived.Maps.Keyed
namespace Go.Proofs.YthmokdfigjffjaaGreatDoor
set_option linter.unusedVariables false
set_option linter.unusedSimpArgs false
open Go.RowKit
open Go.ChangeMaps (setBlock)

theorem flatten_cut_perm {α : Type} : ∀ (σ : List (List α)) (i : Nat) (r1 r2 : List α) (x : α), σ[i]? = some (r1 ++ x :: r2) → σ.flatten.Perm (x :: (σ.set i (r1 ++ r2)).flatten)
  | [], _, _, _, _, h => by simp at h
  | s :: σ, 0, r1, r2, x, h => by
    simp at h; subst h
    simp only [List.flatten_cons, List.set_cons_zero, List.append_assoc, List.cons_append]
    exact List.perm_middle
  | s :: σ, i + 1, r1, r2, x, h => by
    simp at h
    have := flatten_cut_perm σ i r1 r2 x h
    simp only [List.set_cons_succ, List.flatten_cons]
    exact (this.append_left s).trans List.perm_middle

theorem nodes_append (r s : Row) : nodes (r ++ s) = nodes r ++ nodes s := by simp [nodes]
theorem nodes_cons (x : Nat × Lk) (s : Row) : nodes (x :: s) = (x.1, 0) :: nodes s := rfl

theorem not_dropLast {α : Type} {l : List α} (hn : l.Nodup) {b : α} (hb : b ∈ l.dropLast) : ∀ h : l ≠ [], b ≠ l.getLast h := by
  intro h e
  have hl := List.dropLast_concat_getLast h
  rw [← hl, List.nodup_append] at hn
  exact hn.2.2 b hb _ (by simp) e

theorem lst_getLast (x : Ad) : ∀ (ys : List Ad) (h : x :: ys ≠ []), (x :: ys).getLast h = lst x ys
  | [], _ => rfl
  | y :: ys, _ => by rw [List.getLast_cons (by simp)]; exact lst_getLast y ys (by simp)

section
variable {w : World} {bc bf bm : Nat} {σ : List Row}

theorem ChRep.cut {w' : World} (h : ChRep w bc bf bm σ) {i : Nat} {r1 r2 : Row} {a : Nat} {l : Lk} (hi : σ[i]? = some (r1 ++ (a, l) :: r2)) {p q : Ad}
    (hp : p = lst (bf, i * 6) (nodes r1)) (hq : q = hd (nodes r2) (bf, i * 6))
    (hc : ∀ b o, b < w.heap.size → b ≠ bm → w'.cell? ⟨b, o, none⟩ = if b = q.1 ∧ o = q.2 then some (ptr p) else if b = p.1 ∧ o = p.2 + 1 then some (ptr q) else w.cell? ⟨b, o, none⟩)
    (hz : ∀ b o, b < w.heap.size → b ≠ bm → w'.frozen? ⟨b, o, none⟩ = w.frozen? ⟨b, o, none⟩)
    (hm : ∀ m, MapIs w bm m → m.Perm (pairs σ) → ∃ m', MapIs w' bm m' ∧ ((lv l, ptr (a, 0)) :: m').Perm m) : ChRep w' bc bf bm (σ.set i (r1 ++ r2)) := by
  have hil : i < σ.length := (List.getElem?_eq_some_iff.1 hi).1
  have hperm := flatten_cut_perm σ i r1 r2 (a, l) hi
  have hbf := h.lt_bf
  have hsub : ∀ x, x ∈ (σ.set i (r1 ++ r2)).flatten → x ∈ σ.flatten := fun x hx => hperm.mem_iff.2 (List.mem_cons_of_mem _ hx)
  have m1 : ∀ x, x ∈ r1 → x ∈ r1 ++ (a, l) :: r2 := fun x hx => List.mem_append_left _ hx
  have m2 : ∀ x, x ∈ r2 → x ∈ r1 ++ (a, l) :: r2 := fun x hx => List.mem_append_right _ (List.mem_cons_of_mem _ hx)
  have hpq : (p = (bf, i * 6) ∨ ∃ x, x ∈ r1 ∧ p = (x.1, 0)) ∧ (q = (bf, i * 6) ∨ ∃ x, x ∈ r2 ∧ q = (x.1, 0)) := by
    constructor
    · have := lst_mem (bf, i * 6) (nodes r1)
      rw [← hp] at this
      rcases List.mem_cons.1 this with e | e
      · exact Or.inl e
      · exact Or.inr (mem_nodes e)
    · have := hd_mem (nodes r2) (bf, i * 6)
      rw [← hq] at this
      rcases List.mem_append.1 this with e | e
      · exact Or.inr (mem_nodes e)
      · exact Or.inl (List.mem_singleton.1 e)
  -- the cells that stay
  have front_same : ∀ j k, k < 6 → ¬ (j = i ∧ k = 1 ∧ p = (bf, i * 6)) → ¬ (j = i ∧ k = 0 ∧ q = (bf, i * 6)) → cl w' (bf, j * 6) k = cl w (bf, j * 6) k := by
    intro j k hk h1 h2
    unfold cl
    rw [hc _ _ hbf h.bf_bm, if_neg, if_neg]
    · rintro ⟨e1, e2⟩
      rcases hpq.1 with e | ⟨x, hx, e⟩
      · rw [e] at e2; exact h1 ⟨by simp only at e2; omega, by simp only at e2; omega, e⟩
      · rw [e] at e1; exact h.ne_bf (mem_flatten_of hi (m1 x hx)) e1.symm
    · rintro ⟨e1, e2⟩
      rcases hpq.2 with e | ⟨x, hx, e⟩
      · rw [e] at e2; exact h2 ⟨by simp only at e2; omega, by simp only at e2; omega, e⟩
      · rw [e] at e1; exact h.ne_bf (mem_flatten_of hi (m2 x hx)) e1.symm
  have node_same : ∀ x, x ∈ σ.flatten → ∀ k, ¬ (k = 1 ∧ p = (x.1, 0)) → ¬ (k = 0 ∧ q = (x.1, 0)) → cl w' (x.1, 0) k = cl w (x.1, 0) k := by
    intro x hx k h1 h2
    unfold cl
    rw [hc _ _ (h.lt_node hx) (h.ne_bm hx), if_neg, if_neg]
    · rintro ⟨e1, e2⟩
      rcases hpq.1 with e | ⟨y, _, e⟩
      · rw [e] at e1; exact h.ne_bf hx e1
      · rw [e] at e1 e2; exact h1 ⟨by simp only at e2; omega, by rw [e]; simp only at e1; rw [e1]⟩
    · rintro ⟨e1, e2⟩
      rcases hpq.2 with e | ⟨y, _, e⟩
      · rw [e] at e1; exact h.ne_bf hx e1
      · rw [e] at e1 e2; exact h2 ⟨by simp only at e2; omega, by rw [e]; simp only at e1; rw [e1]⟩
  have len : (σ.set i (r1 ++ r2)).length = σ.length := by simp
  have c_same : ∀ o, w'.cell? ⟨bc, o, none⟩ = w.cell? ⟨bc, o, none⟩ := by
    intro o
    rw [hc _ _ h.lt_bc h.bc_bm, if_neg, if_neg]
    · rintro ⟨e1, _⟩
      rcases hpq.1 with e | ⟨x, hx, e⟩
      · rw [e] at e1; exact h.bc_bf e1
      · rw [e] at e1; exact h.ne_bc (mem_flatten_of hi (m1 x hx)) e1.symm
    · rintro ⟨e1, _⟩
      rcases hpq.2 with e | ⟨x, hx, e⟩
      · rw [e] at e1; exact h.bc_bf e1
      · rw [e] at e1; exact h.ne_bc (mem_flatten_of hi (m2 x hx)) e1.symm
  have nrow := nodup_row Prod.fst h.nd1 hi
  simp only [List.map_append, List.map_cons, List.nodup_append, List.nodup_cons] at nrow
  obtain ⟨nr1, ⟨nr3, nr2⟩, nr12⟩ := nrow
  have a12 : ∀ x, x ∈ r1 → ∀ y, y ∈ r2 → x.1 ≠ y.1 := fun x hx y hy => nr12 _ (List.mem_map.2 ⟨x, hx, rfl⟩) _ (List.mem_cons_of_mem _ (List.mem_map.2 ⟨y, hy, rfl⟩))
  have lt_of : ∀ z : Ad, (z = (bf, i * 6) ∨ ∃ x, (x ∈ r1 ∨ x ∈ r2) ∧ z = (x.1, 0)) → z.1 < w.heap.size ∧ z.1 ≠ bm := by
    rintro z (e | ⟨x, hx, e⟩)
    · rw [e]; exact ⟨hbf, h.bf_bm⟩
    · have hx := mem_flatten_of hi (hx.elim (m1 x) (m2 x))
      rw [e]; exact ⟨h.lt_node hx, h.ne_bm hx⟩
  have ltp := lt_of p (hpq.1.imp id (fun ⟨x, hx, e⟩ => ⟨x, Or.inl hx, e⟩))
  have ltq := lt_of q (hpq.2.imp id (fun ⟨x, hx, e⟩ => ⟨x, Or.inr hx, e⟩))
  have wq : cl w' q 0 = some (ptr p) := by unfold cl; rw [hc _ _ ltq.1 ltq.2, if_pos ⟨rfl, rfl⟩]
  have wp : cl w' p 1 = some (ptr q) := by
    unfold cl; rw [hc _ _ ltp.1 ltp.2, if_neg, if_pos ⟨rfl, rfl⟩]
    rintro ⟨e1, e2⟩
    rcases hpq.1 with e | ⟨x, _, e⟩ <;> rcases hpq.2 with f | ⟨y, _, f⟩ <;> rw [e, f] at e2 <;> simp only at e2 <;> try omega
  refine ⟨(c_same 0).trans (by rw [len]; exact h.c0), (c_same 1).trans h.c1, by rw [len]; exact h.pos, by rw [len]; exact h.le, ?_, ?_, ?_, ?_, ?_, ?_, ?_, ?_⟩
  · intro b o hb
    rcases hb with rfl | hb
    · rw [hz _ _ hbf h.bf_bm]; exact h.fz _ _ (Or.inl rfl)
    · obtain ⟨x, hx, rfl⟩ := List.mem_map.1 hb
      have hx := hsub x hx
      rw [hz _ _ (h.lt_node hx) (h.ne_bm hx)]; exact h.fz _ _ (Or.inr (List.mem_map.2 ⟨x, hx, rfl⟩))
  · intro j hj
    rw [len] at hj
    rw [front_same j 2 (by omega) (by omega) (by omega), front_same j 3 (by omega) (by omega) (by omega), front_same j 4 (by omega) (by omega) (by omega), front_same j 5 (by omega) (by omega) (by omega)]
    exact h.front j hj
  · intro j s hs x hx
    have hf := hsub x (mem_flatten_of hs hx)
    rw [node_same x hf 2 (by omega) (by omega), node_same x hf 3 (by omega) (by omega), node_same x hf 4 (by omega) (by omega), node_same x hf 5 (by omega) (by omega)]
    by_cases hj : i = j
    · subst hj
      rw [List.getElem?_set_self hil] at hs
      obtain rfl := Option.some.inj hs
      exact h.node i _ hi x ((List.mem_append.1 hx).elim (m1 x) (m2 x))
    · rw [List.getElem?_set_ne hj] at hs
      exact h.node j s hs x hx
  · intro j s hs
    by_cases hj : i = j
    · subst hj
      rw [List.getElem?_set_self hil] at hs
      obtain rfl := Option.some.inj hs
      have hr := h.ring i _ hi
      rw [nodes_append, nodes_cons, Ring.split] at hr
      rw [nodes_append]
      refine Ring.join hr.1 hr.2 (by rw [← hp, ← hq]; exact wp) (by rw [← hp, ← hq]; exact wq) ?_ ?_
      · rintro b (hb | hb)
        · have hbp : b ≠ p := by
            rw [hp, ← lst_getLast _ _ (by simp)]
            refine not_dropLast ?_ hb _
            refine List.nodup_cons.2 ⟨fun e => ?_, ?_⟩
            · obtain ⟨x, hx, e⟩ := mem_nodes e
              exact h.ne_bf (mem_flatten_of hi (m1 x hx)) (by injection e with e _; exact e.symm)
            · have : nodes r1 = (r1.map Prod.fst).map (fun b => (b, 0)) := by simp [nodes]
              rw [this]
              unfold List.Nodup; rw [List.pairwise_map]
              exact nr1.imp (fun h e => h (by injection e))
          have hb' := List.dropLast_subset _ hb
          rcases List.mem_cons.1 hb' with rfl | hb'
          · exact front_same i 1 (by omega) (fun e => hbp e.2.2.symm) (by omega)
          · obtain ⟨x, hx, rfl⟩ := mem_nodes hb'
            exact node_same x (mem_flatten_of hi (m1 x hx)) 1 (fun e => hbp e.2.symm) (by omega)
        · obtain ⟨x, hx, rfl⟩ := mem_nodes hb
          refine node_same x (mem_flatten_of hi (m2 x hx)) 1 (fun e => ?_) (by omega)
          rcases hpq.1 with f | ⟨y, hy, f⟩
          · rw [f] at e; exact h.ne_bf (mem_flatten_of hi (m2 x hx)) (by have := e.2; injection this with this _; exact this.symm)
          · rw [f] at e; exact a12 y hy x hx (by have := e.2; injection this)
      · rintro b (hb | hb)
        · obtain ⟨x, hx, rfl⟩ := mem_nodes hb
          refine node_same x (mem_flatten_of hi (m1 x hx)) 0 (by omega) (fun e => ?_)
          rcases hpq.2 with f | ⟨y, hy, f⟩
          · rw [f] at e; exact h.ne_bf (mem_flatten_of hi (m1 x hx)) (by have := e.2; injection this with this _; exact this.symm)
          · rw [f] at e; exact a12 x hx y hy (by have := e.2; injection this with this _; exact this.symm)
        · cases r2 with
          | nil => simp [nodes] at hb
          | cons y ys =>
            have hqy : q = (y.1, 0) := hq
            simp only [nodes_cons, List.cons_append, List.tail_cons, List.mem_append, List.mem_singleton] at hb
            rcases hb with hb | rfl
            · obtain ⟨x, hx, rfl⟩ := mem_nodes hb
              refine node_same x (mem_flatten_of hi (m2 x (List.mem_cons_of_mem _ hx))) 0 (by omega) (fun e => ?_)
              rw [hqy] at e
              simp only [List.map_cons, List.nodup_cons] at nr2
              refine nr2.1 ?_
              have := e.2; injection this with this _
              rw [this]; exact List.mem_map.2 ⟨x, hx, rfl⟩
            · refine front_same i 0 (by omega) (by omega) (fun e => ?_)
              rw [hqy] at e
              exact h.ne_bf (mem_flatten_of hi (m2 y (List.mem_cons_self ..))) (by have := e.2.2; injection this)
    · rw [List.getElem?_set_ne hj] at hs
      have far : ∀ x, x ∈ s → ∀ z : Ad, (z = (bf, i * 6) ∨ ∃ y, (y ∈ r1 ∨ y ∈ r2) ∧ z = (y.1, 0)) → z ≠ (x.1, 0) := by
        rintro x hx z (e | ⟨y, hy, e⟩) f
        · rw [e] at f; exact h.ne_bf (mem_flatten_of hs hx) (by injection f with f _; exact f.symm)
        · rw [e] at f; exact ne_of_nodup Prod.fst h.nd1 hi hs hj (hy.elim (m1 y) (m2 y)) hx (by injection f)
      have farp : ∀ x, x ∈ s → p ≠ (x.1, 0) := fun x hx => far x hx p (hpq.1.imp id (fun ⟨y, hy, e⟩ => ⟨y, Or.inl hy, e⟩))
      have farq : ∀ x, x ∈ s → q ≠ (x.1, 0) := fun x hx => far x hx q (hpq.2.imp id (fun ⟨y, hy, e⟩ => ⟨y, Or.inr hy, e⟩))
      refine (h.ring j s hs).frame ?_ ?_
      · intro b hb
        rcases List.mem_cons.1 hb with rfl | hb
        · exact front_same j 1 (by omega) (by omega) (by omega)
        · obtain ⟨x, hx, rfl⟩ := mem_nodes hb
          exact node_same x (mem_flatten_of hs hx) 1 (fun e => farp x hx e.2) (by omega)
      · intro b hb
        rcases List.mem_append.1 hb with hb | hb
        · obtain ⟨x, hx, rfl⟩ := mem_nodes hb
          exact node_same x (mem_flatten_of hs hx) 0 (by omega) (fun e => farq x hx e.2)
        · simp only [List.mem_singleton] at hb
          subst hb
          exact front_same j 0 (by omega) (by omega) (by omega)
  · obtain ⟨m, hm1, hpm⟩ := h.map
    obtain ⟨m', hm', hp'⟩ := hm m hm1 hpm
    refine ⟨m', hm', ?_⟩
    have e := hperm.map (fun x : Nat × Lk => (lv x.2, ptr (x.1, 0)))
    exact (List.perm_cons _).1 ((hp'.trans hpm).trans e)
  · have := (hperm.map (Prod.snd : Nat × Lk → Lk)).nodup_iff.1 h.nd
    simp only [List.map_cons, List.nodup_cons] at this
    exact this.2
  · exact fun x hx => h.ok x (hsub x hx)
  · refine List.Nodup.sublist ?_ h.apart
    refine ((List.Sublist.cons_cons _ (List.Sublist.cons_cons _ (List.Sublist.cons_cons _ ?_))))
    refine List.Sublist.map _ ?_
    have : ∀ (τ : List Row) (i : Nat) (r s : Row), τ[i]? = some r → s.Sublist r → (τ.set i s).flatten.Sublist τ.flatten := by
      intro τ
      induction τ with
      | nil => intro i r s h; simp at h
      | cons t τ ih =>
        intro i r s h hs
        cases i with
        | zero => simp at h; subst h; simp only [List.set_cons_zero, List.flatten_cons]; exact hs.append (List.Sublist.refl _)
        | succ i => simp at h; simp only [List.set_cons_succ, List.flatten_cons]; exact (List.Sublist.refl t).append (ih i r s h hs)
    exact this σ i _ _ hi ((List.Sublist.refl r1).append (List.sublist_cons_self _ _))

end
end Go.Proofs.YthmokdfigjffjaaGreatDoor

namespace Go.Proofs.YthmokdfigjffjaaGreatDoor
set_option linter.unusedVariables false
set_option linter.unusedSimpArgs false
open Go.RowKit
open Go.ChangeMaps (setBlock)
open Go.WideMaps (KeyLaw)

section
variable {w : World} {bc bf bm : Nat} {σ : List Row}

set_option maxRecDepth 100000 in
theorem ChRep.keys (h : ChRep w bc bf bm σ) {m : List (Value × Value)} (hp : m.Perm (pairs σ)) : ∀ p ∈ m, ∃ x, keyOf Tryz.prog 47 p.1 = some x := by
  intro p hp'
  obtain ⟨x, hx, rfl⟩ := List.mem_map.1 (hp.mem_iff.1 hp')
  exact lv_key _ (h.ok x hx)
end
end Go.Proofs.YthmokdfigjffjaaGreatDoor

namespace Go.Proofs.YthmokdfigjffjaaGreatDoor
set_option linter.unusedVariables false
set_option linter.unusedSimpArgs false
set_option maxRecDepth 100000
open Go.RowKit
open Go.ChangeMaps (setBlock)
open Go.WideMaps (KeyLaw)

def lk0 : Lk := (0, 0, false)

/-- The first of a row's links, if there is one. -/
def hdl : Row → Lk × Bool
  | [] => (lk0, false)
  | y :: _ => (y.2, true)

section
variable {w : World} {bc bf bm : Nat} {σ : List Row}

end
end Go.Proofs.YthmokdfigjffjaaGreatDoor

namespace Go.Proofs.YthmokdfigjffjaaGreatDoor
set_option linter.unusedVariables false
set_option linter.unusedSimpArgs false
set_option maxRecDepth 100000
open Go.RowKit
open Go.ChangeMaps (setBlock)
open Go.WideMaps (KeyLaw)

section
variable {w : World} {bc bf bm : Nat} {σ : List Row}

theorem ChRep.alloc (h : ChRep w bc bf bm σ) (O : Obj) : ChRep (w.alloc O) bc bf bm σ := h.stay fun b hb => Below.heap_alloc _ _ _ (by
  simp only [blocks, List.mem_cons] at hb
  rcases hb with rfl | rfl | rfl | hb
  · exact h.lt_bc
  · exact h.lt_bf
  · exact h.lt_bm
  · obtain ⟨x, hx, rfl⟩ := List.mem_map.1 hb; exact h.lt_node hx)
theorem ChRep.drew (h : ChRep w bc bf bm σ) : ChRep w.drew bc bf bm σ := h.stay fun _ _ => rfl
theorem ChRep.lt (h : ChRep w bc bf bm σ) {b : Nat} (hb : b ∈ blocks bc bf bm σ) : b < w.heap.size := by
  simp only [blocks, List.mem_cons] at hb
  rcases hb with rfl | rfl | rfl | hb
  · exact h.lt_bc
  · exact h.lt_bf
  · exact h.lt_bm
  · obtain ⟨x, hx, rfl⟩ := List.mem_map.1 hb; exact h.lt_node hx
theorem ChRep.fp {S : Nat → Prop} {w' : World} (h : ChRep w bc bf bm σ) (hf : Fp S w w') (hs : ∀ b, b ∈ blocks bc bf bm σ → ¬ S b) : ChRep w' bc bf bm σ := h.stay fun b hb => hf.block b (h.lt hb) (hs b hb)

end
end Go.Proofs.YthmokdfigjffjaaGreatDoor

namespace Go.Proofs.YthmokdfigjffjaaGreatDoor
set_option linter.unusedVariables false
set_option linter.unusedSimpArgs false
set_option maxRecDepth 100000
open Go.RowKit
open Go.ChangeMaps (setBlock)
open Go.WideMaps (KeyLaw)

def zr : Array Value := #[.pointer none, .pointer none, .int .i64 0, .int .u32 0, .bool false, .int .i64 0]
def mc (n : Nat) : Array Value := madeCells zr (n * 6)

theorem infoChain : ∃ i, Tryz.prog.info? 201 = some i ∧ i.zero = some (.agg zr) ∧ i.size = 6 ∧ i.bytes ≤ 64 := by
  have h : ((Tryz.prog.info? 201).map fun i => (i.zero, i.size, decide (i.bytes ≤ 64))) = some (some (.agg zr), 6, true) := by kernel_rfl
  rcases hi : Tryz.prog.info? 201 with _ | i
  · simp [hi] at h
  · simp [hi] at h
    exact ⟨i, rfl, h.1, h.2.1, h.2.2⟩

theorem run_mk (n : Nat) (hn : n ≤ 64) (W : World) : (Instr.makeSlice 192 (.int .i64 n) (.int .i64 n)).run Tryz.prog W = .ok (.slice (some ⟨W.heap.size, 0, none⟩) n n) (W.alloc (.cells (mc n) 201)) := by
  obtain ⟨i, hi, hz, hs, hb⟩ := infoChain
  have hb2 : (i.bytes : Int) * (n : Int) ≤ 281474976710656 := by
    have h := Nat.mul_le_mul hb hn
    have h' : ((i.bytes * n : Nat) : Int) ≤ 4096 := by omega
    rw [Int.natCast_mul] at h'; omega
  have := run_makeSlice W 192 201 i (.agg zr) Tryz.underlying192 hi hz .i64 .i64 n n (by omega) (by omega) (by rw [hs]; omega) hb2 (by omega)
  rw [hs] at this
  simpa [mc, Value.cells] using this

theorem mc_get (n j c : Nat) (hj : j < n) (hc : c < 6) : (mc n)[j * 6 + c]? = zr[c]? := by
  have : (j * 6 + c) < n * 6 := by omega
  have e : (j * 6 + c) % zr.size = c := by show (j * 6 + c) % 6 = c; omega
  have hz : c < zr.size := hc
  simp [mc, madeCells, this, e, hz]

/-- The fronts in the middle of their making: the first k are rings of their own. -/
structure Fronts (w : World) (bf n k : Nat) : Prop where
  z : ∀ o, w.frozen? ⟨bf, o, none⟩ = false
  d : ∀ j, j < n → cl w (bf, j * 6) 2 = some (.int .i64 0) ∧ cl w (bf, j * 6) 3 = some (.int .u32 0) ∧ cl w (bf, j * 6) 4 = some (.bool false) ∧ cl w (bf, j * 6) 5 = some (.int .i64 0)
  p : ∀ j, j < n → (∃ u, cl w (bf, j * 6) 0 = some u) ∧ ∃ u, cl w (bf, j * 6) 1 = some u
  r : ∀ j, j < k → cl w (bf, j * 6) 0 = some (ptr (bf, j * 6)) ∧ cl w (bf, j * 6) 1 = some (ptr (bf, j * 6))

theorem Fronts.made (W w : World) (n : Nat) (h : w.heap[W.heap.size]? = some (.cells (mc n) 201 (0, 0))) : Fronts w W.heap.size n 0 := by
  have e : ∀ j c, j < n → c < 6 → cl w (W.heap.size, j * 6) c = zr[c]? := fun j c hj hc => by
    unfold cl World.cell?; simp only [h]; simpa using mc_get n j c hj hc
  refine ⟨fun o => by simp [World.frozen?, h], fun j hj => ?_, fun j hj => ?_, fun j hj => by omega⟩
  · rw [e j 2 hj (by omega), e j 3 hj (by omega), e j 4 hj (by omega), e j 5 hj (by omega)]; exact ⟨rfl, rfl, rfl, rfl⟩
  · rw [e j 0 hj (by omega), e j 1 hj (by omega)]; exact ⟨⟨_, rfl⟩, ⟨_, rfl⟩⟩

theorem Fronts.next {w : World} {bf n k : Nat} (h : Fronts w bf n k) (hk : k < n) :
    Fronts ((w.setCell ⟨bf, k * 6 + 1, none⟩ (ptr (bf, k * 6))).setCell ⟨bf, k * 6, none⟩ (ptr (bf, k * 6))) bf n (k + 1) := by
  obtain ⟨⟨u0, h0⟩, ⟨u1, h1⟩⟩ := h.p k hk
  have same : ∀ j c, ¬ (j = k ∧ c = 0) → ¬ (j = k ∧ c = 1) → c < 6 → cl ((w.setCell ⟨bf, k * 6 + 1, none⟩ (ptr (bf, k * 6))).setCell ⟨bf, k * 6, none⟩ (ptr (bf, k * 6))) (bf, j * 6) c = cl w (bf, j * 6) c := by
    intro j c h2 h3 hc
    unfold cl
    rw [World.cell?_setCell_other _ _ _ _ (by simp <;> omega), World.cell?_setCell_other _ _ _ _ (by simp <;> omega)]
  have s1 : cl ((w.setCell ⟨bf, k * 6 + 1, none⟩ (ptr (bf, k * 6))).setCell ⟨bf, k * 6, none⟩ (ptr (bf, k * 6))) (bf, k * 6) 1 = some (ptr (bf, k * 6)) := by
    unfold cl
    rw [World.cell?_setCell_other _ _ _ _ (by simp)]
    exact World.cell?_setCell_same _ _ _ h1
  have s0 : cl ((w.setCell ⟨bf, k * 6 + 1, none⟩ (ptr (bf, k * 6))).setCell ⟨bf, k * 6, none⟩ (ptr (bf, k * 6))) (bf, k * 6) 0 = some (ptr (bf, k * 6)) := by
    unfold cl
    refine World.cell?_setCell_same _ _ _ (u := u0) ?_
    rw [World.cell?_setCell_other _ _ _ _ (by simp)]
    exact h0
  refine ⟨fun o => by simp [h.z o], fun j hj => ?_, fun j hj => ?_, fun j hj => ?_⟩
  · rw [same j 2 (by omega) (by omega) (by omega), same j 3 (by omega) (by omega) (by omega), same j 4 (by omega) (by omega) (by omega), same j 5 (by omega) (by omega) (by omega)]
    exact h.d j hj
  · by_cases e : j = k
    · subst e; exact ⟨⟨_, s0⟩, ⟨_, s1⟩⟩
    · rw [same j 0 (by omega) (by omega) (by omega), same j 1 (by omega) (by omega) (by omega)]; exact h.p j hj
  · by_cases e : j = k
    · subst e; exact ⟨s0, s1⟩
    · rw [same j 0 (by omega) (by omega) (by omega), same j 1 (by omega) (by omega) (by omega)]; exact h.r j (by omega)

def NewPost (w : World) (n : Nat) (e : Ending) (w' : World) : Prop :=
  ∃ bc bf bm, e = .returned (.tuple #[.pointer (some ⟨bc, 0, none⟩), .int .i64 0]) ∧ w.heap.size ≤ bc ∧ w.heap.size ≤ bf ∧ w.heap.size ≤ bm ∧ ChRep w' bc bf bm (List.replicate n []) ∧ NoW w w'

structure NewInv (w : World) (n k : Nat) (wr : World) : Prop where
  fr : Fronts wr w.heap.size n k
  m : wr.heap[w.heap.size + 1]? = some (.map #[] 0)
  c0 : wr.cell? ⟨w.heap.size + 1 + 1, 0, none⟩ = some (.slice (some ⟨w.heap.size, 0, none⟩) n n)
  c1 : wr.cell? ⟨w.heap.size + 1 + 1, 1, none⟩ = some (.map (some (w.heap.size + 1)))
  fp : NoW w wr

theorem newInv_start (w : World) (n : Nat) : NewInv w n 0 (((w.alloc (.cells (mc n) 201)).alloc (.map #[] 0)).alloc (.cells #[.slice (some ⟨w.heap.size, 0, none⟩) n n, .map (some (w.heap.size + 1))] 195)) := by
  refine ⟨Fronts.made w _ n ?_, ?_, ?_, ?_, ?_⟩
  · rw [Below.heap_alloc _ _ _ (by simp; omega), Below.heap_alloc _ _ _ (by simp)]; exact heap_new _ _ _ rfl
  · rw [Below.heap_alloc _ _ _ (by simp)]; exact heap_new _ _ _ (by simp)
  · have := World.cell?_alloc_at (w := (w.alloc (.cells (mc n) 201)).alloc (.map #[] 0)) #[.slice (some ⟨w.heap.size, 0, none⟩) n n, .map (some (w.heap.size + 1))] 195 (w.heap.size + 1 + 1) 0 (by simp)
    simpa using this
  · have := World.cell?_alloc_at (w := (w.alloc (.cells (mc n) 201)).alloc (.map #[] 0)) #[.slice (some ⟨w.heap.size, 0, none⟩) n n, .map (some (w.heap.size + 1))] 195 (w.heap.size + 1 + 1) 1 (by simp)
    simpa using this
  · (repeat (first | exact Fp.refl _ _ | refine Fp.drew ?_ | refine Fp.drewN ?_ _ | refine Fp.alloc ?_ _ | (refine Fp.setCell ?_ (Or.inl (by simp)) _) | (refine Fp.setCell ?_ (Or.inl (by simp; omega)) _) | refine Fp.trans ?_ (by assumption) (fun _ _ h => h)))

theorem NewInv.next {w wr : World} {n k : Nat} (h : NewInv w n k wr) (hk : k < n) :
    NewInv w n (k + 1) ((wr.setCell ⟨w.heap.size, k * 6 + 1, none⟩ (.pointer (some ⟨w.heap.size, k * 6, none⟩))).setCell ⟨w.heap.size, k * 6, none⟩ (.pointer (some ⟨w.heap.size, k * 6, none⟩))).drew := by
  refine ⟨?_, ?_, ?_, ?_, ?_⟩
  · have := h.fr.next hk
    exact ⟨this.z, this.d, this.p, this.r⟩
  · show (World.setCell _ _ _).heap[_]? = _
    rw [Below.heap_setCell _ _ _ _ (by simp), Below.heap_setCell _ _ _ _ (by simp)]; exact h.m
  · show (World.setCell _ _ _).cell? _ = _
    rw [World.cell?_setCell_other _ _ _ _ (by simp <;> omega), World.cell?_setCell_other _ _ _ _ (by simp <;> omega)]; exact h.c0
  · show (World.setCell _ _ _).cell? _ = _
    rw [World.cell?_setCell_other _ _ _ _ (by simp <;> omega), World.cell?_setCell_other _ _ _ _ (by simp <;> omega)]; exact h.c1
  · exact ((h.fp.setCell (Or.inl (Nat.le_refl _)) _).setCell (Or.inl (Nat.le_refl _)) _).drew

theorem NewInv.done {w wr : World} {n : Nat} (h : NewInv w n n wr) (h1 : 1 ≤ n) (h2 : n ≤ 64) : NewPost w n (.returned (.tuple #[.pointer (some ⟨w.heap.size + 1 + 1, 0, none⟩), .int .i64 0])) wr := by
  have fl : (List.replicate n ([] : Row)).flatten = [] := by simp
  have gr : ∀ (i : Nat) (r : Row), (List.replicate n ([] : Row))[i]? = some r → r = [] ∧ i < n := by
    intro i r hr
    rw [List.getElem?_replicate] at hr
    split at hr
    · exact ⟨(Option.some.inj hr).symm, by assumption⟩
    · cases hr
  refine ⟨w.heap.size + 1 + 1, w.heap.size, w.heap.size + 1, rfl, by omega, by omega, by omega, ?_, h.fp⟩
  refine ⟨?_, h.c1, ?_, ?_, ?_, ?_, ?_, ?_, ?_, ?_, ?_, ?_⟩
  · simpa using h.c0
  · simp; omega
  · simpa using h2
  · intro b o hb
    rcases hb with rfl | hb
    · exact h.fr.z o
    · simp at hb
  · intro i hi
    exact h.fr.d i (by simpa using hi)
  · intro i r hr x hx
    rw [(gr i r hr).1] at hx; cases hx
  · intro i r hr
    obtain ⟨rfl, hi⟩ := gr i r hr
    have := h.fr.r i hi
    exact ⟨this.2, this.1⟩
  · exact ⟨[], ⟨#[], 0, h.m, rfl⟩, by simp [pairs]⟩
  · rw [fl]; exact List.nodup_nil
  · rw [fl]; intro x hx; cases hx
  · rw [fl]; simp; omega

set_option maxHeartbeats 400000 in
theorem new_bad (x : Int) (hx : x < 1 ∨ 64 < x) (w : World) : Calls Tryz.prog 27 #[.int .i64 x] w fun e w' => e = .returned (.tuple #[.pointer none, .int .i64 2]) ∧ w = w' := by
  by_cases h1 : x < 1
  · have h1' : decide (x < 1) = true := by simpa using h1
    go_enter Tryz.func27, Tryz.ntmps27
    go_wp2_with fail
    go_ret2
    exact ⟨rfl, rfl⟩
  · have h1' : decide (x < 1) = false := by simpa using h1
    have h2 : decide (64 < x) = true := by simp; omega
    go_enter Tryz.func27, Tryz.ntmps27
    go_wp2_with fail
    go_ret2
    exact ⟨rfl, rfl⟩

set_option maxHeartbeats 400000 in
theorem new_ok (n : Nat) (h1 : 1 ≤ n) (h2 : n ≤ 64) (w : World) : Calls Tryz.prog 27 #[.int .i64 n] w (NewPost w n) := by
  have hmk := run_mk n h2
  have hmm := @run_makeMap Tryz.prog
  have d1 : decide ((n : Int) < 1) = false := by simp; omega
  have d2 : decide (64 < (n : Int)) = false := by simp; omega
  go_enter Tryz.func27, Tryz.ntmps27
  go_wp2_with fail
  go_loopw [23] (fun i wr => ∃ k : Nat, k ≤ n ∧ i = .int .i64 k ∧ NewInv w n k wr) (fun i _ => n - (intOf i).toNat)
  case atStart => exact ⟨0, Nat.zero_le _, rfl, newInv_start w n⟩
  case round =>
    obtain ⟨k, hk, rfl, hinv⟩ := hrel
    have c0 := hinv.c0
    by_cases hlt : k < n
    · obtain ⟨⟨u0, g0⟩, ⟨u1, g1⟩⟩ := hinv.fr.p k hlt
      simp only [cl, Nat.add_zero] at g0 g1
      have z := hinv.fr.z
      go_wp2_with fail
      (refine wp_still_tail 6 (by kernel_rfl) (by kernel_rfl) ?_; simp only [List.take_succ_cons, List.take_zero, List.drop_succ_cons, List.drop_zero]; (repeat still_step); try refine wpStill_nil ?_)
      go_wp2_with fail
      refine (join_any w.heap.size (k * 6) w.heap.size (k * 6) u1 u0 _ (by go_simp) (by go_simp) (by go_simp) (by go_simp) (by omega)).mono ?_
      rintro e w' ⟨rfl, rfl⟩
      go_wp2_with fail
      go_roundw
      case rel => exact ⟨k + 1, by omega, by go_num, hinv.next hlt⟩
      case measure => simp [intOf]; omega
    · obtain rfl : k = n := by omega
      go_wp2_with fail
      go_ret2
      exact hinv.done h1 h2
end Go.Proofs.YthmokdfigjffjaaGreatDoor

namespace Go.Proofs.YthmokdfigjffjaaGreatDoor
set_option linter.unusedVariables false
set_option linter.unusedSimpArgs false
set_option maxRecDepth 100000
open Go.RowKit
open Go.ChangeMaps (setBlock)
open Go.WideMaps (KeyLaw)

def lc3 (l : Lk) : List Value := [.int .i64 l.1, .int .u32 l.2.1, .bool l.2.2]
/-- A slice of links of the call's own. -/
def LkRow (w : World) (B : Nat) (v : Value) (ls : List Lk) : Prop := w.ownsRow B 47 3 v ls.length (ls.flatMap lc3)

theorem LkRow.nil (w : World) (B : Nat) : LkRow w B (.slice none 0 0) [] := World.ownsRow_nil w B _ 3

structure LsInv (w : World) (bc bf bm : Nat) (σ : List Row) (r : Row) (k : Nat) (v : Value) (bl : Nat) (wr : World) : Prop where
  rep : ChRep wr bc bf bm σ
  fp : NoW w wr
  own : LkRow wr w.heap.size v ((r.take k).map Prod.snd)
  le : w.heap.size ≤ bl
  box : wr.heap[bl]? = some (.cells (lc3 (hdl (r.drop k)).1).toArray 47 (0, 0))
  ne : v.ownBlock ≠ some bl
  nil : v = .slice none 0 0 ↔ k = 0

section
variable {w : World} {bc bf bm : Nat} {σ : List Row}

end
end Go.Proofs.YthmokdfigjffjaaGreatDoor

namespace Go.Proofs.YthmokdfigjffjaaGreatDoor
set_option linter.unusedVariables false
set_option linter.unusedSimpArgs false
open Go.RowKit Go.Lib
theorem pairs_get (f : Nat → Value) (z : Value) (m j : Nat) : ((List.range m).flatMap fun i => [z, f i])[j]? = if j < 2 * m then some (if j % 2 = 0 then z else f (j / 2)) else none := by
  have hl : ∀ m, ((List.range m).flatMap fun i => [z, f i]).length = 2 * m := fun m => by
    induction m with
    | zero => rfl
    | succ m ih => rw [List.range_succ, List.flatMap_append, List.length_append, ih]; simp; omega
  induction m with
  | zero => simp
  | succ m ih =>
    rw [List.range_succ, List.flatMap_append]
    by_cases h : j < 2 * m
    · rw [List.getElem?_append_left (by rw [hl]; exact h), ih, if_pos h]
      rw [if_pos (show j < 2 * (m + 1) by omega)]
    · rw [List.getElem?_append_right (by rw [hl]; omega), hl]
      by_cases h2 : j = 2 * m
      · subst h2
        rw [if_pos (by omega), if_pos (by omega), Nat.sub_self]; rfl
      · by_cases h3 : j = 2 * m + 1
        · subst h3
          have e1 : 2 * m + 1 - 2 * m = 1 := by omega
          have e2 : (2 * m + 1) / 2 = m := by omega
          have e3 : (2 * m + 1) % 2 = 1 := by omega
          rw [if_pos (by omega)]
          simp [e1, e2, e3]
        · rw [if_neg (by omega)]
          simp; omega
/-- A slab in the middle of its making: the first k slots are of generation 1. -/
def slabK (n : Nat) (k : Nat) : List Value := ((List.range 256).flatMap fun i => [(Value.int .i64 0), .int .u32 (if i < k then 1 else 0)]) ++ [.int .i64 n, .int .i64 n, .int .i64 0, .int .i64 0]
theorem slabK_get (n k j : Nat) (h : j < 512) : (slabK n k)[j]? = some (if j % 2 = 0 then .int .i64 0 else .int .u32 (if j / 2 < k then 1 else 0)) := by
  unfold slabK
  have hp := pairs_get (fun i => Value.int .u32 (if i < k then 1 else 0)) (Value.int .i64 0) 256 j
  rw [if_pos (by omega)] at hp
  rw [List.getElem?_append_left (List.getElem?_eq_some_iff.1 hp).1]
  exact hp
theorem slabK_len (n k : Nat) : (slabK n k).length = 516 := by
  have hl : ∀ m, ((List.range m).flatMap fun i => [(Value.int .i64 0), .int .u32 (if i < k then 1 else 0)]).length = 2 * m := fun m => by
    induction m with
    | zero => rfl
    | succ m ih => rw [List.range_succ, List.flatMap_append, List.length_append, ih]; simp; omega
  unfold slabK
  rw [List.length_append, hl]; rfl
theorem slabK_tail (n k j : Nat) : (slabK n k)[512 + j]? = ([.int .i64 n, .int .i64 n, .int .i64 0, .int .i64 0] : List Value)[j]? := by
  have hl : ∀ m, ((List.range m).flatMap fun i => [(Value.int .i64 0), .int .u32 (if i < k then 1 else 0)]).length = 2 * m := fun m => by
    induction m with
    | zero => rfl
    | succ m ih => rw [List.range_succ, List.flatMap_append, List.length_append, ih]; simp; omega
  unfold slabK
  rw [List.getElem?_append_right (by rw [hl]; omega), hl]
  have e : 512 + j - 2 * 256 = j := by omega
  rw [e]
theorem slabK_set (n k : Nat) (hk : k < 256) : (slabK n k).set (k * 2 + 1) (.int .u32 1) = slabK n (k + 1) := by
  apply List.ext_getElem?
  intro j
  by_cases hj : j < 512
  · rw [List.getElem?_set, slabK_get _ _ _ hj, slabK_get _ _ _ hj, slabK_len]
    by_cases h : k * 2 + 1 = j
    · subst h
      rw [if_pos rfl, if_pos (by omega), if_neg (by omega), if_pos (by omega)]
    · rw [if_neg h]
      by_cases h2 : j % 2 = 0
      · rw [if_pos h2, if_pos h2]
      · rw [if_neg h2, if_neg h2]
        by_cases h3 : j / 2 < k
        · rw [if_pos h3, if_pos (by omega)]
        · rw [if_neg h3, if_neg (by omega)]
  · obtain ⟨i, rfl⟩ : ∃ i, j = 512 + i := ⟨j - 512, by omega⟩
    rw [List.getElem?_set_ne (by omega), slabK_tail, slabK_tail]
def slab0 (n : Nat) : Array Value := (((List.range 256).flatMap fun _ => [(Value.int .i64 0), .int .u32 0]) ++ [Value.int .i64 n, .int .i64 0, .int .i64 0, .int .i64 0]).toArray
theorem slab0_set (n : Nat) : (slab0 n).setIfInBounds 513 (.int .i64 n) = (slabK n 0).toArray := by kernel_rfl
set_option maxHeartbeats 4000000 in
set_option maxRecDepth 100000 in
theorem slab_new (n : Nat) (h1 : 1 ≤ n) (h2 : n ≤ 256) (w : World) : Calls Tryz.prog 26 #[.int .i64 n] w fun e w' => ∃ g, e = .returned (.tuple #[.pointer (some ⟨g, 0, none⟩), .int .i64 0]) ∧ w'.heap[g]? = some (.cells (slabK n 256).toArray 191 (0, 0)) ∧ w.heap.size ≤ g ∧ NoW w w' := by
  have c1 : ¬ (n : Int) < 1 := by omega
  have c2 : ¬ (256 : Int) < (n : Int) := by omega
  have c3 : ¬ 256 < n := by omega
  have c4 : ¬ n < 1 := by omega
  have c5 : ¬ n = 0 := by omega
  have kb : (Tryz.zeroCells191).setIfInBounds 512 (.int .i64 n) = slab0 n := by kernel_rfl
  go_enter Tryz.func26, Tryz.ntmps26
  go_upto_region 4 with fail
  refine wp_gen (fun x1 hW => ?_)
  have hp := new_now hW
  have hB := new_blk hW
  clear hW kb
  obtain ⟨g, hg⟩ : ∃ g, g = w.heap.size := ⟨_, rfl⟩
  rw [← hg] at hB ⊢
  have HG := Lib.hid (Nat.le_of_eq hg.symm)
  clear hg
  have cg : x1.cell? ⟨g, 513, none⟩ = some (.int .i64 0) := by simp only [World.cell?, hB.out]; rfl
  have zg := froz_at hB
  have lg := hid_lt hB
  go_upto_region 5 with fail
  refine wp_gen (fun x2 hW => ?_)
  have hB2 := set_blk hW hB
  have HN := Lib.hid (hp.trans (set_now hW) (fun i hi e => by have h3 : i = g := e; have h4 := HG.out; omega))
  rw [slab0_set] at hB2
  clear hW hp hB cg zg lg
  go_wp2_with fail
  go_loopg [20, 5] 257 (fun gg kv sv wx => ∃ (k : Nat), k ≤ 256 ∧ gg = 257 - k ∧ kv = .int .i64 (k : Int) ∧ wx.heap[g]? = some (.cells (slabK n k).toArray 191 (0, 0)) ∧ NoW w wx)
  case atStart => exact ⟨0, by omega, by omega, rfl, hB2.out, HN.out⟩
  case round =>
    clear hB2 HN
    obtain ⟨k, hk, hgg, rfl, hb, hN⟩ := hrel
    have Hg := Lib.hid hgg
    have B_g := Lib.hid hb
    have HN := Lib.hid hN
    clear hgg hb hN
    by_cases hlt : k < 256
    · have ck : (k : Int) < 256 := by omega
      have hget := slabK_get n k (k * 2 + 1) (by omega)
      rw [if_neg (by omega), if_neg (by omega)] at hget
      have cg : wr.cell? ⟨g, k * 2 + 1, none⟩ = some (.int .u32 0) := cell_at B_g _ hget
      have zg := froz_at B_g
      have lg := hid_lt B_g
      clear hget
      go_wp2_with fail
      have hB := set_blk (W := wr.setCell ⟨g, k * 2 + 1, none⟩ (.int .u32 1)) rfl B_g
      rw [List.setIfInBounds_toArray, slabK_set n k hlt] at hB
      have HN2 := Lib.hid (HN.out.trans (set_now (W := wr.setCell ⟨g, k * 2 + 1, none⟩ (.int .u32 1)) rfl) (fun i hi e => by have h3 : i = g := e; have h4 := HG.out; omega))
      go_roundg (256 - k)
      case measure => have := Hg.out; omega
      case rel => exact ⟨k + 1, by omega, by omega, by go_num, hB.out, HN2.out⟩
    · obtain rfl : k = 256 := by omega
      go_wp2_with fail
      refine bodyPost_ret (v := .tuple #[.pointer (some ⟨g, 0, none⟩), .int .i64 0]) (by simp only [results, Tryz.results26]; go_simp) rfl ⟨g, rfl, B_g.out, HG.out, HN.out⟩
end Go.Proofs.YthmokdfigjffjaaGreatDoor

namespace Go.Proofs.YthmokdfigjffjaaGreatDoor
set_option linter.unusedVariables false
set_option linter.unusedSimpArgs false
open Go.RowKit Go.Lib Go.Sort

theorem mask_ok (b : Nat) (hb : b ≤ 32) (w : World) : Calls Tryz.prog 143 #[.int .i64 b] w fun e w' => e = .returned (.int .u32 ((2 ^ 32 - 2 ^ (32 - b) : Nat) : Int)) ∧ w' = w := by
  have hp : 2 ^ (32 - b) ≤ 2 ^ 32 := Nat.pow_le_pow_right (by omega) (by omega)
  have hp1 : 1 ≤ 2 ^ (32 - b) := Nat.one_le_two_pow
  go_enter Tryz.func143, Tryz.ntmps143
  go_wp2_with fail
  go_ret
  refine ⟨?_, rfl⟩
  rw [IntKind.wrap_u64, IntKind.wrap_u64, show (2 : Int) ^ (32 - b) = ((2 ^ (32 - b) : Nat) : Int) by simp]
  have e32 : (2 : Nat) ^ 32 = 4294967296 := by decide
  rw [e32] at hp ⊢
  generalize 2 ^ (32 - b) = q at *
  have e : (4294967296 - (q : Int) % 18446744073709551616) % 18446744073709551616 % 4294967296 = ((4294967296 - q : Nat) : Int) := by omega
  rw [e]
  rfl
/-- Whether a prefix may be. -/
def mayB (ip : Nat) (bits : Int) : Bool := decide (0 ≤ bits ∧ bits ≤ 32 ∧ ip % 2 ^ (32 - bits.toNat) = 0)
/-- Whether it has an address. -/
def hasB (ip : Nat) (bits : Int) (a : Nat) : Bool := mayB ip bits && decide (a / 2 ^ (32 - bits.toNat) = ip / 2 ^ (32 - bits.toNat))
set_option maxHeartbeats 1000000 in
theorem may_ok (ip : Nat) (hip : ip < 4294967296) (bits : Int) (w : World) : Calls Tryz.prog 82 #[.agg #[.int .u32 ip, .int .i64 bits]] w (Ret1 (.bool (mayB ip bits)) w) := by
  by_cases h0 : 0 ≤ bits
  · by_cases h1 : bits ≤ 32
    · obtain ⟨b, rfl⟩ : ∃ b : Nat, bits = b := ⟨bits.toNat, by omega⟩
      have hb : b ≤ 32 := by omega
      have h0' : decide ((0 : Int) ≤ (b : Int)) = true := by simp
      have h1' : decide ((b : Int) ≤ 32) = true := by simp; omega
      have hpk : 2 ^ 32 - 2 ^ (32 - b) < 4294967296 := by
        have : 1 ≤ 2 ^ (32 - b) := Nat.one_le_two_pow
        have e32 : (2 : Nat) ^ 32 = 4294967296 := by decide
        omega
      have hand := u32_andNot_nat ip (2 ^ 32 - 2 ^ (32 - b)) hip hpk
      rw [and_low (by omega)] at hand
      have hm : mayB ip b = decide (ip % 2 ^ (32 - b) = 0) := by
        unfold mayB
        rw [decide_eq_decide]
        exact ⟨fun h => by simpa using h.2.2, fun h => ⟨by omega, by omega, by simpa using h⟩⟩
      rw [hm]
      have hmask := mask_ok b hb
      generalize 2 ^ 32 - 2 ^ (32 - b) = mk at *
      generalize ip % 2 ^ (32 - b) = r at *
      have Hmask := Lib.hid hmask
      have hrz : ((r : Int) == 0) = decide (r = 0) := by rw [Bool.eq_iff_iff]; simp
      clear hmask hm h0 h1
      go_enter Tryz.func82, Tryz.ntmps82
      go_wp2_with fail
      go_quiet ((go_at_call 143; exact Calls.quiet_of_same (Hmask.out _)))
      go_wp2_with fail
      go_ret
      exact ⟨rfl, ((Fp.refl _ _).alloc _).drewN _⟩
    · have h0' : decide ((0 : Int) ≤ bits) = true := by simpa using h0
      have h1' : decide (bits ≤ 32) = false := by simpa using h1
      have hm : mayB ip bits = false := by unfold mayB; simp [h1]
      rw [hm]
      clear hm h0 h1
      go_enter Tryz.func82, Tryz.ntmps82
      go_wp2_with fail
      go_quiet (fail)
      go_wp2_with fail
      go_ret
      exact ⟨rfl, ((Fp.refl _ _).alloc _).drewN _⟩
  · have h0' : decide ((0 : Int) ≤ bits) = false := by simpa using h0
    have hm : mayB ip bits = false := by unfold mayB; simp [h0]
    rw [hm]
    clear hm h0
    go_enter Tryz.func82, Tryz.ntmps82
    go_wp2_with fail
    go_quiet (fail)
    go_wp2_with fail
    go_ret
    exact ⟨rfl, ((Fp.refl _ _).alloc _).drewN _⟩
set_option maxHeartbeats 1000000 in
theorem has_ok (ip : Nat) (hip : ip < 4294967296) (bits : Int) (a : Nat) (ha : a < 4294967296) (w : World) : Calls Tryz.prog 83 #[.agg #[.int .u32 ip, .int .i64 bits], .int .u32 a] w (Ret1 (.bool (hasB ip bits a)) w) := by
  have hmay := fun W => may_ok ip hip bits W
  have Hmay := Lib.hid hmay
  clear hmay
  rcases hm : mayB ip bits with _ | _
  · have hh : hasB ip bits a = false := by unfold hasB; rw [hm]; rfl
    rw [hh]
    rw [hm] at Hmay
    clear hm hh hip ha
    go_enter Tryz.func83, Tryz.ntmps83
    go_wp2_with fail
    have hc0 : (w.alloc (.cells #[.int .u32 ip, .int .i64 bits] 25)).cell? ⟨w.heap.size, 0, none⟩ = some (.int .u32 ip) := by simp
    have hc1 : (w.alloc (.cells #[.int .u32 ip, .int .i64 bits] 25)).cell? ⟨w.heap.size, 1, none⟩ = some (.int .i64 bits) := by simp
    have hn0 : NoW w (w.alloc (.cells #[.int .u32 ip, .int .i64 bits] 25)) := (Fp.refl _ _).alloc _
    generalize w.alloc (.cells #[.int .u32 ip, .int .i64 bits] 25) = w0 at *
    generalize w.heap.size = g at *
    have h0 := hc0
    have h1 := hc1
    have d0 : w0.drew.cell? ⟨g, 0, none⟩ = some (.int .u32 ip) := hc0
    have d1 := (show w0.drew.cell? ⟨g, 1, none⟩ = _ from hc1)
    have Hn0 := Lib.hid hn0
    clear hn0 hc0 hc1
    have lg : g < w0.heap.size := cell_lt h0
    have H0 := Lib.hid h0
    have H1 := Lib.hid h1
    clear h0 h1 d0 d1
    refine wp_region_held_drew (S := fun wx => NoW w0 wx) (by kernel_rfl) (Fp.drew (Fp.refl _ _)) (fun hHeld => ?_)
    (refine tk 0 (some 5) ?_ ?_ ?_; rotate_left; (focus (intro wS hSw; have c0 := (hSw.cell (p := ⟨g, 0, none⟩) lg id).trans H0.out; have c1 := (hSw.cell (p := ⟨g, 1, none⟩) lg id).trans H1.out; go_simp; try with_reducible rfl)); (try simp only [Act.put, List.setIfInBounds_toArray, List.set_cons_zero, List.set_cons_succ]))
    refine wpAnyH_ready (rs := [1]) (by kernel_rfl) (by simp) ?_
    refine AllReadyH.cons rfl (fun K hK => ?_) AllReadyH.nil
    go_simp
    go_at_call 82
    refine (Hmay.out _).mono ?_
    rintro e w1 ⟨rfl, hp1⟩
    have hn1 : NoW w0 w1 := Fp.trans hHeld hp1 (fun _ _ h => h)
    clear hp1 hHeld
    refine hK.out _ _ hn1 (fun hHeld => ?_)
    clear hK K
    try simp only [Act.put, List.setIfInBounds_toArray, List.set_cons_zero, List.set_cons_succ]
    (refine tk 2 (some 7) ?_ ?_ ?_; rotate_left; (focus (intro wS hSw; go_simp; try with_reducible rfl)); (try simp only [Act.put, List.setIfInBounds_toArray, List.set_cons_zero, List.set_cons_succ]))
    (refine dk 3 (some 8) ?_; (try simp only [Act.put, List.setIfInBounds_toArray, List.set_cons_zero, List.set_cons_succ]))
    (refine dk 4 (some 9) ?_; (try simp only [Act.put, List.setIfInBounds_toArray, List.set_cons_zero, List.set_cons_succ]))
    (refine dk 5 (some 10) ?_; (try simp only [Act.put, List.setIfInBounds_toArray, List.set_cons_zero, List.set_cons_succ]))
    (refine dk 6 (some 11) ?_; (try simp only [Act.put, List.setIfInBounds_toArray, List.set_cons_zero, List.set_cons_succ]))
    (refine dk 7 (some 12) ?_; (try simp only [Act.put, List.setIfInBounds_toArray, List.set_cons_zero, List.set_cons_succ]))
    (refine dk 8 (some 13) ?_; (try simp only [Act.put, List.setIfInBounds_toArray, List.set_cons_zero, List.set_cons_succ]))
    (refine dk 9 (some 14) ?_; (try simp only [Act.put, List.setIfInBounds_toArray, List.set_cons_zero, List.set_cons_succ]))
    (refine dk 10 (some 15) ?_; (try simp only [Act.put, List.setIfInBounds_toArray, List.set_cons_zero, List.set_cons_succ]))
    (refine dk 11 (some 16) ?_; (try simp only [Act.put, List.setIfInBounds_toArray, List.set_cons_zero, List.set_cons_succ]))
    (refine tk 12 (some 17) ?_ ?_ ?_; rotate_left; (focus (intro wS hSw; go_simp; try with_reducible rfl)); (try simp only [Act.put, List.setIfInBounds_toArray, List.set_cons_zero, List.set_cons_succ]))
    (refine tk 13 (some 4) ?_ ?_ ?_; rotate_left; (focus (intro wS hSw; go_simp; try with_reducible rfl)); (try simp only [Act.put, List.setIfInBounds_toArray, List.set_cons_zero, List.set_cons_succ]))
    refine wpAnyH_done (by kernel_rfl) ?_ _
    go_wp2_with fail
    go_ret
    exact ⟨rfl, Hn0.out.trans hn1 (fun _ _ h => h)⟩
  · have hb : 0 ≤ bits ∧ bits ≤ 32 := by
      unfold mayB at hm
      have := of_decide_eq_true hm
      exact ⟨this.1, this.2.1⟩
    obtain ⟨b, rfl⟩ : ∃ b : Nat, bits = b := ⟨bits.toNat, by omega⟩
    have hb32 : b ≤ 32 := by omega
    have hh : hasB ip b a = decide (a / 2 ^ (32 - b) = ip / 2 ^ (32 - b)) := by unfold hasB; rw [hm]; simp
    rw [hh]
    rw [hm] at Hmay
    have e32 : (2 : Nat) ^ 32 = 4294967296 := by decide
    have hx := u32_xor_nat a ip ha hip
    have hxl : a ^^^ ip < 4294967296 := xor_lt ha hip
    have hpk : 2 ^ 32 - 2 ^ (32 - b) < 4294967296 := by
      have : 1 ≤ 2 ^ (32 - b) := Nat.one_le_two_pow
      omega
    have hand := u32_and_nat (a ^^^ ip) (2 ^ 32 - 2 ^ (32 - b)) hxl hpk
    have hz := mask_zero (a := a) (b := ip) ha hip (show 32 - b ≤ 32 by omega)
    have hz2 : ((((a ^^^ ip) &&& (2 ^ 32 - 2 ^ (32 - b)) : Nat) : Int) == 0) = decide (a / 2 ^ (32 - b) = ip / 2 ^ (32 - b)) := by
      rw [Bool.eq_iff_iff, beq_iff_eq, decide_eq_true_eq, ← hz]; omega
    have hmask := fun W => mask_ok b hb32 W
    generalize 2 ^ 32 - 2 ^ (32 - b) = mk at *
    generalize (a ^^^ ip) &&& mk = z at *
    generalize a ^^^ ip = x at *
    generalize hdd : decide (a / 2 ^ (32 - b) = ip / 2 ^ (32 - b)) = dd at *
    have Hmask := Lib.hid hmask
    clear hmask hm hh hz hdd hb hip ha hxl hpk e32
    go_enter Tryz.func83, Tryz.ntmps83
    go_wp2_with fail
    have hc0 : (w.alloc (.cells #[.int .u32 ip, .int .i64 b] 25)).cell? ⟨w.heap.size, 0, none⟩ = some (.int .u32 ip) := by simp
    have hc1 : (w.alloc (.cells #[.int .u32 ip, .int .i64 b] 25)).cell? ⟨w.heap.size, 1, none⟩ = some (.int .i64 b) := by simp
    have hn0 : NoW w (w.alloc (.cells #[.int .u32 ip, .int .i64 b] 25)) := (Fp.refl _ _).alloc _
    generalize w.alloc (.cells #[.int .u32 ip, .int .i64 b] 25) = w0 at *
    generalize w.heap.size = g at *
    have h0 := hc0
    have h1 := hc1
    have d0 : w0.drew.cell? ⟨g, 0, none⟩ = some (.int .u32 ip) := hc0
    have d1 := (show w0.drew.cell? ⟨g, 1, none⟩ = _ from hc1)
    have Hn0 := Lib.hid hn0
    clear hn0 hc0 hc1
    have lg : g < w0.heap.size := cell_lt h0
    have hkk : ∀ wx, NoW w0 wx → wx.cell? ⟨g, 0, none⟩ = some (.int .u32 ip) ∧ wx.cell? ⟨g, 1, none⟩ = some (.int .i64 b) :=
      fun wx hn => ⟨(hn.cell (p := ⟨g, 0, none⟩) lg id).trans h0, (hn.cell (p := ⟨g, 1, none⟩) lg id).trans h1⟩
    have Hkk := Lib.hid hkk
    clear hkk h0 h1
    go_region_held3 (fun wx => wx.cell? ⟨g, 0, none⟩ = some (.int .u32 ip) ∧ wx.cell? ⟨g, 1, none⟩ = some (.int .i64 b)) (first | exact Hkk.out _ (Fp.drew (Fp.refl _ _)) | exact Hkk.out _ hn1 | exact Hkk.out _ (hn1))
      (first | (go_at_call 82; refine (Hmay.out _).mono ?_; rintro e w1 ⟨rfl, hp1⟩; have hn1 : NoW w0 w1 := (Fp.drew (Fp.refl _ _)).trans hp1 (fun _ _ h => h); clear hp1) | (go_at_call 143; refine (Hmask.out _).mono ?_; rintro e w2 ⟨rfl, rfl⟩))
    go_wp2_with fail
    go_ret
    exact ⟨rfl, Hn0.out.trans hn1 (fun _ _ h => h)⟩
end Go.Proofs.YthmokdfigjffjaaGreatDoor

namespace Go.Proofs.YthmokdfigjffjaaGreatDoor
set_option linter.unusedVariables false
set_option linter.unusedSimpArgs false
open Go.RowKit Go.Lib
set_option maxHeartbeats 4000000 in
set_option maxRecDepth 100000 in
theorem rules_new (o ip : Nat) (bits : Int) (ho : o < 4294967296) (hip : ip < 4294967296) (hm : mayB ip bits = true) (hh : hasB ip bits o = false) (w : World) : Calls Tryz.prog 25 #[.int .u32 o, .agg #[.int .u32 ip, .int .i64 bits]] w fun e w' => ∃ g, e = .returned (.tuple #[.pointer (some ⟨g, 0, none⟩), .int .i64 0]) ∧ w'.heap[g]? = some (.cells #[.bool true, .int .u32 o, .int .u32 ip, .int .i64 bits, .slice none 0 0] 185 (0, 0)) ∧ w.heap.size ≤ g ∧ NoW w w' := by
  have K1 := Lib.hid (fun W => may_ok ip hip bits W)
  have K2 := Lib.hid (fun W => has_ok ip hip bits o ho W)
  rw [hm] at K1
  rw [hh] at K2
  clear hm hh ho hip
  go_enter Tryz.func25, Tryz.ntmps25
  go_upto_region 1 with fail
  refine wp_gen (fun x1 hW => ?_)
  have hp := new_now hW
  have hB := new_blk hW
  clear hW
  obtain ⟨g, hg⟩ : ∃ g, g = w.heap.size := ⟨_, rfl⟩
  rw [← hg] at hB ⊢
  have HN := Lib.hid hp
  clear hp hg
  have c0 := cell_at hB 0 rfl
  have c1 := cell_at hB 1 rfl
  have lg := hid_lt hB
  go_wp2_with fail
  refine (K1.out _).mono ?_
  rintro e x2 ⟨rfl, hp⟩
  replace HN := hid_now HN hp
  replace hB := hid_blk hB hp
  clear hp c0 c1 lg
  have c0 := cell_at hB 0 rfl
  have c1 := cell_at hB 1 rfl
  have lg := hid_lt hB
  go_wp2_with fail
  refine (K2.out _).mono ?_
  rintro e x3 ⟨rfl, hp⟩
  replace HN := hid_now HN hp
  replace hB := hid_blk hB hp
  clear hp c0 c1 lg
  have c0 := cell_at hB 0 rfl
  have c1 := cell_at hB 1 rfl
  have lg := hid_lt hB
  go_wp2_with fail
  refine bodyPost_ret (v := .tuple #[.pointer (some ⟨x3.heap.size, 0, none⟩), .int .i64 0]) (by simp only [results, Tryz.results25]; go_simp) rfl ⟨_, rfl, heap_alloc_new _ _, HN.out.size, HN.out.alloc _⟩
theorem ports_new (w : World) : Calls Tryz.prog 31 #[] w fun e w' => ∃ g m1 m2, e = .returned (.pointer (some ⟨g, 0, none⟩)) ∧ w'.heap[g]? = some (.cells #[.map (some m1), .map (some m2)] 215 (0, 0)) ∧ w'.heap[m1]? = some (.map #[] 0) ∧ w'.heap[m2]? = some (.map #[] 0) ∧ w.heap.size ≤ m1 ∧ w.heap.size ≤ g ∧ NoW w w' := by
  have hmm := @run_makeMap Tryz.prog
  go_enter Tryz.func31, Tryz.ntmps31
  go_wp2_with fail
  go_ret
  have h1 := heap_alloc_new w (.map #[] 0)
  have h2 := heap_alloc_new (w.alloc (.map #[] 0)) (.map #[] 0)
  have f1 : NoW (w.alloc (.map #[] 0)) ((w.alloc (.map #[] 0)).alloc (.map #[] 0)) := (Fp.refl _ _).alloc _
  have f2 : NoW ((w.alloc (.map #[] 0)).alloc (.map #[] 0)) (((w.alloc (.map #[] 0)).alloc (.map #[] 0)).alloc (.cells #[.map (some w.heap.size), .map (some (w.heap.size + 1))] 215)) := (Fp.refl _ _).alloc _
  have h3 := heap_alloc_new ((w.alloc (.map #[] 0)).alloc (.map #[] 0)) (.cells #[.map (some w.heap.size), .map (some (w.heap.size + 1))] 215)
  have e1 : (w.alloc (.map #[] 0)).heap.size = w.heap.size + 1 := by simp
  have e2 : ((w.alloc (.map #[] 0)).alloc (.map #[] 0)).heap.size = w.heap.size + 1 + 1 := by simp
  rw [e2] at h3
  rw [e1] at h2
  exact ⟨_, _, _, rfl, h3, (f2.block _ (by simp; omega) id).trans ((f1.block _ (by simp) id).trans h1), (f2.block _ (by simp) id).trans h2, Nat.le_refl _, by omega, (((Fp.refl _ _).alloc _).alloc _).alloc _⟩
end Go.Proofs.YthmokdfigjffjaaGreatDoor
