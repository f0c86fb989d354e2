/- ChainsPlay: the program's chains and the document's, side by side. -/
import Derived.Test.YtmhjdjndckeepaaPlT
import Derived.Test.YtmhjdjndckeepaaChK
namespace Go.Proofs.Ytmhjdjndckeepaa
set_option linter.unusedVariables false
set_option linter.unusedSimpArgs false
open Go.RowKit

/-- What a list of rows says to the outside. -/
def lks (σ : List Row) : List (List Lk) := σ.map (List.map Prod.snd)
theorem lks_get {σ : List Row} {i : Nat} {r : Row} (h : σ[i]? = some r) : (lks σ)[i]? = some (r.map Prod.snd) := by simp [lks, h]
theorem lks_get' {σ : List Row} {i : Nat} {ls : List Lk} (h : (lks σ)[i]? = some ls) : ∃ r, σ[i]? = some r ∧ ls = r.map Prod.snd := by
  simp [lks] at h
  obtain ⟨r, h1, h2⟩ := h
  exact ⟨r, h1, h2.symm⟩
theorem lks_set (σ : List Row) (i : Nat) (r : Row) : lks (σ.set i r) = (lks σ).set i (r.map Prod.snd) := by simp [lks, List.map_set]
theorem lks_no {σ : List Row} {l : Lk} : (∀ row, row ∈ lks σ → l ∉ row) ↔ ∀ x, x ∈ σ.flatten → x.2 ≠ l := by
  constructor
  · intro h x hx e
    obtain ⟨r, hr, hxr⟩ := List.mem_flatten.1 hx
    exact h (r.map Prod.snd) (List.mem_map.2 ⟨r, hr, rfl⟩) (by rw [← e]; exact List.mem_map.2 ⟨x, hxr, rfl⟩)
  · intro h row hrow hl
    obtain ⟨r, hr, rfl⟩ := List.mem_map.1 hrow
    obtain ⟨x, hx, e⟩ := List.mem_map.1 hl
    exact h x (List.mem_flatten.2 ⟨r, hr, hx⟩) e

theorem RfRep.own_lt {w : World} {B rb gb : Nat} {L : List (List Lk)} (h : RfRep w B rb gb L) {g : Nat} (hg : rfOwn w rb gb g) : g < w.heap.size := by
  rcases hg with rfl | rfl | ⟨arr', ty, q, v, h2, h3, h4⟩
  · exact h.ltr
  · exact h.ltg
  · obtain ⟨arr, a1, a2, a3⟩ := h.arr
    rw [a1] at h2
    cases h2
    have hq : q < L.length := by rw [← a2]; exact (Array.getElem?_eq_some_iff.1 h3).1
    obtain ⟨v', e1, e2, _⟩ := a3 q L[q] (List.getElem?_eq_getElem hq)
    rw [e1] at h3
    cases h3
    exact (World.ownsRow.lt e2 g h4).2

theorem rfOwn.back {w w' : World} {B rb gb : Nat} {L : List (List Lk)} (h : RfRep w B rb gb L) (hb : w'.heap[gb]? = w.heap[gb]?) {g : Nat} (hg : rfOwn w' rb gb g) : rfOwn w rb gb g := by
  rcases hg with rfl | rfl | ⟨arr, ty, q, v, h2, h3, h4⟩
  · exact .inl rfl
  · exact .inr (.inl rfl)
  · exact .inr (.inr ⟨arr, ty, q, v, by rw [← hb]; exact h2, h3, h4⟩)

structure Pl (w0 : World) (bc bf bm : Nat) (σ : List Row) (rb gb : Nat) (L : List (List Lk)) (wx : World) : Prop where
  st : St w0 wx bc bf bm σ
  rf : RfRep wx w0.heap.size rb gb L
  own : ∀ g, rfOwn wx rb gb g → w0.heap.size ≤ g ∧ Aside0 wx bc bf bm σ g

section
variable {w0 wx w' : World} {bc bf bm rb gb : Nat} {σ : List Row} {L : List (List Lk)}
theorem Pl.low (h : Pl w0 bc bf bm σ rb gb L wx) (hf : NoW wx w') : Pl w0 bc bf bm σ rb gb L w' :=
  ⟨h.st.low hf, h.rf.low hf, fun g hg => by
    have := h.own g (rfOwn.back h.rf (hf.block _ h.rf.ltg id) hg)
    exact ⟨this.1, (this.2.low hf).1⟩⟩
theorem Pl.put (h : Pl w0 bc bf bm σ rb gb L wx) {i b' : Nat} {r : Row} {l : Lk} (hi : σ[i]? = some r) (hb : wx.heap.size ≤ b') (hs : ChStep wx bc bf bm σ (σ.set i ((b', l) :: r)) w') :
    Pl w0 bc bf bm (σ.set i ((b', l) :: r)) rb gb L w' := by
  have hg := h.own gb (.inr (.inl rfl))
  refine ⟨h.st.put hi hb hs, h.rf.fp hs.2 (fun g hg => (h.own g hg).2.2), fun g hg' => ?_⟩
  have := h.own g (rfOwn.back h.rf ((hg.2.put hi hb hs).2) hg')
  exact ⟨this.1, (this.2.put hi hb hs).1⟩
theorem Pl.cut (h : Pl w0 bc bf bm σ rb gb L wx) {i : Nat} {r1 r2 : Row} {x : Nat × Lk} (hi : σ[i]? = some (r1 ++ x :: r2)) (hs : ChStep wx bc bf bm σ (σ.set i (r1 ++ r2)) w') :
    Pl w0 bc bf bm (σ.set i (r1 ++ r2)) rb gb L w' := by
  have hg := h.own gb (.inr (.inl rfl))
  refine ⟨h.st.cut hi hs, h.rf.fp hs.2 (fun g hg => (h.own g hg).2.2), fun g hg' => ?_⟩
  have := h.own g (rfOwn.back h.rf ((hg.2.cut hi hs).2) hg')
  exact ⟨this.1, (this.2.cut hi hs).1⟩
theorem Pl.ref {L' : List (List Lk)} (h : Pl w0 bc bf bm σ rb gb L wx) (hs : RfStep wx w0.heap.size rb gb L' w') : Pl w0 bc bf bm σ rb gb L' w' := by
  have hg := h.own gb (.inr (.inl rfl))
  refine ⟨⟨h.st.rep.fp hs.fp (fun b hb e => hg.2.2 (by rw [← e]; exact hb)), h.st.lo, h.st.fp.trans hs.fp (fun i hi e => by subst e; exact hg.1)⟩, hs.rep, fun g hg' => ?_⟩
  rcases hs.own g hg' with h1 | h1
  · have := h.own g h1
    exact ⟨this.1, Nat.lt_of_lt_of_le this.2.1 hs.fp.size, this.2.2⟩
  · exact ⟨Nat.le_trans h.st.fp.size h1, hs.rep.own_lt hg', fun hm => by have := h.st.rep.lt hm; omega⟩
end
end Go.Proofs.Ytmhjdjndckeepaa
