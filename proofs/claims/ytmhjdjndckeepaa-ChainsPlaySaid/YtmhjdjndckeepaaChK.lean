/- What a law's walk knows of chains; the walk along a chain: plain laws. -/
import Derived.Test.YtmhjdjndckeepaaChJ
namespace Go.Proofs.Ytmhjdjndckeepaa
set_option linter.unusedVariables false
set_option linter.unusedSimpArgs false
open Go.RowKit

/-- Chains of the law's own, in the middle of its call. -/
structure St (w0 w : World) (bc bf bm : Nat) (σ : List Row) : Prop where
  rep : ChRep w bc bf bm σ
  lo : ∀ b, b ∈ blocks bc bf bm σ → w0.heap.size ≤ b
  fp : Fp (w0.heap.size ≤ ·) w0 w

section
variable {w0 w w' : World} {bc bf bm : Nat} {σ : List Row}
theorem St.low (h : St w0 w bc bf bm σ) (hf : NoW w w') : St w0 w' bc bf bm σ := ⟨h.rep.fp hf (fun _ _ => id), h.lo, h.fp.trans (fp_low hf) (fun _ _ h => h)⟩
theorem St.own (h : St w0 w bc bf bm σ) {row : Option Nat} (hg : w.grownBy w' row) (hr : ∀ k, row = some k → w0.heap.size ≤ k ∧ k ∉ blocks bc bf bm σ) : St w0 w' bc bf bm σ :=
  ⟨h.rep.stay fun b hb => hg.block b (h.rep.lt hb) (fun e => (hr b e.symm).2 hb), h.lo, h.fp.grown hg (fun k e => Or.inl (hr k e).1)⟩
theorem St.put (h : St w0 w bc bf bm σ) {i : Nat} {r : Row} (hi : σ[i]? = some r) {b' : Nat} {l : Lk} (hb : w.heap.size ≤ b') (hs : ChStep w bc bf bm σ (σ.set i ((b', l) :: r)) w') : St w0 w' bc bf bm (σ.set i ((b', l) :: r)) :=
  ⟨hs.1, lo_put h.lo hi (Nat.le_trans h.fp.size hb), h.fp.trans (fp_own hs.2 h.lo) (fun _ _ h => h)⟩
theorem St.cut (h : St w0 w bc bf bm σ) {i : Nat} {r1 r2 : Row} {x : Nat × Lk} (hi : σ[i]? = some (r1 ++ x :: r2)) (hs : ChStep w bc bf bm σ (σ.set i (r1 ++ r2)) w') : St w0 w' bc bf bm (σ.set i (r1 ++ r2)) :=
  ⟨hs.1, lo_cut h.lo hi, h.fp.trans (fp_own hs.2 h.lo) (fun _ _ h => h)⟩

theorem St.set (h : St w0 w bc bf bm σ) {g o : Nat} (hg : g ∉ blocks bc bf bm σ) (hl : w0.heap.size ≤ g) (v : Value) : St w0 (w.setCell ⟨g, o, none⟩ v) bc bf bm σ :=
  ⟨h.rep.stay fun b hb => Below.heap_setCell _ _ _ _ (fun e => hg (by have e : b = g := e; rw [← e]; exact hb)), h.lo, h.fp.setCell (Or.inl hl) v⟩

/-- A block that the law has beside its chains. -/
def Aside0 (w : World) (bc bf bm : Nat) (σ : List Row) (g : Nat) : Prop := g < w.heap.size ∧ g ∉ blocks bc bf bm σ

theorem blocks_put {i : Nat} {r : Row} {b' : Nat} {l : Lk} (hi : σ[i]? = some r) {g : Nat} (h : g ∈ blocks bc bf bm (σ.set i ((b', l) :: r))) : g = b' ∨ g ∈ blocks bc bf bm σ := by
  simp only [blocks, List.mem_cons] at h ⊢
  rcases h with rfl | rfl | rfl | h
  · simp
  · simp
  · simp
  · obtain ⟨x, hx, rfl⟩ := List.mem_map.1 h
    rcases List.mem_cons.1 ((flatten_set_perm σ i r (b', l) hi).mem_iff.1 hx) with rfl | hx
    · exact Or.inl rfl
    · exact Or.inr (Or.inr (Or.inr (Or.inr (List.mem_map.2 ⟨x, hx, rfl⟩))))
theorem blocks_cut {i : Nat} {r1 r2 : Row} {x : Nat × Lk} (hi : σ[i]? = some (r1 ++ x :: r2)) {g : Nat} (h : g ∈ blocks bc bf bm (σ.set i (r1 ++ r2))) : g ∈ blocks bc bf bm σ := by
  simp only [blocks, List.mem_cons] at h ⊢
  rcases h with rfl | rfl | rfl | h
  · simp
  · simp
  · simp
  · obtain ⟨y, hy, rfl⟩ := List.mem_map.1 h
    exact Or.inr (Or.inr (Or.inr (List.mem_map.2 ⟨y, (flatten_cut_perm σ i r1 r2 x hi).mem_iff.2 (List.mem_cons_of_mem _ hy), rfl⟩)))

theorem Aside0.put {g : Nat} (h : Aside0 w bc bf bm σ g) {i : Nat} {r : Row} (hi : σ[i]? = some r) {b' : Nat} {l : Lk} (hb : w.heap.size ≤ b') (hs : ChStep w bc bf bm σ (σ.set i ((b', l) :: r)) w') :
    Aside0 w' bc bf bm (σ.set i ((b', l) :: r)) g ∧ w'.heap[g]? = w.heap[g]? :=
  ⟨⟨Nat.lt_of_lt_of_le h.1 hs.2.size, fun hm => (blocks_put hi hm).elim (fun e => by have := h.1; omega) h.2⟩, hs.2.block g h.1 h.2⟩
theorem Aside0.cut {g : Nat} (h : Aside0 w bc bf bm σ g) {i : Nat} {r1 r2 : Row} {x : Nat × Lk} (hi : σ[i]? = some (r1 ++ x :: r2)) (hs : ChStep w bc bf bm σ (σ.set i (r1 ++ r2)) w') :
    Aside0 w' bc bf bm (σ.set i (r1 ++ r2)) g ∧ w'.heap[g]? = w.heap[g]? :=
  ⟨⟨Nat.lt_of_lt_of_le h.1 hs.2.size, fun hm => h.2 (blocks_cut hi hm)⟩, hs.2.block g h.1 h.2⟩
theorem Aside0.low {g : Nat} (h : Aside0 w bc bf bm σ g) (hf : NoW w w') : Aside0 w' bc bf bm σ g ∧ w'.heap[g]? = w.heap[g]? :=
  ⟨⟨Nat.lt_of_lt_of_le h.1 hf.size, h.2⟩, hf.block g h.1 id⟩
theorem Aside0.new (h : ChRep w bc bf bm σ) {g : Nat} (hg : w.heap.size ≤ g) (hg' : g < w'.heap.size) : Aside0 w' bc bf bm σ g := ⟨hg', fun hm => by have := h.lt hm; omega⟩
end

/-- The link of a number. -/
def lkN (j : Nat) : Lk := ((j : Int), 0, false)
theorem lkN_inj {i j : Nat} (h : lkN i = lkN j) : i = j := by
  have := congrArg Prod.fst h
  simp [lkN] at this; omega
theorem lok_N (j : Nat) (h : j ≤ 100000) : Lok (lkN j) := lok_small j (by omega) (by omega)

theorem inc_le {n : Nat} : ∀ (M : List Nat), M.Pairwise (· < ·) → (∀ x, x ∈ M → x < n) → M.length ≤ n := by
  intro M
  induction n generalizing M with
  | zero =>
    intro _ h
    cases M with
    | nil => simp
    | cons x xs => exact absurd (h x (by simp)) (by omega)
  | succ n ih =>
    intro hp h
    by_cases hn : n ∈ M
    · have hne : M ≠ [] := fun e => by rw [e] at hn; cases hn
      have hl := List.dropLast_concat_getLast hne
      have hlast : M.getLast hne = n := by
        have h1 := h _ (List.getLast_mem hne)
        rw [← hl, List.pairwise_append] at hp
        rw [← hl] at hn
        rcases List.mem_append.1 hn with h2 | h2
        · have := hp.2.2 n h2 (M.getLast hne) (by simp); omega
        · simp at h2; exact h2.symm
      have hp' := hp
      rw [← hl, List.pairwise_append] at hp'
      have := ih M.dropLast hp'.1 (fun x hx => by
        have := hp'.2.2 x hx (M.getLast hne) (by simp); omega)
      have e : M.length = M.dropLast.length + 1 := by rw [List.length_dropLast]; have := List.length_pos_iff.2 hne; omega
      omega
    · have := ih M hp (fun x hx => by
        have := h x hx
        have : x ≠ n := fun e => hn (e ▸ hx)
        omega)
      omega

/-- The walk along a chain, between two rounds: k rounds are over, M was met, L stands; t: at a. -/
structure WPlain (n k : Nat) (M : List Nat) (L : List Lk) (a : Nat) (t : Bool) : Prop where
  len : M.length = k
  inc : M.Pairwise (· < ·)
  lt : ∀ x, x ∈ M → x < n
  kinds : ∀ l, l ∈ L → (∃ j, j < n ∧ l = lkN j) ∨ ∃ j, j < k ∧ l = lkN (100 + j)
  on : t = true → a < n ∧ (∀ x, x ∈ M → x < a) ∧ ∃ P Q, L = P ++ lkN a :: Q.map lkN ∧ (∀ j, j < n → lkN j ∈ P → j ∈ M) ∧ (a :: Q).Pairwise (· < ·) ∧ ∀ x, x ∈ Q → x < n
  off : t = false → ∀ j, j < n → lkN j ∈ L → j ∈ M

/-- In the middle of a round: a was met, and stands. -/
structure WMid (n k : Nat) (M : List Nat) (L P : List Lk) (a : Nat) (Q : List Nat) : Prop where
  len : M.length = k
  inc : M.Pairwise (· < ·)
  lt : ∀ x, x ∈ M → x < n
  le : ∀ x, x ∈ M → x ≤ a
  kinds : ∀ l, l ∈ L → (∃ j, j < n ∧ l = lkN j) ∨ ∃ j, j < k ∧ l = lkN (100 + j)
  sp : L = P ++ lkN a :: Q.map lkN
  met : ∀ j, j < n → lkN j ∈ P → j ∈ M
  am : a ∈ M
  qinc : (a :: Q).Pairwise (· < ·)
  qlt : ∀ x, x ∈ Q → x < n

section
variable {n k : Nat} {M : List Nat} {L : List Lk} {a : Nat}

theorem WPlain.start (n : Nat) (hn : 0 < n) : WPlain n 0 [] ((List.range' 0 n).map lkN) 0 true := by
  refine ⟨rfl, List.Pairwise.nil, by simp, ?_, ?_, by simp⟩
  · intro l hl
    obtain ⟨j, hj, rfl⟩ := List.mem_map.1 hl
    simp [List.mem_range'] at hj
    exact Or.inl ⟨j, by omega, rfl⟩
  · intro _
    refine ⟨hn, by simp, [], List.range' 1 (n - 1), ?_, by simp, ?_, ?_⟩
    · obtain ⟨m, rfl⟩ : ∃ m, n = m + 1 := ⟨n - 1, by omega⟩
      simp [List.range'_succ]
    · obtain ⟨m, rfl⟩ : ∃ m, n = m + 1 := ⟨n - 1, by omega⟩
      have := List.pairwise_lt_range' (s := 0) (n := m + 1)
      simpa [List.range'_succ] using this
    · intro x hx; simp [List.mem_range'] at hx; omega

theorem WPlain.k_le {t : Bool} (h : WPlain n k M L a t) : k ≤ n := h.len ▸ inc_le M h.inc h.lt

theorem WPlain.mid (h : WPlain n k M L a true) : ∃ P Q, WMid n (k + 1) (M ++ [a]) L P a Q := by
  obtain ⟨h1, h2, P, Q, h3, h4, h5, h6⟩ := h.on rfl
  refine ⟨P, Q, ⟨by simp [h.len], ?_, ?_, ?_, ?_, h3, ?_, by simp, h5, h6⟩⟩
  · rw [List.pairwise_append]; exact ⟨h.inc, by simp, fun x hx y hy => by simp at hy; subst hy; exact h2 x hx⟩
  · intro x hx; simp at hx; rcases hx with hx | rfl; exact h.lt x hx; exact h1
  · intro x hx; simp at hx; rcases hx with hx | rfl; exact Nat.le_of_lt (h2 x hx); exact Nat.le_refl _
  · intro l hl; exact (h.kinds l hl).imp id (fun ⟨j, hj, e⟩ => ⟨j, by omega, e⟩)
  · intro j hj hm; simp [h4 j hj hm]

theorem WMid.put {P : List Lk} {Q : List Nat} (h : WMid n k M L P a Q) (hk : 0 < k) (hn : n ≤ 20) : WMid n k M (lkN (100 + (k - 1)) :: L) (lkN (100 + (k - 1)) :: P) a Q := by
  refine ⟨h.len, h.inc, h.lt, h.le, ?_, by rw [h.sp]; rfl, ?_, h.am, h.qinc, h.qlt⟩
  · intro l hl
    rcases List.mem_cons.1 hl with rfl | hl
    · exact Or.inr ⟨k - 1, by omega, rfl⟩
    · exact h.kinds l hl
  · intro j hj hm
    rcases List.mem_cons.1 hm with e | hm
    · have := lkN_inj e; omega
    · exact h.met j hj hm

/-- A link is cut out that is not the one at which the walk stands. -/
theorem WMid.cut {P : List Lk} {Q : List Nat} (h : WMid n k M L P a Q) {L1 L2 : List Lk} {c : Nat} (hL : L = L1 ++ lkN c :: L2) (hc : c ≠ a) (hnd : L.Nodup) : ∃ P' Q', WMid n k M (L1 ++ L2) P' a Q' := by
  have hsub : ∀ l, l ∈ L1 ++ L2 → l ∈ L := by intro l hl; rw [hL]; simp at hl ⊢; rcases hl with hl | hl <;> simp [hl]
  have hk := fun l hl => h.kinds l (hsub l hl)
  have e : P ++ lkN a :: Q.map lkN = L1 ++ lkN c :: L2 := by rw [← h.sp, hL]
  rcases List.append_eq_append_iff.1 e with ⟨cs, e1, e2⟩ | ⟨bs, e1, e2⟩
  · -- c stands behind a
    cases cs with
    | nil =>
      simp at e2
      exact absurd (lkN_inj e2.1).symm hc
    | cons y cs =>
      simp at e2
      obtain ⟨rfl, e2⟩ := e2
      obtain ⟨Q1, Q2', eQ, e3, e4⟩ := List.map_eq_append_iff.1 e2
      obtain ⟨c', Q2, rfl, e5, e6⟩ := List.map_eq_cons_iff.1 e4
      refine ⟨P, Q1 ++ Q2, ⟨h.len, h.inc, h.lt, h.le, hk, ?_, h.met, h.am, ?_, ?_⟩⟩
      · rw [e1, ← e3, ← e6]; simp
      · refine h.qinc.sublist ?_
        rw [eQ]
        exact List.Sublist.cons_cons _ ((List.Sublist.refl _).append (List.sublist_cons_self _ _))
      · intro x hx; refine h.qlt x ?_; rw [eQ]; simp at hx ⊢; rcases hx with hx | hx <;> simp [hx]
  · cases bs with
    | nil =>
      simp at e2
      exact absurd (lkN_inj e2.1) hc
    | cons y bs =>
      simp at e2
      obtain ⟨rfl, e2⟩ := e2
      refine ⟨L1 ++ bs, Q, ⟨h.len, h.inc, h.lt, h.le, hk, ?_, ?_, h.am, h.qinc, h.qlt⟩⟩
      · rw [e2]; simp
      · intro j hj hm; refine h.met j hj ?_; rw [e1]; simp at hm ⊢; rcases hm with hm | hm <;> simp [hm]

theorem WMid.next {P : List Lk} {q : Nat} {Q : List Nat} (h : WMid n k M L P a (q :: Q)) : WPlain n k M L q true := by
  have hq := h.qinc
  simp only [List.pairwise_cons] at hq
  refine ⟨h.len, h.inc, h.lt, h.kinds, fun _ => ⟨h.qlt q (by simp), fun x hx => ?_, P ++ [lkN a], Q, ?_, ?_, ?_, fun x hx => h.qlt x (by simp [hx])⟩, by simp⟩
  · have := h.le x hx; have := hq.1 q (by simp); omega
  · rw [h.sp]; simp
  · intro j hj hm
    simp at hm
    rcases hm with hm | hm
    · exact h.met j hj hm
    · rw [lkN_inj hm]; exact h.am
  · exact List.pairwise_cons.2 hq.2

theorem WMid.last {P : List Lk} (h : WMid n k M L P a []) (a' : Nat) : WPlain n k M L a' false := by
  refine ⟨h.len, h.inc, h.lt, h.kinds, by simp, fun _ j hj hm => ?_⟩
  rw [h.sp] at hm
  simp at hm
  rcases hm with hm | hm
  · exact h.met j hj hm
  · rw [lkN_inj hm]; exact h.am
end
end Go.Proofs.Ytmhjdjndckeepaa
