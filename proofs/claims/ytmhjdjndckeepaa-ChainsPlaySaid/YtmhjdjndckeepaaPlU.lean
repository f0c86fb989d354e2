/- The document's chains: Cut. -/
import Derived.Test.YtmhjdjndckeepaaPlT
namespace Go.Proofs.Ytmhjdjndckeepaa
set_option linter.unusedVariables false
set_option linter.unusedSimpArgs false
open Go.RowKit

theorem lc3_len (ls : List Lk) : (ls.flatMap lc3).length = ls.length * 3 := by
  induction ls with
  | nil => rfl
  | cons x ls ih => simp [List.flatMap_cons, lc3, ih]; omega
theorem Src.low {w w' : World} {size : Nat} {u : Value} {m : Nat} {ys : List Value} (h : Src w size u m ys) (hf : NoW w w') : Src w' size u m ys := by
  obtain ⟨hl, h2⟩ := h
  refine ⟨hl, ?_⟩
  rcases h2 with h2 | ⟨ad, c, h2, h3⟩
  · exact .inl h2
  · exact .inr ⟨ad, c, h2, fun j x hj => by
      have := h3 j x hj
      exact (hf.cell (World.block_lt_of_cell? w _ this) id).trans this⟩

theorem ERow.addr {e : TypeId} {w : World} {B : Nat} {ls : List Lk} {g n cap : Nat} (h : ERow e w B (.slice (some ⟨g, 0, none⟩) n cap) ls) (j : Nat) (x : Value) (hj : (ls.flatMap lc3)[j]? = some x) : w.cell? ⟨g, j, none⟩ = some x := by
  have := World.ownsRow.cells h rfl j x hj
  have e : (⟨g, 0, none⟩ : Addr).add j = ⟨g, j, none⟩ := by unfold Addr.add; split <;> simp_all
  rwa [e] at this

theorem ERow.src_take {e : TypeId} {w : World} {B : Nat} {ls : List Lk} {g n cap : Nat} (h : ERow e w B (.slice (some ⟨g, 0, none⟩) n cap) ls) {k : Nat} (hk : k ≤ ls.length) (c : Nat) :
    Src w 3 (.slice (some ⟨g, 0, none⟩) k c) k ((ls.take k).flatMap lc3) := by
  refine ⟨by rw [lc3_len, List.length_take]; omega, .inr ⟨_, c, rfl, fun j x hj => ?_⟩⟩
  have e : (⟨g, 0, none⟩ : Addr).add j = ⟨g, j, none⟩ := by unfold Addr.add; split <;> simp_all
  rw [e]
  refine h.addr j x ?_
  rw [← List.take_append_drop k ls, List.flatMap_append, List.getElem?_append_left (List.getElem?_eq_some_iff.1 hj).1]
  exact hj

theorem ERow.src_drop {e : TypeId} {w : World} {B : Nat} {ls : List Lk} {g n cap : Nat} (h : ERow e w B (.slice (some ⟨g, 0, none⟩) n cap) ls) {k : Nat} (hk : k ≤ ls.length) (c : Nat) {A : Addr} (hA : A = ⟨g, k * 3, none⟩ ∨ k = ls.length) :
    Src w 3 (.slice (some A) (ls.length - k) c) (ls.length - k) ((ls.drop k).flatMap lc3) := by
  refine ⟨by rw [lc3_len, List.length_drop], .inr ⟨_, c, rfl, fun j x hj => ?_⟩⟩
  rcases hA with rfl | rfl
  · have e : (⟨g, k * 3, none⟩ : Addr).add j = ⟨g, k * 3 + j, none⟩ := by unfold Addr.add; split <;> simp_all
    rw [e]
    refine h.addr (k * 3 + j) x ?_
    have hl : ((ls.take k).flatMap lc3).length = k * 3 := by rw [lc3_len, List.length_take]; congr 1; omega
    rw [← List.take_append_drop k ls, List.flatMap_append, List.getElem?_append_right (by omega), hl, Nat.add_sub_cancel_left]
    exact hj
  · simp at hj

theorem ERow.ofCut {w : World} {B B' : Nat} {e : TypeId} {v : Value} {row : List Lk} {k : Nat} (hk : k + 1 ≤ row.length) (h : w.ownsRow B e 3 v (0 + k + (row.length - (k + 1))) (([] ++ (row.take k).flatMap lc3) ++ (row.drop (k + 1)).flatMap lc3)) (hB : B' ≤ B) : ERow e w B' v (row.take k ++ row.drop (k + 1)) := by
  refine ownsRow_mono (B := B) ?_ hB
  rw [List.flatMap_append, List.length_append, List.length_take, List.length_drop]
  rw [show min k row.length = 0 + k by omega]
  exact h

section
variable {w w' : World} {B rb gb : Nat} {L : List (List Lk)}
def RfCut (w : World) (B rb gb : Nat) (L : List (List Lk)) (l : Lk) (e : Ending) (w' : World) : Prop :=
  (e = .returned (.int .i64 6) ∧ NoW w w' ∧ ∀ row, row ∈ L → l ∉ row) ∨
  (e = .returned (.int .i64 0) ∧ ∃ (n k : Nat) (row : List Lk), L[n]? = some row ∧ row[k]? = some l ∧ RfStep w B rb gb (L.set n (row.take k ++ row.drop (k + 1))) w')

set_option maxHeartbeats 4000000 in
theorem rf_cut (h : RfRep w B rb gb L) (hB : B ≤ w.heap.size) (l : Lk) (h64 : L.length ≤ 64) (hlen : ∀ row, row ∈ L → row.length ≤ 100000) :
    Calls Try.prog 29 #[.pointer (some ⟨rb, 0, none⟩), lv l] w (RfCut w B rb gb L l) := by
  have H := Lib.hid h
  have Hlen := Lib.hid hlen
  have c0 := h.c0
  have lr := h.ltr
  have lg := h.ltg
  clear h hlen
  obtain ⟨l0, l1, l2⟩ := l
  go_enter Try.func29, Try.ntmps29
  unfold lv
  go_wp2_with fail
  have hpre : NoW w (w.alloc (.cells #[.int .i64 l0, .int .u32 l1, .bool l2] 53)) := (Fp.refl _ _).alloc _
  have Hpre := Lib.hid hpre
  clear hpre
  refine (rf_where (H.out.low Hpre.out) (l0, l1, l2) h64 Hlen.out).mono ?_
  rintro e w3 ⟨hf, hpost⟩
  have hw : NoW w w3 := Hpre.out.trans hf (fun _ _ h => h)
  have Hw := Lib.hid hw
  clear hf hw
  rcases hpost with ⟨n, k, row, rfl, hm, hk⟩ | ⟨rfl, hno⟩
  · have hn : n < L.length := (List.getElem?_eq_some_iff.1 hm).1
    have hkl : k < row.length := (List.getElem?_eq_some_iff.1 hk).1
    have hr64 := Hlen.out row (List.mem_of_getElem? hm)
    obtain ⟨v, hv, hvr⟩ := (H.out.low Hw.out).row hm
    have d0 := (H.out.low Hw.out).c0
    obtain ⟨a, cap, rfl, hcap, hrd⟩ := hvr.read
    obtain ⟨g, rfl, lgg, _, _, _⟩ := hrd k hkl
    have hvz : w3.frozen? ⟨gb, n, none⟩ = false := (H.out.low Hw.out).thaw n
    have lw3 : w.heap.size ≤ w3.heap.size := Hw.out.size
    have lr3 : rb < w3.heap.size := cell_lt d0
    have lg3 : gb < w3.heap.size := cell_lt hv
    have hsum : IntKind.i64.wrap ((k : Int) + 1) = (k : Int) + 1 := IntWalk.i64_in _ (by omega)
    have Hvr := Lib.hid hvr
    have Hm := Lib.hid hm
    have Hk := Lib.hid hk
    clear hvr hm hk hrd c0
    obtain ⟨A, hA, hA2⟩ : ∃ A : Addr, (if cap = k + 1 then (some ⟨g, 0, none⟩ : Option Addr) else some ⟨g, (k + 1) * 3, none⟩) = some A ∧ (A = ⟨g, (k + 1) * 3, none⟩ ∨ k + 1 = row.length) := by
      by_cases e : cap = k + 1
      · exact ⟨_, by rw [if_pos e], .inr (by omega)⟩
      · exact ⟨_, by rw [if_neg e], .inl rfl⟩
    have HA2 := Lib.hid hA2
    clear hA2
    have hkc : k ≤ cap := by omega
    have hkr : k ≤ row.length := by omega
    have hkc1 : k + 1 ≤ cap := by omega
    have hkr1 : k + 1 ≤ row.length := by omega
    have hk0 : (0 : Int) ≤ (k : Int) + 1 ∧ (k : Int) + 1 ≤ (row.length : Int) := by omega
    have hkt : ((k : Int) + 1).toNat = k + 1 := by omega
    go_upto_region 4 with (fail)
    go_region_law (first | (refine step_appendR rfl (.tmp 29) (.tmp 39) 59 rfl w3.heap.size 53 (lv lk0) 3 Try.underlying59 infoRLink rfl (by decide) (.slice a1 (0 + k) c1) (0 + k) _ (by simp [Act.eval, Act.put]) Hown.out (.slice (some A) (row.length - (k + 1)) (cap - (k + 1))) (row.length - (k + 1)) ((row.drop (k + 1)).flatMap lc3) (by simp [Act.eval, Act.put]) (Src.low (Hvr.out.src_drop hkr1 _ HA2.out) Hp4.out) (one_lc3 _) (by omega) Hp4.out.size ?_; intro v2 w5 hown5 hgr5 _ _; obtain ⟨a5, c5, rfl⟩ := own_slice hown5; have hp5 : NoW w3 w5 := Fp.grown Hp4.out hgr5 (fun q e => Or.inl (World.ownsRow.lt Hown.out q e).1); have hr5 := Lib.hid (ERow.ofCut hkr1 hown5 lw3); clear hown5; have s0 := (hp5.cell (p := ⟨rb, 0, none⟩) lr3 id).trans d0; have s1 := (hp5.cell (p := ⟨gb, n, none⟩) lg3 id).trans hv; have s2 := (hp5.frozen (p := ⟨gb, n, none⟩) lg3 id).trans hvz; have Hp5 := Lib.hid hp5; clear hp5 hgr5) | (refine step_appendR rfl (.const (.slice none 0 0)) (.tmp 28) 59 rfl w3.heap.size 53 (lv lk0) 3 Try.underlying59 infoRLink rfl (by decide) (.slice none 0 0) 0 [] (by simp [Act.eval, Act.put]) (World.ownsRow_nil _ _ _ 3) (.slice (some ⟨g, 0, none⟩) k cap) k ((row.take k).flatMap lc3) (by simp [Act.eval, Act.put]) (Src.drew (Hvr.out.src_take hkr cap)) (one_lc3 _) (by omega) (by simp) ?_; intro v1 w4 hown hgr _ _; obtain ⟨a1, c1, rfl⟩ := own_slice hown; have hp4 : NoW w3 w4 := Fp.grown (Fp.drew (Fp.refl _ _)) hgr (fun k e => by simp [Value.ownBlock] at e); have Hown := Lib.hid hown; clear hown; have q0 := (hp4.cell (p := ⟨rb, 0, none⟩) lr3 id).trans d0; have q1 := (hp4.cell (p := ⟨gb, n, none⟩) lg3 id).trans hv; have Hp4 := Lib.hid hp4; clear hp4 hgr))
    all_goals go_wp2_with fail
    all_goals go_ret
    all_goals exact .inr ⟨rfl, n, k, row, Hm.out, Hk.out, by have h5 := hr5.out; rw [Nat.zero_add] at h5; exact H.out.step (Hw.out.trans Hp5.out (fun _ _ h => h)) hn h5 hB⟩
  · have Hno := Lib.hid hno
    clear hno
    go_wp2_with fail
    go_ret
    exact .inl ⟨rfl, Hw.out, Hno.out⟩
end
end Go.Proofs.Ytmhjdjndckeepaa
