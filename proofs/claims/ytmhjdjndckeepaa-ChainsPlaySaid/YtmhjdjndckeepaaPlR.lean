/- The document's chains (porterref19): the representation, and what reads it. -/
import Derived.Test.YtmhjdjndckeepaaChJ
import Derived.Test.YtmhjdjndckeepaaSees
import Derived.IntWalk
import Derived.Laws.StructEq
namespace Go.Proofs.Ytmhjdjndckeepaa
set_option linter.unusedVariables false
set_option linter.unusedSimpArgs false
open Go.RowKit

/-- A slice of links, of either type. -/
def ERow (e : TypeId) (w : World) (B : Nat) (v : Value) (ls : List Lk) : Prop := w.ownsRow B e 3 v ls.length (ls.flatMap lc3)

theorem ERow.keep {e : TypeId} {S : Nat → Prop} {w w' : World} {B : Nat} {v : Value} {ls : List Lk} (h : ERow e w B v ls) (hf : Fp S w w') (hs : ∀ g, v.ownBlock = some g → ¬ S g) : ERow e w' B v ls :=
  ownsRow_of_block h fun g hg => hf.block g (World.ownsRow.lt h g hg).2 (hs g hg)

theorem ERow.read {e : TypeId} {w : World} {B : Nat} {v : Value} {ls : List Lk} (h : ERow e w B v ls) :
    ∃ a cap, v = .slice a ls.length cap ∧ ls.length ≤ cap ∧ ∀ k (hk : k < ls.length), ∃ g, a = some ⟨g, 0, none⟩ ∧ g < w.heap.size ∧ w.cell? ⟨g, k * 3, none⟩ = some (.int .i64 ls[k].1) ∧ w.cell? ⟨g, k * 3 + 1, none⟩ = some (.int .u32 ls[k].2.1) ∧ w.cell? ⟨g, k * 3 + 2, none⟩ = some (.bool ls[k].2.2) := by
  have hc := h
  obtain ⟨hl, h2⟩ := h
  rcases h2 with ⟨rfl, h0⟩ | ⟨g, cap, cur, rfl, hg, hh, hcap, hcap2, hcs, htk⟩
  · exact ⟨none, 0, by rw [h0], by omega, fun k hk => by omega⟩
  · refine ⟨some ⟨g, 0, none⟩, cap, rfl, hcap, fun k hk => ⟨g, rfl, (Array.getElem?_eq_some_iff.1 hh).1, ?_⟩⟩
    have hkl : ls[k]? = some ls[k] := List.getElem?_eq_getElem hk
    generalize ls[k] = l at hkl
    have key : ∀ j, j < 3 → w.cell? ⟨g, k * 3 + j, none⟩ = (lc3 l)[j]? := by
      intro j hj
      have hfm : (ls.flatMap lc3)[k * 3 + j]? = (lc3 l)[j]? := by
        clear hc hl hh hcap hcap2 hcs htk hk
        induction ls generalizing k with
        | nil => simp at hkl
        | cons y ys ih =>
          cases k with
          | zero =>
            simp at hkl; subst hkl
            rw [List.flatMap_cons, List.getElem?_append_left (by simp [lc3]; omega)]; simp
          | succ k =>
            simp at hkl
            rw [List.flatMap_cons, List.getElem?_append_right (by simp [lc3]; omega)]
            have : (k + 1) * 3 + j - (lc3 y).length = k * 3 + j := by simp [lc3]; omega
            rw [this]; exact ih k hkl
      have hj2 : (lc3 l)[j]? = some ((lc3 l)[j]'(by simpa [lc3] using hj)) := List.getElem?_eq_getElem _
      rw [hj2] at hfm ⊢
      have := World.ownsRow.cells hc (g := g) rfl _ _ hfm
      have e : (⟨g, 0, none⟩ : Addr).add (k * 3 + j) = ⟨g, k * 3 + j, none⟩ := by unfold Addr.add; split <;> simp_all
      rwa [e] at this
    have k0 := key 0 (by omega)
    have k1 := key 1 (by omega)
    have k2 := key 2 (by omega)
    simp [lc3] at k0 k1 k2
    exact ⟨k0, k1, k2⟩

/-- The document's chains in memory. -/
structure RfRep (w : World) (B rb gb : Nat) (L : List (List Lk)) : Prop where
  ne : rb ≠ gb
  c0 : w.cell? ⟨rb, 0, none⟩ = some (.slice (some ⟨gb, 0, none⟩) L.length L.length)
  arr : ∃ arr : Array Value, w.heap[gb]? = some (.cells arr 59 (0, 0)) ∧ arr.size = L.length ∧
    ∀ (q : Nat) (ls : List Lk), L[q]? = some ls → ∃ v : Value, arr[q]? = some v ∧ ERow 53 w B v ls ∧ v.ownBlock ≠ some gb ∧ v.ownBlock ≠ some rb

section
variable {w w' : World} {B rb gb : Nat} {L : List (List Lk)}
theorem RfRep.row (h : RfRep w B rb gb L) {q : Nat} {ls : List Lk} (hq : L[q]? = some ls) :
    ∃ v, w.cell? ⟨gb, q, none⟩ = some v ∧ ERow 53 w B v ls := by
  obtain ⟨arr, h1, h2, h3⟩ := h.arr
  obtain ⟨v, e, hr, _⟩ := h3 q ls hq
  exact ⟨v, by simp [World.cell?, h1, e], hr⟩
theorem RfRep.ltr (h : RfRep w B rb gb L) : rb < w.heap.size := cell_lt h.c0
theorem RfRep.ltg (h : RfRep w B rb gb L) : gb < w.heap.size := by obtain ⟨arr, h1, _⟩ := h.arr; exact (Array.getElem?_eq_some_iff.1 h1).1

/-- The blocks of the document's chains. -/
def rfOwn (w : World) (rb gb g : Nat) : Prop := g = rb ∨ g = gb ∨ ∃ (arr : Array Value) (ty : TypeId) (q : Nat) (v : Value), w.heap[gb]? = some (.cells arr ty (0, 0)) ∧ arr[q]? = some v ∧ v.ownBlock = some g

theorem RfRep.fp {S : Nat → Prop} (h : RfRep w B rb gb L) (hf : Fp S w w') (hs : ∀ g, rfOwn w rb gb g → ¬ S g) : RfRep w' B rb gb L := by
  obtain ⟨arr, h1, h2, h3⟩ := h.arr
  refine ⟨h.ne, (hf.cell h.ltr (hs _ (.inl rfl))).trans h.c0, arr, (hf.block _ h.ltg (hs _ (.inr (.inl rfl)))).trans h1, h2, fun q ls hq => ?_⟩
  obtain ⟨v, e, hr, hn⟩ := h3 q ls hq
  exact ⟨v, e, hr.keep hf (fun g hg => hs g (.inr (.inr ⟨arr, _, q, v, h1, e, hg⟩))), hn⟩
theorem RfRep.low (h : RfRep w B rb gb L) (hf : NoW w w') : RfRep w' B rb gb L := h.fp hf fun _ _ => id

def WherePost (w : World) (L : List (List Lk)) (l : Lk) (e : Ending) (w' : World) : Prop :=
  NoW w w' ∧ ((∃ (n k : Nat) (row : List Lk), e = .returned (.tuple #[.int .i64 (n : Nat), .int .i64 (k : Nat)]) ∧ L[n]? = some row ∧ row[k]? = some l) ∨
    (e = .returned (.tuple #[.int .i64 (-1), .int .i64 (-1)]) ∧ ∀ row : List Lk, row ∈ L → l ∉ row))

theorem lk_cases (x0 l0 x1 l1 : Int) (x2 l2 : Bool) : (x0 = l0 ∧ x1 = l1 ∧ x2 = l2) ∨ (x0, x1, x2) ≠ (l0, l1, l2) ∧ ((x0 == l0) = false ∨ (x0 = l0 ∧ (x1 == l1) = false) ∨ (x0 = l0 ∧ x1 = l1 ∧ (x2 == l2) = false)) := by
  by_cases h0 : x0 = l0 <;> by_cases h1 : x1 = l1 <;> by_cases h2 : x2 = l2 <;> simp [h0, h1, h2]

theorem box_cells {w W : World} {a b c : Value} {ty : TypeId} (h : NoW (w.alloc (.cells #[a, b, c] ty)) W) :
    W.cell? ⟨w.heap.size, 0, none⟩ = some a ∧ W.cell? ⟨w.heap.size, 1, none⟩ = some b ∧ W.cell? ⟨w.heap.size, 2, none⟩ = some c := by
  have hn : (w.alloc (.cells #[a, b, c] ty)).heap[w.heap.size]? = some (.cells #[a, b, c] ty (0, 0)) := heap_alloc_new w _
  have hb := (h.block _ (Array.getElem?_eq_some_iff.1 hn).1 id).trans hn
  exact ⟨by simp [World.cell?, hb], by simp [World.cell?, hb], by simp [World.cell?, hb]⟩

set_option maxHeartbeats 4000000 in
theorem rf_where (h : RfRep w B rb gb L) (l : Lk) (h64 : L.length ≤ 64) (hlen : ∀ row, row ∈ L → row.length ≤ 100000) :
    Calls Try.prog 20 #[.pointer (some ⟨rb, 0, none⟩), lv l] w (WherePost w L l) := by
  have c0 := h.c0
  have lr := h.ltr
  have lg := h.ltg
  have H := Lib.hid h
  have Hlen := Lib.hid hlen
  clear h hlen
  obtain ⟨l0, l1, l2⟩ := l
  go_enter Try.func20, Try.ntmps20
  unfold lv
  go_wp2_with fail
  go_loopg [6] (L.length + 1) (fun g i wx => ∃ n : Nat, n ≤ L.length ∧ g = L.length + 1 - n ∧ i = .int .i64 n ∧ NoW (w.alloc (.cells #[.int .i64 l0, .int .u32 l1, .bool l2] 53)) wx ∧ ∀ q (row : List Lk), q < n → L[q]? = some row → (l0, l1, l2) ∉ row)
  case atStart => exact ⟨0, Nat.zero_le _, rfl, rfl, Fp.refl _ _, fun q row hq => by omega⟩
  case round =>
    obtain ⟨n, hn, hg, rfl, hf, hno⟩ := hrel
    have hw : NoW w wr := ((Fp.refl _ _).alloc _).trans hf (fun _ _ h => h)
    have d0 := (hw.cell (p := ⟨rb, 0, none⟩) lr id).trans c0
    have Hg := Lib.hid hg
    have Hno := Lib.hid hno
    have Hf := Lib.hid hf
    clear hg hno
    by_cases hlt : n < L.length
    · obtain ⟨row, hrow⟩ : ∃ row, L[n]? = some row := ⟨_, List.getElem?_eq_getElem hlt⟩
      have hr64 := Hlen.out row (List.mem_of_getElem? hrow)
      obtain ⟨v, hv, hvr⟩ := H.out.row hrow
      obtain ⟨a, cap, rfl, hcap, hrd⟩ := hvr.read
      have Hrd := Lib.hid hrd
      have Hrow := Lib.hid hrow
      clear hvr hrd hrow
      obtain ⟨wm, rfl⟩ : ∃ wm : World, wm = wr := ⟨_, rfl⟩
      go_wp2_with fail
      go_loopg [7] (row.length + 1) (fun g i wx => ∃ k : Nat, k ≤ row.length ∧ g = row.length + 1 - k ∧ i = .int .i64 k ∧ NoW wm wx ∧ ∀ q, q < k → row[q]? ≠ some (l0, l1, l2))
      case atStart => exact ⟨0, Nat.zero_le _, rfl, rfl, Fp.refl _ _, fun q hq => by omega⟩
      case round =>
        obtain ⟨k, hk, hg2, rfl, hf2, hnk⟩ := hrel
        have hw2 : NoW w wr := hw.trans hf2 (fun _ _ h => h)
        have e0 := (hw2.cell (p := ⟨rb, 0, none⟩) lr id).trans c0
        have ev := (hw2.cell (p := ⟨gb, n, none⟩) lg id).trans hv
        obtain ⟨b0, b1, b2⟩ := box_cells (hf.trans hf2 (fun _ _ h => h))
        have Hg2 := Lib.hid hg2
        have Hnk := Lib.hid hnk
        have Hw2 := Lib.hid hw2
        have Hf2 := Lib.hid hf2
        clear hg2 hnk d0 hf hf2 hw hw2 c0 hv
        by_cases hlt2 : k < row.length
        · obtain ⟨g, rfl, lgg, c0, c1, c2⟩ := Hrd.out k hlt2
          have f0 := (Hw2.out.cell (p := ⟨g, k * 3, none⟩) lgg id).trans c0
          have f1 := (Hw2.out.cell (p := ⟨g, k * 3 + 1, none⟩) lgg id).trans c1
          have f2 := (Hw2.out.cell (p := ⟨g, k * 3 + 2, none⟩) lgg id).trans c2
          obtain ⟨x, hx⟩ : ∃ x, row[k]? = some x := ⟨_, List.getElem?_eq_getElem hlt2⟩
          have hx2 : row[k] = x := by rw [List.getElem?_eq_getElem hlt2] at hx; exact Option.some.inj hx
          rw [hx2] at f0 f1 f2
          have Hx := Lib.hid hx
          clear c0 c1 c2 hx hx2
          obtain ⟨x0, x1, x2⟩ := x
          dsimp only at f0 f1 f2
          rcases lk_cases x0 l0 x1 l1 x2 l2 with ⟨rfl, rfl, rfl⟩ | ⟨hne, hd⟩
          · go_wp2_with fail
            go_quiet (fail)
            go_wp2_with fail
            refine bodyPost_ret (v := .tuple #[.int .i64 n, .int .i64 k]) (by simp [results, Try.results20, go_sem]) rfl ⟨Hw2.out.drewN _, .inl ⟨n, k, row, rfl, Hrow.out, Hx.out⟩⟩
          · have Hne := Lib.hid hne
            clear hne
            rcases hd with hd | ⟨rfl, hd⟩ | ⟨rfl, rfl, hd⟩
            · go_wp2_with fail
              go_quiet (fail)
              go_wp2_with fail
              go_roundg (row.length - k)
              case measure => have := Hg2.out; omega
              case rel =>
                refine ⟨k + 1, by omega, by omega, by go_num, Hf2.out.drewN _, fun q hq e => ?_⟩
                rcases Nat.lt_succ_iff_lt_or_eq.1 hq with hq | rfl
                · exact Hnk.out q hq e
                · rw [Hx.out] at e; exact Hne.out (Option.some.inj e)
            · go_wp2_with fail
              go_quiet (fail)
              go_wp2_with fail
              go_roundg (row.length - k)
              case measure => have := Hg2.out; omega
              case rel =>
                refine ⟨k + 1, by omega, by omega, by go_num, Hf2.out.drewN _, fun q hq e => ?_⟩
                rcases Nat.lt_succ_iff_lt_or_eq.1 hq with hq | rfl
                · exact Hnk.out q hq e
                · rw [Hx.out] at e; exact Hne.out (Option.some.inj e)
            · go_wp2_with fail
              go_quiet (fail)
              go_wp2_with fail
              go_roundg (row.length - k)
              case measure => have := Hg2.out; omega
              case rel =>
                refine ⟨k + 1, by omega, by omega, by go_num, Hf2.out.drewN _, fun q hq e => ?_⟩
                rcases Nat.lt_succ_iff_lt_or_eq.1 hq with hq | rfl
                · exact Hnk.out q hq e
                · rw [Hx.out] at e; exact Hne.out (Option.some.inj e)
        · obtain rfl : k = row.length := by omega
          go_wp2_with fail
          go_roundg (L.length - n)
          case measure => have := Hg.out; omega
          case rel =>
            refine ⟨n + 1, by omega, by omega, by go_num, Hf.out.trans Hf2.out (fun _ _ h => h), fun q row' hq hr hm => ?_⟩
            rcases Nat.lt_succ_iff_lt_or_eq.1 hq with hq | rfl
            · exact Hno.out q row' hq hr hm
            · rw [Hrow.out] at hr; cases hr
              obtain ⟨z, hz⟩ := List.mem_iff_getElem?.1 hm
              exact Hnk.out z (List.getElem?_eq_some_iff.1 hz).1 hz
    · obtain rfl : n = L.length := by omega
      go_wp2_with fail
      refine bodyPost_ret (v := .tuple #[.int .i64 (-1), .int .i64 (-1)]) (by simp [results, Try.results20, go_sem]) rfl ⟨hw, .inr ⟨rfl, fun row hr => ?_⟩⟩
      obtain ⟨q, hq⟩ := List.mem_iff_getElem?.1 hr
      exact Hno.out q row (List.getElem?_eq_some_iff.1 hq).1 hq
end
end Go.Proofs.Ytmhjdjndckeepaa
