/- List: the walk. -/
import Derived.Test.YtmhjdjndckeepaaChN
namespace Go.Proofs.Ytmhjdjndckeepaa
set_option linter.unusedVariables false
set_option linter.unusedSimpArgs false
open Go.RowKit
open Go.ChangeMaps (setBlock)
open Go.WideMaps (KeyLaw)

def lc3 (l : Lk) : List Value := [.int .i64 l.1, .int .u32 l.2.1, .bool l.2.2]
def lz : Value := .agg #[.int .i64 0, .int .u32 0, .bool false]
theorem infoLk : ∃ i, Try.prog.info? 33 = some i ∧ i.zero = some lz ∧ i.size = 3 ∧ i.bytes ≤ 65536 := by
  have h : ((Try.prog.info? 33).map fun i => (i.zero, i.size, decide (i.bytes ≤ 65536))) = some (some lz, 3, true) := by kernel_rfl
  rcases hi : Try.prog.info? 33 with _ | i
  · simp [hi] at h
  · simp [hi] at h
    exact ⟨i, rfl, h.1, h.2.1, h.2.2⟩

/-- A slice of links of the call's own. -/
def LkRow (w : World) (B : Nat) (v : Value) (ls : List Lk) : Prop := w.ownsRow B 33 3 v ls.length (ls.flatMap lc3)

theorem LkRow.nil (w : World) (B : Nat) : LkRow w B (.slice none 0 0) [] := World.ownsRow_nil w B _ 3

structure LsInv (w : World) (bc bf bm : Nat) (σ : List Row) (r : Row) (k : Nat) (v : Value) (bl : Nat) (wr : World) : Prop where
  rep : ChRep wr bc bf bm σ
  fp : NoW w wr
  own : LkRow wr w.heap.size v ((r.take k).map Prod.snd)
  le : w.heap.size ≤ bl
  box : wr.heap[bl]? = some (.cells (lc3 (hdl (r.drop k)).1).toArray 33 (0, 0))
  ne : v.ownBlock ≠ some bl
  nil : v = .slice none 0 0 ↔ k = 0

section
variable {w : World} {bc bf bm : Nat} {σ : List Row}

def ListPost (w : World) (ls : List Lk) (e : Ending) (w' : World) : Prop := ∃ v, e = .returned v ∧ LkRow w' w.heap.size v ls ∧ NoW w w' ∧ (v = .slice none 0 0 ↔ ls = [])

set_option maxHeartbeats 1000000 in
theorem list_ok (h : ChRep w bc bf bm σ) {i : Nat} {r : Row} (hi : σ[i]? = some r) (hlen : r.length ≤ 100000) :
    Calls Try.prog 15 #[.pointer (some ⟨bc, 0, none⟩), .int .i64 i] w (ListPost w (r.map Prod.snd)) := by
  go_enter Try.func15, Try.ntmps15
  go_wp2_with fail
  refine (first_ok h hi).mono ?_
  rintro e w1 ⟨rfl, hb⟩
  have Hl := Lib.hid hlen
  clear hlen
  obtain ⟨⟨l, t⟩, hlt⟩ : ∃ y, y = hdl r := ⟨_, rfl⟩
  rw [← hlt]
  have Hlt := Lib.hid hlt
  clear hlt
  unfold lv
  go_wp2_with fail
  go_loopg [5, 6, 7] (r.length + 1) (fun g v p tk wr => ∃ k bl v', v' = v ∧ k ≤ r.length ∧ g = r.length + 1 - k ∧ p = .pointer (some ⟨bl, 0, none⟩) ∧ tk = .bool (hdl (r.drop k)).2 ∧ LsInv w bc bf bm σ r k v' bl wr)
  case atStart =>
    refine ⟨0, w1.heap.size, _, rfl, Nat.zero_le _, rfl, rfl, by rw [List.drop_zero, ← Hlt.out], ?_⟩
    have h1 := h.fp hb (fun _ _ => id)
    refine ⟨h1.alloc _, hb.alloc _, LkRow.nil _ _, hb.size, ?_, by simp [Value.ownBlock], by simp⟩
    rw [List.drop_zero, ← Hlt.out]
    exact heap_new _ _ _ rfl
  case round =>
    obtain ⟨k, bl, v', rfl, hk, hg, rfl, rfl, hinv⟩ := hrel
    obtain ⟨hrep, hfp, hown, hble, hbox, hne, hnil⟩ := hinv
    have Hnil := Lib.hid hnil
    have Hg := Lib.hid hg
    clear hnil hg
    by_cases hlt : k < r.length
    · obtain ⟨x, hx⟩ : ∃ x, x = r[k] := ⟨_, rfl⟩
      have hd : r.drop k = x :: r.drop (k + 1) := by rw [hx]; exact List.drop_eq_getElem_cons hlt
      have htk : r.take (k + 1) = r.take k ++ [x] := by rw [hx]; exact List.take_succ_eq_append_getElem hlt
      have hi2 : σ[i]? = some (r.take k ++ x :: r.drop (k + 1)) := by rw [← hd, List.take_append_drop]; exact hi
      rw [hd] at hbox ⊢
      have lbl : bl < wr.heap.size := (Array.getElem?_eq_some_iff.1 hbox).1
      have e0 : wr.cell? ⟨bl, 0, none⟩ = some (.int .i64 x.2.1) := by simp [World.cell?, hbox, lc3, hdl]
      have e1 : wr.cell? ⟨bl, 1, none⟩ = some (.int .u32 x.2.2.1) := by simp [World.cell?, hbox, lc3, hdl]
      have e2 : wr.cell? ⟨bl, 2, none⟩ = some (.bool x.2.2.2) := by simp [World.cell?, hbox, lc3, hdl]
      have Hd := Lib.hid hd
      have Htk := Lib.hid htk
      have Hx := Lib.hid hx
      have Hlt2 := Lib.hid hlt
      clear hd htk hx
      simp only [hdl]
      go_wp2_with (at_builtin; go_must (refine wp_append1 rfl _ _ 35 rfl w.heap.size 33 lz 3 Try.underlying35 infoLk rfl (by decide) v' ((r.take k).map Prod.snd).length (((r.take k).map Prod.snd).flatMap lc3) rfl (World.ownsRow.alloc hown _) wr.heap.size (lc3 x.2) rfl rfl (heap_new _ _ _ rfl) ?_ ?_ ?_ ?_))
      · intro u hu; simp [lc3] at hu; rcases hu with rfl | rfl | rfl <;> rfl
      · have := Hl.out; simp; omega
      · have := hfp.size; simp; omega
      intro v2 w2 hown2 hgrow hne2 _
      have hlt3 := hown.lt
      have hfp2 : NoW w w2 := (hfp.alloc _).grown hgrow (fun g e => Or.inl (hlt3 g e).1)
      have hrep2 : ChRep w2 bc bf bm σ := h.fp hfp2 (fun _ _ => id)
      have hbl2 : w2.heap[bl]? = wr.heap[bl]? := by
        rw [hgrow.block bl (by simp; omega) (fun e => hne e.symm), Below.heap_alloc _ _ _ lbl]
      have lbl2 : bl < w2.heap.size := by have := hgrow.size; simp at this; omega
      have f0 : w2.cell? ⟨bl, 0, none⟩ = some (.int .i64 x.2.1) := (World.cell?_of_block (a := ⟨bl, 0, none⟩) hbl2).trans e0
      have f1 : w2.cell? ⟨bl, 1, none⟩ = some (.int .u32 x.2.2.1) := (World.cell?_of_block (a := ⟨bl, 1, none⟩) hbl2).trans e1
      have f2 : w2.cell? ⟨bl, 2, none⟩ = some (.bool x.2.2.2) := (World.cell?_of_block (a := ⟨bl, 2, none⟩) hbl2).trans e2
      have Hne2 := Lib.hid hne2
      have Hbl2 := Lib.hid hbl2
      clear hne2 hbl2 e0 e1 e2
      go_wp2_with fail
      refine (next_ok (x := x) (hrep2.alloc _) hi2).mono ?_
      rintro e w3 ⟨rfl, hb3⟩
      obtain ⟨hc, hf, hz⟩ := hb3.bcell
      obtain ⟨⟨l', t'⟩, hlt'⟩ : ∃ y, y = hdl (r.drop (k + 1)) := ⟨_, rfl⟩
      rw [← hlt']
      have Hlt' := Lib.hid hlt'
      clear hlt'
      have k0 : w3.cell? ⟨w2.heap.size, 0, none⟩ = some (.int .i64 x.2.1) := by rw [hc _ _ (by simp)]; simp
      have k1 : w3.cell? ⟨w2.heap.size, 1, none⟩ = some (.int .u32 x.2.2.1) := by rw [hc _ _ (by simp)]; simp
      have k2 : w3.cell? ⟨w2.heap.size, 2, none⟩ = some (.bool x.2.2.2) := by rw [hc _ _ (by simp)]; simp
      have kz : ∀ o, w3.frozen? ⟨w2.heap.size, o, none⟩ = false := fun o => by rw [hf _ _ (by simp)]; simp
      clear hc hf
      unfold lv
      go_wp2_with fail
      go_roundg (r.length - k)
      case measure => have := Hg.out; omega
      case rel =>
        refine ⟨k + 1, w2.heap.size, _, rfl, by omega, by omega, rfl, by rw [← Hlt'.out], ?_⟩
        have hfp4 : NoW w (((w3.setCell ⟨w2.heap.size, 0, none⟩ (.int .i64 l'.1)).setCell ⟨w2.heap.size, 1, none⟩ (.int .u32 l'.2.1)).setCell ⟨w2.heap.size, 2, none⟩ (.bool l'.2.2)) :=
          ((((hfp2.alloc _).trans hb3 (fun _ _ h => h)).setCell (Or.inl (by exact hfp2.size)) _).setCell (Or.inl (by exact hfp2.size)) _).setCell (Or.inl (by exact hfp2.size)) _
        have hlt4 := hown2.lt
        refine ⟨h.fp hfp4 (fun _ _ => id), hfp4, ?_, hfp2.size, ?_, fun e => ?_, ?_⟩
        · unfold LkRow
          rw [Htk.out]
          have : (((r.take k ++ [x]).map Prod.snd).length) = ((r.take k).map Prod.snd).length + 1 := by simp
          rw [this, List.map_append, List.flatMap_append]
          have e5 : (([x] : Row).map Prod.snd).flatMap lc3 = lc3 x.2 := by simp
          have e6 : ((r.take k).map Prod.snd).length = k := by simp; omega
          rw [e5, e6, List.map_take]
          refine ownsRow_of_block hown2 (fun g hg => ?_)
          have hg := (hlt4 g hg).2
          rw [Below.heap_setCell _ _ _ _ (by simp; omega), Below.heap_setCell _ _ _ _ (by simp; omega), Below.heap_setCell _ _ _ _ (by simp; omega), hb3.block g (by simp; omega) id, Below.heap_alloc _ _ _ hg]
        · have b3 : w3.heap[w2.heap.size]? = some (.cells #[.int .i64 x.2.1, .int .u32 x.2.2.1, .bool x.2.2.2] 33 (0, 0)) := by
            rw [hb3.block _ (by simp) id]; exact heap_new _ _ _ rfl
          have := heap_set _ _ 2 _ _ (.bool l'.2.2) (heap_set _ _ 1 _ _ (.int .u32 l'.2.1) (heap_set _ _ 0 _ _ (.int .i64 l'.1) b3))
          rw [← Hlt'.out]
          exact this
        · have := (hlt4 _ e).2; omega
        · exact ⟨fun e => absurd e Hne2.out, fun e => by omega⟩
    · obtain rfl : k = r.length := by omega
      have hd : r.drop r.length = [] := List.drop_length
      rw [hd]
      simp only [hdl]
      go_wp2_with fail
      go_ret
      refine ⟨v', rfl, ?_, hfp, ?_⟩
      · rw [List.take_length] at hown; exact hown
      · refine Hnil.out.trans ?_
        simp
end
end Go.Proofs.Ytmhjdjndckeepaa
