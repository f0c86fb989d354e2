/- ChainsNone: the walk. -/
import Derived.Test.YtmhjdjndckeepaaChJ
import Derived.Test.YtmhjdjndckeepaaSees
namespace Go.Proofs.Ytmhjdjndckeepaa
set_option linter.unusedVariables false
set_option linter.unusedSimpArgs false
open Go.RowKit

theorem lk_sees {w : World} {n : Nat} {cs : List Value} (h : Sees Try.prog w n 33 cs) : ∃ l : Lk, cs = [.int .i64 l.1, .int .u32 l.2.1, .bool l.2.2] ∧ Lok l := by
  have c1 : Try.prog.cellsOf 33 = 3 := by kernel_rfl
  have c3 : Try.prog.cellsOf 31 = 2 := by kernel_rfl
  have c4 : Try.prog.cellsOf 3 = 1 := by kernel_rfl
  have c5 : Try.prog.cellsOf 29 = 1 := by kernel_rfl
  have c6 : Try.prog.cellsOf 4 = 1 := by kernel_rfl
  obtain ⟨hl, m, hs⟩ := sees_struct Try.underlying33 h
  rw [c1] at hl
  match cs, hl with
  | [x0, x1, x2], _ =>
    simp only [List.forall_mem_cons, c3, c6, List.drop_zero, List.drop_succ_cons, List.take_succ_cons, List.take_zero, List.take_nil] at hs
    obtain ⟨h0, h1, _⟩ := hs
    obtain ⟨b, e2⟩ := sees_bool Try.underlying4 h1
    obtain ⟨_, m', hs⟩ := sees_struct Try.underlying31 h0
    simp only [List.forall_mem_cons, c4, c5, List.drop_zero, List.drop_succ_cons, List.take_succ_cons, List.take_zero, List.take_nil] at hs
    obtain ⟨h0, h1, _⟩ := hs
    obtain ⟨s, e0, w0⟩ := sees_int Try.underlying3 h0
    obtain ⟨g, e1, w1⟩ := sees_int Try.underlying29 h1
    simp at e0 e1 e2
    exact ⟨(s, g, b), by rw [e0, e1, e2], w0, w1⟩

theorem act_sees {w : World} {n : Nat} {cs : List Value} (h : Sees Try.prog w n 50 cs) :
    ∃ (k c s : Int) (b : Bool) (at_ : Int) (l : Lk), cs = [.int .u8 k, .int .u8 c, .int .u8 s, .bool b, .int .i64 at_, .int .i64 l.1, .int .u32 l.2.1, .bool l.2.2] ∧
      (Lit.int .u8 k).wf = true ∧ (Lit.int .u8 c).wf = true ∧ (Lit.int .u8 s).wf = true ∧ (Lit.int .i64 at_).wf = true ∧ Lok l := by
  have c1 : Try.prog.cellsOf 50 = 8 := by kernel_rfl
  have c2 : Try.prog.cellsOf 33 = 3 := by kernel_rfl
  have c4 : Try.prog.cellsOf 3 = 1 := by kernel_rfl
  have c6 : Try.prog.cellsOf 4 = 1 := by kernel_rfl
  have c7 : Try.prog.cellsOf 5 = 1 := by kernel_rfl
  obtain ⟨hl, m, hs⟩ := sees_struct Try.underlying50 h
  rw [c1] at hl
  match cs, hl with
  | [x0, x1, x2, x3, x4, x5, x6, x7], _ =>
    simp only [List.forall_mem_cons, c2, c4, c6, c7, List.drop_zero, List.drop_succ_cons, List.take_succ_cons, List.take_zero, List.take_nil] at hs
    obtain ⟨h0, h1, h2, h3, h4, h5, _⟩ := hs
    obtain ⟨k, e0, w0⟩ := sees_int Try.underlying5 h0
    obtain ⟨c, e1, w1⟩ := sees_int Try.underlying5 h1
    obtain ⟨s, e2, w2⟩ := sees_int Try.underlying5 h2
    obtain ⟨b, e3⟩ := sees_bool Try.underlying4 h3
    obtain ⟨a, e4, w4⟩ := sees_int Try.underlying3 h4
    obtain ⟨l, e5, w5⟩ := lk_sees h5
    simp at e0 e1 e2 e3 e4 e5
    exact ⟨k, c, s, b, a, l, by rw [e0, e1, e2, e3, e4, e5.1, e5.2.1, e5.2.2], w0, w1, w2, w4, w5⟩

theorem act_open {w : World} {v : Value} (h : Good Try.prog w 50 v) :
    ∃ (k c s : Int) (b : Bool) (at_ : Int) (l : Lk), v = .agg #[.int .u8 k, .int .u8 c, .int .u8 s, .bool b, .int .i64 at_, .int .i64 l.1, .int .u32 l.2.1, .bool l.2.2] ∧
      (Lit.int .u8 k).wf = true ∧ (Lit.int .u8 c).wf = true ∧ (Lit.int .u8 s).wf = true ∧ (Lit.int .i64 at_).wf = true ∧ Lok l := by
  obtain ⟨cs, n, rfl, hs⟩ := good_struct Try.underlying50 h
  obtain ⟨k, c, s, b, a, l, e, r⟩ := act_sees hs
  refine ⟨k, c, s, b, a, l, ?_, r⟩
  cases cs
  simp at e
  rw [e]

def NoneInv (w : World) (wr : World) (b : Nat) (k c s : Int) (b' : Bool) (at_ : Int) (l : Lk) : Prop :=
  wr.heap[b]? = some (.cells #[.int .u8 k, .int .u8 c, .int .u8 s, .bool b', .int .i64 at_, .int .i64 l.1, .int .u32 l.2.1, .bool l.2.2] 50 (0, 0)) ∧ NoW w wr

/-- Chains that are none. -/
def IsNone (w : World) (p : Value) : Prop := p = .pointer none ∨ ∃ b, p = .pointer (some ⟨b, 0, none⟩) ∧ w.cell? ⟨b, 0, none⟩ = some (.slice none 0 0) ∧ w.cell? ⟨b, 1, none⟩ = some (.map none)

theorem IsNone.keep {w w' : World} {p : Value} (h : IsNone w p) (hf : NoW w w') : IsNone w' p := by
  rcases h with h | ⟨b, e, h0, h1⟩
  · exact Or.inl h
  · exact Or.inr ⟨b, e, (hf.cell (p := ⟨b, 0, none⟩) (cell_lt h0) id).trans h0, (hf.cell (p := ⟨b, 1, none⟩) (cell_lt h1) id).trans h1⟩

section
variable {w : World} {p : Value}
theorem none_first (h : IsNone w p) (x : Int) : Calls Try.prog 11 #[p, .int .i64 x] w (Ret1 (.tuple #[lv lk0, .bool false]) w) := by
  rcases h with rfl | ⟨b, rfl, h0, h1⟩
  · exact first_nil x
  · exact first_empty b x _ _ h0
theorem none_next (h : IsNone w p) (l : Lk) : Calls Try.prog 13 #[p, lv l] w (Ret1 (.tuple #[lv lk0, .bool false, .int .i64 1]) w) := by
  rcases h with rfl | ⟨b, rfl, h0, h1⟩
  · exact next_nil l
  · exact next_empty l b _ _ h0
theorem none_where (h : IsNone w p) (l : Lk) : Calls Try.prog 14 #[p, lv l] w (Ret1 (.tuple #[.int .i64 0, .bool false]) w) := by
  rcases h with rfl | ⟨b, rfl, h0, h1⟩
  · exact where_nil l
  · exact where_empty l b _ _ h0
theorem none_put (h : IsNone w p) (x : Int) (l : Lk) : Calls Try.prog 9 #[p, .int .i64 x, lv l] w (Ret1 (.int .i64 1) w) := by
  rcases h with rfl | ⟨b, rfl, h0, h1⟩
  · exact put_nil x l
  · exact put_empty x l b _ _ h0
theorem none_cut (h : IsNone w p) (l : Lk) : Calls Try.prog 12 #[p, lv l] w (Ret1 (.int .i64 1) w) := by
  rcases h with rfl | ⟨b, rfl, h0, h1⟩
  · exact cut_nil l
  · exact cut_empty l b _ _ h0
theorem none_list0 (h : IsNone w p) (x : Int) : Calls Try.prog 15 #[p, .int .i64 x] w (ListPost w []) := list_none _ _ (none_first h x)
theorem ret_nil {e : Ending} {w' : World} (h : ListPost w [] e w') : Ret1 (.slice none 0 0) w e w' := by
  obtain ⟨v, rfl, _, hf, hv⟩ := h
  exact ⟨by rw [hv.2 rfl], hf⟩
theorem none_list (h : IsNone w p) (x : Int) : Calls Try.prog 15 #[p, .int .i64 x] w (Ret1 (.slice none 0 0) w) := (none_list0 h x).mono fun _ _ => ret_nil
theorem none_all (h : IsNone w p) (x y : Int) (g : Nat) (hg : w.heap[g]? = some (.cells #[.int .i64 x, .int .i64 y] 3 (0, 0))) : Calls Try.prog 25 #[p, .slice (some ⟨g, 0, none⟩) 2 2] w (Ret1 (.slice none 0 0) w) := by
  refine (all_any p (fun _ => []) (fun W hW x => none_list0 (h.keep hW) x) [x, y] _ 0 ?_ (by simp) (by simp)).mono fun _ _ h => ret_nil (by simpa using h)
  exact ⟨by simp, Or.inr ⟨g, 2, _, rfl, Nat.zero_le _, hg, Nat.le_refl _, by decide, rfl, rfl⟩⟩
theorem none_count (h : IsNone w p) : Calls Try.prog 24 #[p] w (Ret1 (.int .i64 0) w) := by
  rcases h with rfl | ⟨b, rfl, h0, h1⟩
  · exact count_nil.mono fun _ _ ⟨h, e⟩ => ⟨h, e ▸ Fp.refl _ _⟩
  · exact (count_empty b h1).mono fun _ _ ⟨h, e⟩ => ⟨h, e ▸ Fp.refl _ _⟩
theorem none_size (h : IsNone w p) : Calls Try.prog 23 #[p] w (Ret1 (.int .i64 0) w) := by
  rcases h with rfl | ⟨b, rfl, h0, h1⟩
  · exact (size_nil w).mono fun _ _ ⟨h, e⟩ => ⟨h, e ▸ Fp.refl _ _⟩
  · exact (size_ptr b _ _ _ w h0).mono fun _ _ ⟨h, e⟩ => ⟨h, e ▸ Fp.refl _ _⟩
end

set_option maxRecDepth 100000 in
set_option maxHeartbeats 4000000 in
theorem walk_ChainsNone (w : World) (v0 : Value) (g0 : Good Try.prog w 50 v0) : Calls Try.prog 5 #[v0] w (Ret1 (.bool true) w) := by
  obtain ⟨k, c, s, b, at_, l, rfl, _, _, _, _, hl⟩ := act_open g0
  clear g0
  go_enter Try.func5, Try.ntmps5
  go_wp2_with fail
  go_loopg [3, 4] 3 (fun g p i wr => ∃ t p', p' = p ∧ t ≤ 2 ∧ g = 3 - t ∧ i = .int .i64 t ∧ IsNone wr p' ∧ NoneInv w wr w.heap.size k c s b at_ l)
  case atStart => exact ⟨0, _, rfl, by omega, rfl, rfl, Or.inl rfl, heap_new _ _ _ rfl, (Fp.refl _ _).alloc _⟩
  case round =>
    obtain ⟨t, p, rfl, ht, hg, rfl, hn, hbox, hfp⟩ := hrel
    have Hg := Lib.hid hg
    clear hg
    by_cases hlt : t < 2
    · have lb : w.heap.size < wr.heap.size := (Array.getElem?_eq_some_iff.1 hbox).1
      have b4 : wr.cell? ⟨w.heap.size, 4, none⟩ = some (.int .i64 at_) := by simp [World.cell?, hbox]
      have b5 : wr.cell? ⟨w.heap.size, 5, none⟩ = some (.int .i64 l.1) := by simp [World.cell?, hbox]
      have b6 : wr.cell? ⟨w.heap.size, 6, none⟩ = some (.int .u32 l.2.1) := by simp [World.cell?, hbox]
      have b7 : wr.cell? ⟨w.heap.size, 7, none⟩ = some (.bool l.2.2) := by simp [World.cell?, hbox]
      have Hbox := Lib.hid hbox
      clear hbox
      go_wp2_with fail
      refine (none_first hn at_).mono ?_
      rintro e w1 ⟨rfl, hp1⟩
      have hn1 := hn.keep hp1
      obtain ⟨hc1, _, hz1⟩ := hp1.bcell
      have s1' : w.heap.size < w1.heap.size := by omega
      simp only [lv, lk0]
      go_wp2_with fail
      refine (none_next (hn1.keep ((Fp.refl _ _).alloc _)) l).mono ?_
      rintro e w2 ⟨rfl, hp2⟩
      have hn2 := (hn1.keep ((Fp.refl _ _).alloc (.cells #[.int .i64 0, .int .u32 0, .bool false] 33))).keep hp2
      obtain ⟨hc2, _, hz2⟩ := hp2.bcell
      have s2' : w.heap.size < w2.heap.size := by simp at hz2; omega
      simp only [lv, lk0]
      go_wp2_with fail
      refine (none_where (hn2.keep ((Fp.refl _ _).alloc _)) l).mono ?_
      rintro e w3 ⟨rfl, hp3⟩
      have hn3 := (hn2.keep ((Fp.refl _ _).alloc (.cells #[.int .i64 0, .int .u32 0, .bool false] 33))).keep hp3
      have hnow : NoW wr w3 := (((hp1.alloc (.cells #[.int .i64 0, .int .u32 0, .bool false] 33)).trans hp2 (fun _ _ h => h)).alloc (.cells #[.int .i64 0, .int .u32 0, .bool false] 33)).trans hp3 (fun _ _ h => h)
      have x1 : w3.heap[w1.heap.size]? = some (.cells #[.int .i64 0, .int .u32 0, .bool false] 33 (0, 0)) := by
        have s1 : w1.heap.size < w2.heap.size := by simp at hz2; omega
        rw [hp3.block _ (by simp; omega) id, Below.heap_alloc _ _ _ s1, hp2.block _ (by simp) id]; exact heap_new _ _ _ rfl
      have x2 : w3.heap[w2.heap.size]? = some (.cells #[.int .i64 0, .int .u32 0, .bool false] 33 (0, 0)) := by
        rw [hp3.block _ (by simp) id]; exact heap_new _ _ _ rfl
      have l1 : w1.heap.size < w3.heap.size := (Array.getElem?_eq_some_iff.1 x1).1
      have l2 : w2.heap.size < w3.heap.size := (Array.getElem?_eq_some_iff.1 x2).1
      generalize w1.heap.size = g1 at *
      generalize w2.heap.size = g2 at *
      have y10 : w3.cell? ⟨g1, 0, none⟩ = some (.int .i64 0) := by simp [World.cell?, x1]
      have y11 : w3.cell? ⟨g1, 1, none⟩ = some (.int .u32 0) := by simp [World.cell?, x1]
      have y12 : w3.cell? ⟨g1, 2, none⟩ = some (.bool false) := by simp [World.cell?, x1]
      have y20 : w3.cell? ⟨g2, 0, none⟩ = some (.int .i64 0) := by simp [World.cell?, x2]
      have y21 : w3.cell? ⟨g2, 1, none⟩ = some (.int .u32 0) := by simp [World.cell?, x2]
      have y22 : w3.cell? ⟨g2, 2, none⟩ = some (.bool false) := by simp [World.cell?, x2]
      have z4 := (hnow.cell (p := ⟨w.heap.size, 4, none⟩) lb id).trans b4
      have z5 := (hnow.cell (p := ⟨w.heap.size, 5, none⟩) lb id).trans b5
      have z6 := (hnow.cell (p := ⟨w.heap.size, 6, none⟩) lb id).trans b6
      have z7 := (hnow.cell (p := ⟨w.heap.size, 7, none⟩) lb id).trans b7
      clear x1 x2 hz1 hz2 hc1 hc2 b4 b5 b6 b7 hp1 hp2 hp3 hn1 hn2
      have lw3 : w.heap.size < w3.heap.size := Nat.lt_of_lt_of_le lb hnow.size
      have nw3 := hn3
      have kw3 := hnow
      go_wp2_with fail
      refine (none_put nw3 at_ l).mono ?_
      rintro e w4 ⟨rfl, hp⟩
      obtain ⟨hcw4, _, hz⟩ := hp.bcell
      have l0w4 : w.heap.size < w4.heap.size := by omega
      have l1w4 : g1 < w4.heap.size := by omega
      have l2w4 : g2 < w4.heap.size := by omega
      have nw4 := nw3.keep hp
      have kw4 : NoW wr w4 := kw3.trans hp (fun _ _ h => h)
      clear hp hz
      go_wp2_with fail
      refine (none_cut nw4 l).mono ?_
      rintro e w5 ⟨rfl, hp⟩
      obtain ⟨hcw5, _, hz⟩ := hp.bcell
      have l0w5 : w.heap.size < w5.heap.size := by omega
      have l1w5 : g1 < w5.heap.size := by omega
      have l2w5 : g2 < w5.heap.size := by omega
      have nw5 := nw4.keep hp
      have kw5 : NoW wr w5 := kw4.trans hp (fun _ _ h => h)
      clear hp hz
      go_wp2_with fail
      refine (none_list nw5 at_).mono ?_
      rintro e w6 ⟨rfl, hp⟩
      obtain ⟨hcw6, _, hz⟩ := hp.bcell
      have l0w6 : w.heap.size < w6.heap.size := by omega
      have l1w6 : g1 < w6.heap.size := by omega
      have l2w6 : g2 < w6.heap.size := by omega
      have nw6 := nw5.keep hp
      have kw6 : NoW wr w6 := kw5.trans hp (fun _ _ h => h)
      clear hp hz
      go_wp2_with fail
      refine (none_all (nw6.keep ((Fp.refl _ _).alloc (.cells #[.int .i64 at_, .int .i64 0] 3))) at_ 0 w6.heap.size (heap_new _ _ _ rfl)).mono ?_
      rintro e w7 ⟨rfl, hp⟩
      obtain ⟨hcw7, _, hz⟩ := hp.bcell
      have l0w7 : w.heap.size < w7.heap.size := by simp at hz; omega
      have l1w7 : g1 < w7.heap.size := by simp at hz; omega
      have l2w7 : g2 < w7.heap.size := by simp at hz; omega
      have nw7 := (nw6.keep ((Fp.refl _ _).alloc (.cells #[.int .i64 at_, .int .i64 0] 3))).keep hp
      have kw7 : NoW wr w7 := (kw6.alloc (.cells #[.int .i64 at_, .int .i64 0] 3)).trans hp (fun _ _ h => h)
      clear hp hz
      go_wp2_with fail
      refine (none_count nw7).mono ?_
      rintro e w8 ⟨rfl, hp⟩
      obtain ⟨hcw8, _, hz⟩ := hp.bcell
      have l0w8 : w.heap.size < w8.heap.size := by omega
      have l1w8 : g1 < w8.heap.size := by omega
      have l2w8 : g2 < w8.heap.size := by omega
      have nw8 := nw7.keep hp
      have kw8 : NoW wr w8 := kw7.trans hp (fun _ _ h => h)
      clear hp hz
      go_wp2_with fail
      refine (none_size nw8).mono ?_
      rintro e w9 ⟨rfl, hp⟩
      obtain ⟨hcw9, _, hz⟩ := hp.bcell
      have l0w9 : w.heap.size < w9.heap.size := by omega
      have l1w9 : g1 < w9.heap.size := by omega
      have l2w9 : g2 < w9.heap.size := by omega
      have nw9 := nw8.keep hp
      have kw9 : NoW wr w9 := kw8.trans hp (fun _ _ h => h)
      clear hp hz
      go_wp2_with fail
      go_roundg (2 - t)
      case measure => have := Hg.out; omega
      case rel =>
        have hk : NoW wr (w9.alloc (.cells #[.slice none 0 0, .map none] 71)) := kw9.alloc _
        refine ⟨t + 1, _, rfl, by omega, by omega, by go_num, Or.inr ⟨w9.heap.size, rfl, ?_, ?_⟩, ?_, hfp.trans hk (fun _ _ h => h)⟩
        · simp
        · simp
        · rw [hk.block _ lb id]; exact Hbox.out
    · obtain rfl : t = 2 := by omega
      go_wp2_with fail
      refine (joined_any _).mono ?_
      rintro e w1 ⟨rfl, hp⟩
      go_wp2_with fail
      go_ret
      exact ⟨rfl, hfp.trans hp (fun _ _ h => h)⟩
end Go.Proofs.Ytmhjdjndckeepaa
