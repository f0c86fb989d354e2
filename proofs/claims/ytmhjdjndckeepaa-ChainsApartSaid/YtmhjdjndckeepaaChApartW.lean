/- ChainsApart: the walk. -/
import Derived.Test.YtmhjdjndckeepaaChK
import Derived.Test.YtmhjdjndckeepaaSees
import Derived.Test.YtmhjdjndckeepaaChWalkW
import Derived.IntWalk
namespace Go.Proofs.Ytmhjdjndckeepaa
set_option linter.unusedVariables false
set_option linter.unusedSimpArgs false
open Go.RowKit

/-- The first loop: k links were put somewhere. -/
structure ApInv (w0 : World) (k : Nat) (bc bf bm : Nat) (σ : List Row) (wr : World) : Prop where
  st : St w0 wr bc bf bm σ
  len : σ.length = 8
  cnt : σ.flatten.length = k
  small : ∀ x, x ∈ σ.flatten → ∃ j, j < k ∧ x.2 = lkN j

theorem ApInv.low {w0 wr w' : World} {k bc bf bm : Nat} {σ : List Row} (h : ApInv w0 k bc bf bm σ wr) (hf : NoW wr w') : ApInv w0 k bc bf bm σ w' := ⟨h.st.low hf, h.len, h.cnt, h.small⟩
theorem ApInv.no {w0 wr : World} {k bc bf bm : Nat} {σ : List Row} (h : ApInv w0 k bc bf bm σ wr) {m : Nat} (hm : k ≤ m) : ∀ x, x ∈ σ.flatten → x.2 ≠ lkN m := by
  intro x hx e
  obtain ⟨j, hj, e2⟩ := h.small x hx
  rw [e] at e2; have := lkN_inj e2; omega

theorem ApInv.next {w0 wr w' : World} {k bc bf bm i b' : Nat} {σ : List Row} (h : ApInv w0 k bc bf bm σ wr) {r : Row} (hi : σ[i]? = some r) (hb : wr.heap.size ≤ b') (hs : ChStep wr bc bf bm σ (σ.set i ((b', lkN k) :: r)) w') :
    ApInv w0 (k + 1) bc bf bm (σ.set i ((b', lkN k) :: r)) w' := by
  have hp := flatten_set_perm σ i r (b', lkN k) hi
  refine ⟨h.st.put hi hb hs, by rw [List.length_set]; exact h.len, by rw [hp.length_eq]; simp only [List.length_cons, h.cnt], fun x hx => ?_⟩
  rcases List.mem_cons.1 (hp.mem_iff.1 hx) with rfl | hx
  · exact ⟨k, by omega, rfl⟩
  · obtain ⟨j, hj, e⟩ := h.small x hx; exact ⟨j, by omega, e⟩

def rowL (σ : List Row) (q : Nat) : List Lk := (σ.getD q []).map Prod.snd
theorem rowL_eq {σ : List Row} {q : Nat} {r : Row} (h : σ[q]? = some r) : rowL σ q = r.map Prod.snd := by simp [rowL, List.getD_eq_getElem?_getD, h]

theorem LkRow.isSlice {w : World} {B : Nat} {v : Value} {ls : List Lk} (h : LkRow w B v ls) : ∃ a c, v = .slice a ls.length c := by
  obtain ⟨_, h2⟩ := h
  rcases h2 with ⟨rfl, h0⟩ | ⟨g, cap, cur, rfl, _⟩
  · exact ⟨none, 0, by rw [h0]⟩
  · exact ⟨_, cap, rfl⟩

/-- Behind the first loop: j of the lists of σs were taken down; the chains are σ. -/
structure Was (w0 : World) (bc bf bm : Nat) (σs σ : List Row) (B9 j : Nat) (wx : World) : Prop where
  st : St w0 wx bc bf bm σ
  nb : B9 ∉ blocks bc bf bm σ
  lo : w0.heap.size ≤ B9
  arr : ∃ arr : Array Value, wx.heap[B9]? = some (.cells arr 73 (0, 0)) ∧ arr.size = 8 ∧ ∀ q, q < j → ∃ v, arr[q]? = some v ∧ LkRow wx w0.heap.size v (rowL σs q) ∧ ∀ g, v.ownBlock = some g → Aside0 wx bc bf bm σ g ∧ g ≠ B9

section
variable {w0 wx w' : World} {bc bf bm B9 j : Nat} {σs σ : List Row}
theorem Was.lt9 (h : Was w0 bc bf bm σs σ B9 j wx) : B9 < wx.heap.size := by obtain ⟨a, ha, _⟩ := h.arr; exact (Array.getElem?_eq_some_iff.1 ha).1

theorem Was.low (h : Was w0 bc bf bm σs σ B9 j wx) (hf : NoW wx w') : Was w0 bc bf bm σs σ B9 j w' := by
  obtain ⟨arr, h1, h2, h3⟩ := h.arr
  refine ⟨h.st.low hf, h.nb, h.lo, arr, ?_, h2, fun q hq => ?_⟩
  · rw [hf.block _ (Array.getElem?_eq_some_iff.1 h1).1 id]; exact h1
  · obtain ⟨v, e, hr, ha⟩ := h3 q hq
    exact ⟨v, e, hr.keep hf (fun _ _ => id), fun g hg => ⟨((ha g hg).1.low hf).1, (ha g hg).2⟩⟩

theorem Was.put (h : Was w0 bc bf bm σs σ B9 j wx) {i b' : Nat} {r : Row} {l : Lk} (hi : σ[i]? = some r) (hb : wx.heap.size ≤ b') (hs : ChStep wx bc bf bm σ (σ.set i ((b', l) :: r)) w') : Was w0 bc bf bm σs (σ.set i ((b', l) :: r)) B9 j w' := by
  obtain ⟨arr, h1, h2, h3⟩ := h.arr
  have h9 := Aside0.put (g := B9) ⟨h.lt9, h.nb⟩ hi hb hs
  refine ⟨h.st.put hi hb hs, h9.1.2, h.lo, arr, by rw [h9.2]; exact h1, h2, fun q hq => ?_⟩
  obtain ⟨v, e, hr, ha⟩ := h3 q hq
  exact ⟨v, e, ownsRow_of_block hr (fun g hg => ((ha g hg).1.put hi hb hs).2), fun g hg => ⟨((ha g hg).1.put hi hb hs).1, (ha g hg).2⟩⟩

theorem Was.cut (h : Was w0 bc bf bm σs σ B9 j wx) {i : Nat} {r1 r2 : Row} {x : Nat × Lk} (hi : σ[i]? = some (r1 ++ x :: r2)) (hs : ChStep wx bc bf bm σ (σ.set i (r1 ++ r2)) w') : Was w0 bc bf bm σs (σ.set i (r1 ++ r2)) B9 j w' := by
  obtain ⟨arr, h1, h2, h3⟩ := h.arr
  have h9 := Aside0.cut (g := B9) ⟨h.lt9, h.nb⟩ hi hs
  refine ⟨h.st.cut hi hs, h9.1.2, h.lo, arr, by rw [h9.2]; exact h1, h2, fun q hq => ?_⟩
  obtain ⟨v, e, hr, ha⟩ := h3 q hq
  exact ⟨v, e, ownsRow_of_block hr (fun g hg => ((ha g hg).1.cut hi hs).2), fun g hg => ⟨((ha g hg).1.cut hi hs).1, (ha g hg).2⟩⟩

theorem Was.take {v : Value} (h : Was w0 bc bf bm σs σ B9 j wx) (hj : j < 8) (hv : LkRow w' wx.heap.size v (rowL σs j)) (hf : NoW wx w') :
    Was w0 bc bf bm σs σ B9 (j + 1) (w'.setCell ⟨B9, j, none⟩ v) := by
  have h' := h.low hf
  obtain ⟨arr, h1, h2, h3⟩ := h'.arr
  have lt9 := h.lt9
  refine ⟨h'.st.set h.nb h.lo v, h.nb, h.lo, arr.setIfInBounds j v, heap_set _ _ _ _ _ _ h1, by simp [h2], fun q hq => ?_⟩
  by_cases e : q = j
  · subst e
    refine ⟨v, by simp [h2, hj], ?_, fun g hg => ?_⟩
    · refine ownsRow_mono (B := wx.heap.size) (ownsRow_of_block hv (fun g hg => Below.heap_setCell _ _ _ _ ?_)) h.st.fp.size
      have := (hv.lt g hg).1
      show g ≠ B9
      omega
    · have := hv.lt g hg
      exact ⟨⟨by simpa [World.setCell] using this.2, fun hm => by have := h.st.rep.lt hm; omega⟩, by omega⟩
  · obtain ⟨u, hu, hr, ha⟩ := h3 q (by omega)
    refine ⟨u, by rw [Array.getElem?_setIfInBounds_ne (by omega)]; exact hu, ownsRow_of_block hr (fun g hg => Below.heap_setCell _ _ _ _ (ha g hg).2), fun g hg => ⟨⟨by have := (ha g hg).1.1; simpa [World.setCell] using this, (ha g hg).1.2⟩, (ha g hg).2⟩⟩

/-- One of the lists that were taken down, in memory. -/
theorem Was.cell (h : Was w0 bc bf bm σs σ B9 j wx) {q : Nat} (hq : q < j) : ∃ a c, wx.cell? ⟨B9, q, none⟩ = some (.slice a (rowL σs q).length c) ∧ LkRow wx w0.heap.size (.slice a (rowL σs q).length c) (rowL σs q) := by
  obtain ⟨arr, h1, h2, h3⟩ := h.arr
  obtain ⟨v, e, hr, _⟩ := h3 q hq
  obtain ⟨a, c, rfl⟩ := hr.isSlice
  exact ⟨a, c, by simp [World.cell?, h1, e], hr⟩
end

theorem ApInv.row_le {w0 wr : World} {k bc bf bm : Nat} {σ : List Row} (h : ApInv w0 k bc bf bm σ wr) {i : Nat} {r : Row} (hi : σ[i]? = some r) : r.length ≤ k := by
  rw [← h.cnt]; exact (List.sublist_flatten_of_mem (List.mem_of_getElem? hi)).length_le

theorem rows_lkN : ∀ r : Row, (∀ x, x ∈ r → ∃ j, x.2 = lkN j) → ∃ ys : List Nat, r.map Prod.snd = ys.map lkN
  | [], _ => ⟨[], rfl⟩
  | x :: r, h => by
    obtain ⟨j, hj⟩ := h x (List.mem_cons_self ..)
    obtain ⟨ys, hy⟩ := rows_lkN r (fun y hy => h y (List.mem_cons_of_mem _ hy))
    exact ⟨j :: ys, by simp [hj, hy]⟩
theorem ApInv.rowN {w0 wr : World} {k bc bf bm : Nat} {σ : List Row} (h : ApInv w0 k bc bf bm σ wr) {q : Nat} (hq : q < σ.length) : ∃ ys : List Nat, rowL σ q = ys.map lkN ∧ ys.length ≤ k := by
  have hi := List.getElem?_eq_getElem hq
  obtain ⟨ys, hy⟩ := rows_lkN σ[q] (fun x hx => by obtain ⟨j, _, e⟩ := h.small x (mem_flatten_of hi hx); exact ⟨j, e⟩)
  refine ⟨ys, by rw [rowL_eq hi, hy], ?_⟩
  have h1 := congrArg List.length hy
  have h2 := h.row_le hi
  simp only [List.length_map] at h1
  omega

section
variable {w : World} {bc bf bm : Nat} {σ : List Row}
theorem put_have_lk (h : ChRep w bc bf bm σ) {i : Nat} (hi : i < σ.length) {b j : Nat} (hx : (b, lkN j) ∈ σ.flatten) (y : Int) (hy : y = j) :
    Calls Try.prog 9 #[.pointer (some ⟨bc, 0, none⟩), .int .i64 i, lv (y, 0, false)] w (Ret1 (.int .i64 7) w) := by subst hy; exact put_have (x := (b, lkN j)) h hi hx
theorem cut_lk (h : ChRep w bc bf bm σ) {i b j : Nat} {r : Row} (hi : σ[i]? = some ((b, lkN j) :: r)) (y : Int) (hy : y = j) :
    Calls Try.prog 12 #[.pointer (some ⟨bc, 0, none⟩), lv (y, 0, false)] w (CutPost w bc bf bm i σ r) := by subst hy; exact cut_ok (r1 := []) (x := (b, lkN j)) h hi
theorem cut_no_lk (h : ChRep w bc bf bm σ) {j : Nat} (hj : j ≤ 100000) (hno : ∀ x, x ∈ σ.flatten → x.2 ≠ lkN j) (y : Int) (hy : y = j) :
    Calls Try.prog 12 #[.pointer (some ⟨bc, 0, none⟩), lv (y, 0, false)] w (Ret1 (.int .i64 6) w) := by subst hy; exact cut_none h (lok_N j hj) hno
end

set_option maxRecDepth 100000 in
set_option maxHeartbeats 8000000 in
theorem walk_ChainsApart (w : World) (v0 v1 : Value) (g0 : Good Try.prog w 5 v0) (g1 : Good Try.prog w 22 v1) : Calls Try.prog 6 #[v0, v1] w (Ret1 (.bool true) w) := by
  obtain ⟨chain, rfl, wm⟩ := good_int Try.underlying5 g0
  obtain ⟨sa, len, cap, rfl, hlen, z, hz, hcell⟩ := good_bytes Try.underlying22 Try.underlying5 (by kernel_rfl) g1
  clear g0 g1
  obtain ⟨hm0, hm1⟩ := wf_u8 wm
  clear wm
  unfold maxLen at hlen
  have Hcell := Lib.hid hcell
  have Hz := Lib.hid hz
  clear hcell hz
  by_cases h30 : 30 < len
  · go_enter Try.func6, Try.ntmps6
    go_wp2_with fail
    refine (joined_any _).mono ?_
    rintro e w1 ⟨rfl, hp⟩
    go_wp2_with fail
    go_ret
    exact ⟨rfl, hp⟩
  · go_enter Try.func6, Try.ntmps6
    go_wp2_with fail
    refine (new_ok 8 (by omega) (by omega) w).mono ?_
    rintro e w1 ⟨bc, bf, bm, rfl, hbc, hbf, hbm, h1, hp1⟩
    have st1 : ApInv w 0 bc bf bm (List.replicate 8 []) w1 := by
      refine ⟨⟨h1, ?_, fp_low hp1⟩, by simp, by simp, by simp⟩
      intro b hb; simp [blocks] at hb; rcases hb with rfl | rfl | rfl <;> assumption
    clear h1 hp1 hbc hbf hbm
    go_wp2_with fail
    go_loopg [7] (len + 1) (fun g i wr => ∃ k σ, k ≤ len ∧ g = len + 1 - k ∧ i = .int .i64 (k : Nat) ∧ ApInv w k bc bf bm σ wr)
    case atStart => exact ⟨0, _, Nat.zero_le _, rfl, rfl, st1⟩
    case round =>
      obtain ⟨k, σ, hk, hg, rfl, hinv⟩ := hrel
      have Hg := Lib.hid hg
      clear hg
      by_cases hlt : k < len
      · obtain ⟨sb, so, rfl, hc⟩ := Hcell.out (by omega)
        have hc0 := hc k hlt
        have lsb : sb < w.heap.size := cell_lt hc0
        have hx := Hz.out k hlt
        have hc3 : wr.cell? ⟨sb, so + k, none⟩ = some (.int .u8 (z k)) := (hinv.st.fp.cell (p := ⟨sb, so + k, none⟩) lsb (by simp; omega)).trans hc0
        generalize z k = x at *
        obtain ⟨hx0, hx1⟩ := hx
        have lsr : sb < wr.heap.size := cell_lt hc3
        obtain ⟨i, hix⟩ : ∃ i : Nat, x % 8 = i := ⟨(x % 8).toNat, by omega⟩
        have hi8 : i < 8 := by omega
        have hl8 : i < σ.length := by rw [hinv.len]; exact hi8
        have hi : σ[i]? = some σ[i] := List.getElem?_eq_getElem hl8
        have Hinv := Lib.hid hinv
        have Hi := Lib.hid hi
        have Hix := Lib.hid hix
        clear hc0 hc hinv hi hix
        go_upto_region 9 with (fail)
        have hw1 : IntKind.i64.wrap x = x := IntWalk.i64_in _ (by omega)
        have hw2 : x.tmod 8 = (i : Int) := by rw [Int.tmod_eq_emod_of_nonneg hx0]; exact Hix.out
        go_region_with (first | (go_at_call 10; refine (link_any _ _).mono ?_; rintro e w2 ⟨rfl, hp2⟩; have hcc := hp2.cell (p := ⟨sb, so + k, none⟩) (by exact lsr) id) | (go_at_call 9; refine (put_lk ((Hinv.out.low (Fp.drew (Fp.refl _ _))).low hp2).st.rep i rfl Hi.out k (by omega) (((Hinv.out.low (Fp.drew (Fp.refl _ _))).low hp2).no (Nat.le_refl _)) _ rfl).mono ?_; rintro e w3 ⟨rfl, b', hb', h3⟩))
        all_goals clear hw1 hw2
        all_goals go_wp2_with fail
        all_goals go_roundg (len - k)
        all_goals first | (have := Hg.out; omega) | exact ⟨k + 1, _, by omega, by omega, by go_num, ((Hinv.out.low (Fp.drew (Fp.refl _ _))).low hp2).next Hi.out hb' h3⟩
      · obtain rfl : k = len := by omega
        go_wp2_with fail
        obtain ⟨nn, hnn⟩ : ∃ nn : Nat, chain % 8 = nn := ⟨(chain % 8).toNat, by omega⟩
        have hn8 : nn < 8 := by omega
        rw [hnn]
        have Hnn := Lib.hid hnn
        clear hnn
        have hwas : Was w bc bf bm σ σ wr.heap.size 0 (wr.alloc (.cells #[.slice none 0 0, .slice none 0 0, .slice none 0 0, .slice none 0 0, .slice none 0 0, .slice none 0 0, .slice none 0 0, .slice none 0 0] 73)) :=
          ⟨hinv.st.low ((Fp.refl _ _).alloc _), fun hm => by have := hinv.st.rep.lt hm; omega, hinv.st.fp.size, _, heap_new _ _ _ rfl, rfl, fun q hq => by omega⟩
        have Hinv := Lib.hid hinv
        clear hinv
        generalize wr.heap.size = B9 at *
        have hk30 : k ≤ 30 := by omega
        go_loopg [10] 9 (fun g i wx => ∃ j : Nat, j ≤ 8 ∧ g = 9 - j ∧ i = .int .i64 j ∧ Was w bc bf bm σ σ B9 j wx)
        case atStart => exact ⟨0, Nat.zero_le _, rfl, rfl, hwas⟩
        case round =>
          obtain ⟨j, hj, hg2, rfl, hw⟩ := hrel
          have Hg2 := Lib.hid hg2
          clear hg2 hwas
          by_cases hlt2 : j < 8
          · have hl8 : j < σ.length := by rw [Hinv.out.len]; exact hlt2
            have hi : σ[j]? = some σ[j] := List.getElem?_eq_getElem hl8
            have hcall := list_ok hw.st.rep hi (by have := Hinv.out.row_le hi; omega)
            rw [← rowL_eq hi] at hcall
            have Hcall := Lib.hid hcall
            have Hw := Lib.hid hw
            clear hcall hi hl8 hw
            go_wp2_with fail
            refine Hcall.out.mono ?_
            rintro e w4 ⟨v, rfl, hv, hp4, _⟩
            have hw5 := Hw.out.take hlt2 hv hp4
            obtain ⟨va, vc, hvs⟩ := hv.isSlice
            have hb9 : ∃ u, w4.cell? ⟨B9, j, none⟩ = some u := by
              obtain ⟨arr, h1, h2, _⟩ := (Hw.out.low hp4).arr
              exact ⟨arr[j], by simp [World.cell?, h1, h2, hlt2]⟩
            obtain ⟨u9, hb9⟩ := hb9
            have hz9 : w4.frozen? ⟨B9, j, none⟩ = false := by
              obtain ⟨arr, h1, _, _⟩ := (Hw.out.low hp4).arr
              simp [World.frozen?, h1]
            have l9 : B9 < w4.heap.size := cell_lt hb9
            have Hw5 := Lib.hid hw5
            clear hw5 hv
            subst hvs
            go_wp2_with fail
            go_roundg (8 - j)
            case measure => have := Hg2.out; omega
            case rel => exact ⟨j + 1, by omega, by omega, by go_num, Hw5.out⟩
          · obtain rfl : j = 8 := by omega
            obtain ⟨mm, hmm⟩ : ∃ mm : Nat, ((nn : Int) + 1) % 8 = mm := ⟨(((nn : Int) + 1) % 8).toNat, by omega⟩
            have hm8 : mm < 8 := by omega
            have hl8 : nn < σ.length := by rw [Hinv.out.len]; exact hn8
            obtain ⟨r, hi⟩ : ∃ r, σ[nn]? = some r := ⟨_, List.getElem?_eq_getElem hl8⟩
            have hrl := Hinv.out.row_le hi
            have hmlen : ∀ b', mm < (σ.set nn ((b', lkN 1000) :: r)).length := fun b' => by rw [List.length_set, Hinv.out.len]; exact hm8
            have hback : ∀ b', (σ.set nn ((b', lkN 1000) :: r)).set nn r = σ := fun b' => by
              rw [List.set_set]
              refine List.ext_getElem? (fun q => ?_)
              rw [List.getElem?_set]
              split
              · subst_vars; exact hi.symm
              · rfl
            have hnew : ∀ b', (σ.set nn ((b', lkN 1000) :: r))[nn]? = some ((b', lkN 1000) :: r) := fun b' => List.getElem?_set_self hl8
            have hw0 : Was w bc bf bm σ σ B9 8 wr.drew := hw.low (Fp.drew (Fp.refl _ _))
            obtain ⟨wa0, wc0, hcell0, _⟩ := hw.cell hn8
            rw [rowL_eq hi, List.length_map] at hcell0
            have Hi := Lib.hid hi
            have Hback := Lib.hid hback
            have Hnew := Lib.hid hnew
            have Hmlen := Lib.hid hmlen
            have Hw0 := Lib.hid hw0
            have Hw := Lib.hid hw
            have l9 := hw.lt9
            have hw1 : IntKind.i64.wrap ((nn : Int) + 1) = (nn : Int) + 1 := IntWalk.i64_in _ (by omega)
            have hw2 : ((nn : Int) + 1).tmod 8 = (mm : Int) := by rw [Int.tmod_eq_emod_of_nonneg (by omega)]; exact hmm
            have hw3 : IntKind.i64.wrap ((r.length : Int) + 1) = (r.length : Int) + 1 := IntWalk.i64_in _ (by omega)
            clear hi hback hnew hmlen hw0 hw hmm
            have p0 : True := trivial
            go_upto_region 16 with (fail)
            go_cut [89] (fun s89 wx => s89 = .bool false ∧ Was w bc bf bm σ σ B9 8 wx)
            case first =>
              go_region_with (first | (go_at_call 10; have _t := p0; refine (link_any _ _).mono ?_; rintro e wa ⟨rfl, ha⟩; clear p0; have p1 : True := trivial; have haw := Lib.hid (Hw0.out.low ha); clear ha) | (go_at_call 9; have _t := p1; refine (put_lk haw.out.st.rep nn rfl Hi.out 1000 (by omega) (Hinv.out.no (by omega)) _ rfl).mono ?_; rintro e wb ⟨rfl, b', hb', hsb⟩; clear p1; have p2 : True := trivial; have hbw := Lib.hid (haw.out.put Hi.out hb' hsb)) | (go_at_call 10; have _t := p2; refine (link_any _ _).mono ?_; rintro e wc2 ⟨rfl, hc2⟩; clear p2; have p3 : True := trivial; have hc2w := Lib.hid (hbw.out.low hc2); clear hc2) | (go_at_call 9; have _t := p3; refine (put_have_lk hc2w.out.st.rep (Hmlen.out b') (mem_flatten_of (Hnew.out b') (List.mem_cons_self ..)) _ rfl).mono ?_; rintro e wd ⟨rfl, hd⟩; clear p3; have p4 : True := trivial; have hdw := Lib.hid (hc2w.out.low hd); obtain ⟨a1, c1, hcl1, _⟩ := hdw.out.cell hn8; rw [rowL_eq Hi.out, List.length_map] at hcl1; clear hd) | (go_at_call 15; have _t := p4; refine (list_okI hdw.out.st.rep nn rfl (Hnew.out b') (by simp; omega)).mono ?_; rintro e we ⟨ve, rfl, hve, he, _⟩; obtain ⟨a2, c2, rfl⟩ := hve.isSlice; clear p4; have p5 : True := trivial; have hew := Lib.hid (hdw.out.low he); obtain ⟨a3, c3, hcl3, _⟩ := hew.out.cell hn8; rw [rowL_eq Hi.out, List.length_map] at hcl3; clear he hve) | (go_at_call 10; have _t := p5; refine (link_any _ _).mono ?_; rintro e wf ⟨rfl, hf⟩; clear p5; have p6 : True := trivial; have hfw := Lib.hid (hew.out.low hf); clear hf) | (go_at_call 12; have _t := p6; refine (cut_lk hfw.out.st.rep (Hnew.out b') _ rfl).mono ?_; rintro e wg ⟨rfl, hg⟩; clear p6; have p7 : True := trivial; have hgw := Lib.hid (hfw.out.cut (r1 := []) (Hnew.out b') hg); clear hg) | (go_at_call 10; have _t := p7; refine (link_any _ _).mono ?_; rintro e wh ⟨rfl, hh⟩; clear p7; have p8 : True := trivial; have hhw := Lib.hid (hgw.out.low hh); clear hh) | (go_at_call 12; have _t := p8; refine (cut_no_lk hhw.out.st.rep (j := 1000) (by omega) (by rw [List.nil_append, Hback.out]; exact Hinv.out.no (by omega)) _ rfl).mono ?_; rintro e wi ⟨rfl, hi9⟩; clear p8; have p9 : True := trivial; have hiw := Lib.hid (hhw.out.low hi9); clear hi9))
              all_goals go_wp2_with fail
              all_goals go_meet
              all_goals exact ⟨rfl, by have := hiw.out; rw [List.nil_append, Hback.out] at this; exact this⟩
            case rest =>
              obtain ⟨rfl, hwc⟩ := hcut
              clear hw1 hw2 hw3 hcell0 p0 l9 Hw0 Hw Hi Hback Hnew Hmlen
              go_wp2_with fail
              go_loopg [11] 9 (fun g i wx => ∃ j : Nat, j ≤ 8 ∧ g = 9 - j ∧ i = .int .i64 j ∧ Was w bc bf bm σ σ B9 8 wx)
              case atStart => exact ⟨0, Nat.zero_le _, rfl, rfl, hwc⟩
              case round =>
                obtain ⟨j, hj, hg3, rfl, hw⟩ := hrel
                have Hg3 := Lib.hid hg3
                clear hg3 hwc
                by_cases hlt3 : j < 8
                · have hl9 : j < σ.length := by rw [Hinv.out.len]; exact hlt3
                  obtain ⟨ys, hys, hyl⟩ := Hinv.out.rowN hl9
                  have hcall := list_ok hw.st.rep (List.getElem?_eq_getElem hl9) (by have := Hinv.out.row_le (List.getElem?_eq_getElem hl9); omega)
                  rw [← rowL_eq (List.getElem?_eq_getElem hl9)] at hcall
                  have Hcall := Lib.hid hcall
                  have Hw := Lib.hid hw
                  have Hys := Lib.hid hys
                  clear hcall hw hys hl9
                  go_wp2_with fail
                  refine Hcall.out.mono ?_
                  rintro e w5 ⟨v, rfl, hv, hp5, _⟩
                  rw [Hys.out] at hv
                  obtain ⟨la, lcap, rfl, hlr⟩ := hv.readN
                  have hw5 := Hw.out.low hp5
                  obtain ⟨wa3, wc3, hb3, hr3⟩ := hw5.cell hlt3
                  rw [Hys.out] at hb3 hr3
                  obtain ⟨ka, kcap, hk3, hkr⟩ := hr3.readN
                  rw [hk3] at hb3
                  have l9 := hw5.lt9
                  have Hw5 := Lib.hid hw5
                  have Hlr := Lib.hid hlr
                  have Hkr := Lib.hid hkr
                  clear hw5 hlr hkr hk3 hr3 hv Hcall wa3 wc3
                  go_wp2_with fail
                  obtain ⟨wm, rfl⟩ : ∃ wm : World, wm = wr := ⟨_, rfl⟩
                  go_loopg [13] (ys.length + 1) (fun g i wx => ∃ q : Nat, q ≤ ys.length ∧ g = ys.length + 1 - q ∧ i = .int .i64 q ∧ NoW w5 wx)
                  case atStart => exact ⟨0, Nat.zero_le _, rfl, rfl, Fp.refl _ _⟩
                  case round =>
                    obtain ⟨q, hq4, hg4, rfl, hfp4⟩ := hrel
                    have Hg4 := Lib.hid hg4
                    clear hg4
                    by_cases hlt4 : q < ys.length
                    · obtain ⟨lg, rfl, llg, c0, c1, c2⟩ := Hlr.out q hlt4
                      obtain ⟨kg, rfl, lkg, e0, e1, e2⟩ := Hkr.out q hlt4
                      have d0 := (hfp4.cell (p := ⟨lg, q * 3, none⟩) llg id).trans c0
                      have d1 := (hfp4.cell (p := ⟨lg, q * 3 + 1, none⟩) llg id).trans c1
                      have d2 := (hfp4.cell (p := ⟨lg, q * 3 + 2, none⟩) llg id).trans c2
                      have f0 := (hfp4.cell (p := ⟨kg, q * 3, none⟩) lkg id).trans e0
                      have f1 := (hfp4.cell (p := ⟨kg, q * 3 + 1, none⟩) lkg id).trans e1
                      have f2 := (hfp4.cell (p := ⟨kg, q * 3 + 2, none⟩) lkg id).trans e2
                      have hb4 := (hfp4.cell (p := ⟨B9, j, none⟩) l9 id).trans hb3
                      generalize ys[q] = y at *
                      have hb1 : ((y : Int) == (y : Int)) = true := by simp
                      have Hfp4 := Lib.hid hfp4
                      clear c0 c1 c2 e0 e1 e2 hb3 hfp4
                      go_wp2_with fail
                      go_quiet (fail)
                      go_wp2_with fail
                      go_roundg (ys.length - q)
                      case measure => have := Hg4.out; omega
                      case rel => exact ⟨q + 1, by omega, by omega, by go_num, Hfp4.out.drewN _⟩
                    · obtain rfl : q = ys.length := by omega
                      go_wp2_with fail
                      go_roundg (8 - j)
                      case measure => have := Hg3.out; omega
                      case rel => exact ⟨j + 1, by omega, by omega, by go_num, Hw5.out.low hfp4⟩
                · obtain rfl : j = 8 := by omega
                  have Hw := Lib.hid hw
                  have hcall := count_ok hw.st.rep
                  rw [Hinv.out.cnt] at hcall
                  have Hcall := Lib.hid hcall
                  clear hcall hw
                  go_wp2_with fail
                  refine Hcall.out.mono ?_
                  rintro e w6 ⟨rfl, rfl⟩
                  go_wp2_with fail
                  refine (joined_any _).mono ?_
                  rintro e w9 ⟨rfl, hp9⟩
                  go_wp2_with fail
                  go_ret
                  exact ⟨rfl, NoW.of_low (Hw.out.st.fp.trans (fp_low hp9) (fun _ _ h => h))⟩
end Go.Proofs.Ytmhjdjndckeepaa
