/- The document's chains: Put and Cut. -/
import Derived.Test.YtmhjdjndckeepaaPlS
import Derived.Deep.RegionLaw
namespace Go.Proofs.Ytmhjdjndckeepaa
set_option linter.unusedVariables false
set_option linter.unusedSimpArgs false
open Go.RowKit

/-- What a slice holds that is appended. -/
def Src (w : World) (size : Nat) (u : Value) (m : Nat) (news : List Value) : Prop :=
  news.length = m * size ∧ ((u = .slice none 0 0 ∧ m = 0) ∨ ∃ ad c, u = .slice (some ad) m c ∧ ∀ j x, news[j]? = some x → w.cell? (ad.add j) = some x)

/-- 'append(s, x...)' onto a slice of the call's own, as one step of a region that draws its order. -/
theorem step_appendR {P : Program} {ops : Array Oper} {o : Oper} {a : Act} {w : World} {K : Act → World → Prop} {Q : Exit → Act → World → Prop} {E : Prop}
    (hgd : o.guard = none) (s x : Operand) (t : TypeId) (ho : o.op = .call { callee := .builtin .append, args := #[s, x], argTypes := #[t, t] })
    (base : Nat) (e : TypeId) (z : Value) (size : Nat) (ht : P.underlying t = some (.slice e)) (hi : ∃ i, P.info? e = some i ∧ i.zero = some z ∧ i.size = size ∧ i.bytes ≤ 65536)
    (hzs : z.cells.size = size) (hsz : 0 < size) (v : Value) (n : Nat) (xs : List Value) (hs : a.eval s = v) (hown : w.ownsRow base e size v n xs)
    (u : Value) (m : Nat) (ys : List Value) (hx : a.eval x = u) (hsrc : Src w size u m ys) (h1 : ∀ u ∈ ys, u.oneCell' = true) (hn : n + m ≤ 1048576) (hbase : base ≤ w.heap.size)
    (h : ∀ v' w', w'.ownsRow base e size v' (n + m) (xs ++ ys) → w.grownBy w' v.ownBlock → (v' = .slice none 0 0 ↔ v = .slice none 0 0 ∧ m = 0) → (v'.ownBlock = v.ownBlock ∨ v'.ownBlock = some w.heap.size) → K (a.put o.dst v') w') :
    if Region.wanted o (yielded ops a.tmps) = true then Oper.wp P o a w K Q else E := by
  have hw : Region.wanted o (yielded ops a.tmps) = true := by simp [Region.wanted, hgd]
  rw [if_pos hw]
  obtain ⟨i, hi, hz, rfl, hb⟩ := hi
  obtain ⟨hl, h2⟩ := hsrc
  rcases h2 with ⟨rfl, rfl⟩ | ⟨ad, c, rfl, hc⟩
  · have hy : ys = [] := List.eq_nil_of_length_eq_zero (by omega)
    subst hy
    have hrun := run_append_owned_none (P := P) (w := w) base t o.type e i i.size ht hi v n xs hown
    unfold Oper.wp
    simp [execOp, ho, resolve, invoke, builtin, hs, hx, hrun, Result.andThen]
    exact h v w (by simpa using hown) ⟨rfl, rfl, rfl, Nat.le_refl _, fun _ _ _ => rfl⟩ (by simp) (Or.inl rfl)
  · have hbytes : (n + m) * i.bytes ≤ 140737488355328 := by have := Nat.mul_le_mul hn hb; omega
    have h63 : n + m ≤ maxLen := by unfold maxLen; omega
    obtain ⟨v', w', hr, h2, h3, h4⟩ := run_append_own (P := P) w base t o.type e i z i.size i.bytes ht hi hz rfl rfl hzs hsz v n xs hown ad m c ys hl hc h1 h63 hbytes hbase
    have h5 := append_where base t o.type e i z ht hi hz v n xs hown ad m c ys hl hc h1 h63 hbytes hr
    unfold Oper.wp execOp
    simp only [ho, resolve, invoke, builtin, Sem.run_bind, Sem.run_pure, Result.andThen_ok, List.map_toArray, List.map_cons, List.map_nil, hs, hx, hr]
    exact h _ _ h2 h3 h4 h5

theorem Src.row {w : World} {B : Nat} {e : TypeId} {size : Nat} {v : Value} {n : Nat} {xs : List Value} (h : w.ownsRow B e size v n xs) : Src w size v n xs := by
  have hc := h
  obtain ⟨hl, h2⟩ := h
  rcases h2 with ⟨rfl, rfl⟩ | ⟨g, cap, cur, rfl, hg, hh, hcap, hcap2, hcs, htk⟩
  · exact ⟨hl, .inl ⟨rfl, rfl⟩⟩
  · exact ⟨hl, .inr ⟨⟨g, 0, none⟩, cap, rfl, fun j u hj => World.ownsRow.cells hc rfl j u hj⟩⟩
theorem Src.alloc {w : World} {size : Nat} {u : Value} {m : Nat} {ys : List Value} (h : Src w size u m ys) (o : Obj) : Src (w.alloc o) size u m ys := by
  obtain ⟨hl, h2⟩ := h
  refine ⟨hl, ?_⟩
  rcases h2 with h2 | ⟨ad, c, h2, h3⟩
  · exact .inl h2
  · exact .inr ⟨ad, c, h2, fun j x hj => by
      have := h3 j x hj
      exact (World.cell?_of_block (w := w) (Below.heap_alloc _ _ _ (World.block_lt_of_cell? w _ this))).trans this⟩
theorem Src.drew {w : World} {size : Nat} {u : Value} {m : Nat} {ys : List Value} (h : Src w size u m ys) : Src w.drew size u m ys := h

section
variable {w w' : World} {B rb gb : Nat} {L : List (List Lk)}

theorem RfRep.thaw (h : RfRep w B rb gb L) (q : Nat) : w.frozen? ⟨gb, q, none⟩ = false := by
  obtain ⟨arr, h1, h2, h3⟩ := h.arr
  simp [World.frozen?, h1]

theorem own1 {B : Nat} {e : TypeId} {a b c : Value} (W : World) (hB : B ≤ W.heap.size) : (W.alloc (.cells #[a, b, c] e)).ownsRow B e 3 (.slice (some ⟨W.heap.size, 0, none⟩) 1 1) 1 [a, b, c] :=
  ⟨rfl, .inr ⟨_, 1, _, rfl, hB, heap_alloc_new W _, Nat.le_refl _, by unfold maxLen; omega, rfl, rfl⟩⟩
theorem one_lc3 (ls : List Lk) : ∀ u ∈ ls.flatMap lc3, u.oneCell' = true := by
  intro u hu
  obtain ⟨l, _, hl⟩ := List.mem_flatMap.1 hu
  simp [lc3] at hl
  rcases hl with rfl | rfl | rfl <;> rfl
theorem own_slice {w : World} {B : Nat} {e : TypeId} {size : Nat} {v : Value} {n : Nat} {xs : List Value} (h : w.ownsRow B e size v n xs) : ∃ a c, v = .slice a n c := by
  obtain ⟨hl, h2⟩ := h
  rcases h2 with ⟨rfl, rfl⟩ | ⟨g, cap, cur, rfl, _⟩
  · exact ⟨none, 0, rfl⟩
  · exact ⟨_, cap, rfl⟩
theorem ERow.ofOwn {w : World} {B : Nat} {e : TypeId} {v : Value} {l0 l1 : Int} {l2 : Bool} {ls : List Lk} (h : w.ownsRow B e 3 v (1 + ls.length) ([.int .i64 l0, .int .u32 l1, .bool l2] ++ ls.flatMap lc3)) : ERow e w B v ((l0, l1, l2) :: ls) := by
  unfold ERow
  rw [List.length_cons, Nat.add_comm]
  exact h

/-- One row is another one now. -/
structure RfStep (w : World) (B rb gb : Nat) (L' : List (List Lk)) (w' : World) : Prop where
  rep : RfRep w' B rb gb L'
  fp : Fp (· = gb) w w'
  own : ∀ g, rfOwn w' rb gb g → rfOwn w rb gb g ∨ w.heap.size ≤ g

theorem RfRep.step (h : RfRep w B rb gb L) {w1 : World} (hf : NoW w w1) {n : Nat} (hn : n < L.length) {v : Value} {ls : List Lk} (hv : ERow 53 w1 w.heap.size v ls) (hB : B ≤ w.heap.size) :
    RfStep w B rb gb (L.set n ls) (w1.setCell ⟨gb, n, none⟩ v) := by
  have h1 := h.low hf
  obtain ⟨arr, a1, a2, a3⟩ := h1.arr
  have lg := h.ltg
  have lr := h.ltr
  have hlt := World.ownsRow.lt hv
  have hset := heap_set w1 gb n arr 59 v a1
  refine ⟨⟨h.ne, ?_, arr.setIfInBounds n v, hset, by simp [a2], fun q ls' hq => ?_⟩, ?_, fun g hg => ?_⟩
  · rw [World.cell?_setCell_other _ _ _ _ (by simp; intro e; exact absurd e.symm h.ne)]; rw [List.length_set]; exact h1.c0
  · rw [List.getElem?_set] at hq
    have keep : ∀ {B' : Nat} {u : Value} {xs : List Lk}, ERow 53 w1 B' u xs → u.ownBlock ≠ some gb → ERow 53 (w1.setCell ⟨gb, n, none⟩ v) B' u xs := fun hu hne =>
      ownsRow_of_block hu fun g hg => Below.heap_setCell _ _ _ _ (fun e => hne (by rw [hg]; exact congrArg some e))
    by_cases e : n = q
    · subst e
      simp [hn] at hq; subst hq
      have nb : v.ownBlock ≠ some gb := fun e => by have := hlt gb e; omega
      exact ⟨v, by simp [a2, hn], ownsRow_mono (keep hv nb) hB, nb, fun e => by have := hlt rb e; omega⟩
    · simp [e] at hq
      obtain ⟨u, e1, e2, e3, e4⟩ := a3 q ls' hq
      exact ⟨u, by rw [Array.getElem?_setIfInBounds_ne e]; exact e1, keep e2 e3, e3, e4⟩
  · exact Fp.setCell (S := fun k => k = gb) (p := ⟨gb, n, none⟩) (hf.mono fun _ _ h => h.elim) (Or.inr rfl) _
  · rcases hg with rfl | rfl | ⟨arr', ty, q, u, b1, b2, b3⟩
    · exact Or.inl (.inl rfl)
    · exact Or.inl (.inr (.inl rfl))
    · rw [hset] at b1
      cases b1
      by_cases e : n = q
      · subst e
        simp [a2, hn] at b2; subst b2
        exact Or.inr (hlt g b3).1
      · rw [Array.getElem?_setIfInBounds_ne e] at b2
        have a0 := hf.block gb lg id
        rw [a1] at a0
        exact Or.inl (.inr (.inr ⟨arr, _, q, u, a0.symm, b2, b3⟩))

theorem infoRLink : ∃ i, Try.prog.info? 53 = some i ∧ i.zero = some (lv lk0) ∧ i.size = 3 ∧ i.bytes ≤ 65536 := by
  have h : ((Try.prog.info? 53).map fun i => (i.zero, i.size, decide (i.bytes ≤ 65536))) = some (some (lv lk0), 3, true) := by kernel_rfl
  rcases hi : Try.prog.info? 53 with _ | i
  · simp [hi] at h
  · simp [hi] at h
    exact ⟨i, rfl, h.1, h.2.1, h.2.2⟩

def RfPut (w : World) (B rb gb : Nat) (L : List (List Lk)) (n : Nat) (l : Lk) (e : Ending) (w' : World) : Prop :=
  (e = .returned (.int .i64 7) ∧ NoW w w' ∧ ∃ row, row ∈ L ∧ l ∈ row) ∨
  (e = .returned (.int .i64 0) ∧ (∀ row, row ∈ L → l ∉ row) ∧ ∃ ls, L[n]? = some ls ∧ RfStep w B rb gb (L.set n (l :: ls)) w')

set_option maxHeartbeats 2000000 in
theorem rf_put (h : RfRep w B rb gb L) (hB : B ≤ w.heap.size) (x : Int) (n : Nat) (hx : x = n) (hn : n < L.length) (l : Lk) (h64 : L.length ≤ 64) (hlen : ∀ row, row ∈ L → row.length ≤ 100000) :
    Calls Try.prog 30 #[.pointer (some ⟨rb, 0, none⟩), .int .i64 x, lv l] w (RfPut w B rb gb L n l) := by
  subst hx
  have H := Lib.hid h
  have Hlen := Lib.hid hlen
  have c0 := h.c0
  have lr := h.ltr
  have lg := h.ltg
  clear h hlen
  obtain ⟨l0, l1, l2⟩ := l
  go_enter Try.func30, Try.ntmps30
  unfold lv
  go_wp2_with fail
  have hpre : NoW w (w.alloc (.cells #[.int .i64 l0, .int .u32 l1, .bool l2] 53)) := (Fp.refl _ _).alloc _
  have Hpre := Lib.hid hpre
  clear hpre
  refine (rf_where (H.out.low Hpre.out) (l0, l1, l2) h64 Hlen.out).mono ?_
  rintro e w3 ⟨hf, hpost⟩
  obtain ⟨b0, b1, b2⟩ := box_cells hf
  have hw : NoW w w3 := Hpre.out.trans hf (fun _ _ h => h)
  have Hw := Lib.hid hw
  have Hf := Lib.hid hf
  clear hf hw
  rcases hpost with ⟨m, k, row, rfl, hm, hk⟩ | ⟨rfl, hno⟩
  · have Hm := Lib.hid hm
    have Hk := Lib.hid hk
    clear hm hk
    go_wp2_with fail
    go_ret
    exact .inl ⟨rfl, Hw.out, row, List.mem_of_getElem? Hm.out, List.mem_of_getElem? Hk.out⟩
  · have Hno := Lib.hid hno
    clear hno
    obtain ⟨ls, hls⟩ : ∃ ls, L[n]? = some ls := ⟨_, List.getElem?_eq_getElem hn⟩
    have hr64 := Hlen.out ls (List.mem_of_getElem? hls)
    obtain ⟨v, hv, hvr⟩ := (H.out.low Hw.out).row hls
    have d0 := (H.out.low Hw.out).c0
    have Hvr := Lib.hid hvr
    have Hls := Lib.hid hls
    clear hvr hls c0
    have hvz : w3.frozen? ⟨gb, n, none⟩ = false := (H.out.low Hw.out).thaw n
    have lw3 : w.heap.size ≤ w3.heap.size := Hw.out.size
    have lr3 : rb < w3.heap.size := cell_lt d0
    have lg3 : gb < w3.heap.size := cell_lt hv
    go_upto_region 6 with (fail)
    go_region_law (refine step_appendR rfl (.tmp 34) (.tmp 41) 59 rfl w.heap.size 53 (lv lk0) 3 Try.underlying59 infoRLink rfl (by decide) (.slice (some ⟨w3.heap.size, 0, none⟩) 1 1) 1 [.int .i64 l0, .int .u32 l1, .bool l2] (by simp [Act.eval, Act.put]) (own1 w3.drew lw3) v ls.length (ls.flatMap lc3) (by simp [Act.eval, Act.put]) (Src.alloc (Src.drew (Src.row Hvr.out)) _) (one_lc3 ls) (by omega) (by simp; omega) ?_; intro v' w4 hown hgr _ _; obtain ⟨a4, c4, rfl⟩ := own_slice hown; have hp4 : NoW w3 w4 := Fp.grown ((Fp.drew (Fp.refl _ _)).alloc _) hgr (fun k e => Or.inl (by cases e; exact Nat.le_refl _)); have hr4 := Lib.hid (ERow.ofOwn hown); clear hown; have q0 := (hp4.cell (p := ⟨rb, 0, none⟩) lr3 id).trans d0; have q1 := (hp4.cell (p := ⟨gb, n, none⟩) lg3 id).trans hv; have q2 := (hp4.frozen (p := ⟨gb, n, none⟩) lg3 id).trans hvz; have Hp4 := Lib.hid hp4; clear hp4 hgr)
    all_goals go_wp2_with fail
    all_goals go_ret
    all_goals exact .inr ⟨rfl, Hno.out, ls, Hls.out, H.out.step (Hw.out.trans Hp4.out (fun _ _ h => h)) hn hr4.out hB⟩

set_option maxHeartbeats 2000000 in
theorem rf_put_out (h : RfRep w B rb gb L) (x : Int) (hx : x < 0 ∨ L.length ≤ x) (l : Lk) (h64 : L.length ≤ 64) :
    Calls Try.prog 30 #[.pointer (some ⟨rb, 0, none⟩), .int .i64 x, lv l] w (Ret1 (.int .i64 2) w) := by
  have c0 := h.c0
  have lr := h.ltr
  clear h
  obtain ⟨l0, l1, l2⟩ := l
  go_enter Try.func30, Try.ntmps30
  unfold lv
  by_cases hx0 : x < 0
  · go_wp2_with fail
    go_ret
    exact ⟨rfl, (Fp.refl _ _).alloc _⟩
  · have hx2 : (L.length : Int) ≤ x := by omega
    clear hx
    go_wp2_with fail
    go_ret
    exact ⟨rfl, (Fp.refl _ _).alloc _⟩
end
end Go.Proofs.Ytmhjdjndckeepaa
