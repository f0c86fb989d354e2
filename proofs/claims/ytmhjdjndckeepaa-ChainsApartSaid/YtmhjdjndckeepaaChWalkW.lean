/- ChainsWalk: the walk. -/
import Derived.Test.YtmhjdjndckeepaaChK
import Derived.Test.YtmhjdjndckeepaaSees
namespace Go.Proofs.Ytmhjdjndckeepaa
set_option linter.unusedVariables false
set_option linter.unusedSimpArgs false
open Go.RowKit

theorem put_lk {w : World} {bc bf bm : Nat} {σ : List Row} (h : ChRep w bc bf bm σ) {x : Int} (i : Nat) (hx : x = i) {r : Row} (hi : σ[i]? = some r) (j : Nat) (hj : j ≤ 100000) (hno : ∀ x, x ∈ σ.flatten → x.2 ≠ lkN j) (y : Int) (hy : y = j) :
    Calls Try.prog 9 #[.pointer (some ⟨bc, 0, none⟩), .int .i64 x, lv (y, 0, false)] w (PutPost w bc bf bm i σ r (lkN j)) := by
  subst hy; exact put_okI h i hx hi (lok_N j hj) hno

/-- The first loop: k links were put. -/
structure PutInv (w0 : World) (n k : Nat) (bc bf bm : Nat) (r : Row) (wr : World) : Prop where
  st : St w0 wr bc bf bm [r]
  row : r.map Prod.snd = (List.range' (n - k) k).map lkN

theorem PutInv.no {w0 wr : World} {n k bc bf bm : Nat} {r : Row} (h : PutInv w0 n k bc bf bm r wr) (hk : k < n) : ∀ x, x ∈ [r].flatten → x.2 ≠ lkN (n - 1 - k) := by
  intro x hx e
  simp at hx
  have : x.2 ∈ r.map Prod.snd := List.mem_map.2 ⟨x, hx, rfl⟩
  rw [h.row, e] at this
  obtain ⟨j, hj, e⟩ := List.mem_map.1 this
  have := lkN_inj e
  simp [List.mem_range'] at hj
  omega

theorem PutInv.next {w0 wr w' : World} {n k bc bf bm b' : Nat} {r : Row} (h : PutInv w0 n k bc bf bm r wr) (hk : k < n) (st : St w0 w' bc bf bm [(b', lkN (n - 1 - k)) :: r]) : PutInv w0 n (k + 1) bc bf bm ((b', lkN (n - 1 - k)) :: r) w' := by
  refine ⟨st, ?_⟩
  have e1 : n - (k + 1) = n - 1 - k := by omega
  have e2 : n - k = n - 1 - k + 1 := by omega
  rw [List.map_cons, h.row, e1, List.range'_succ, List.map_cons, e2]

/-- The head of the walk's loop. -/
structure WInv (w0 : World) (bc bf bm n k : Nat) (M : List Nat) (r : Row) (ba a : Nat) (t : Bool) (met : Value) (wr : World) : Prop where
  st : St w0 wr bc bf bm [r]
  own : LkRow wr w0.heap.size met (M.map lkN)
  metA : ∀ g, met.ownBlock = some g → Aside0 wr bc bf bm [r] g ∧ g ≠ ba
  box : wr.heap[ba]? = some (.cells (lc3 (if t then lkN a else lk0)).toArray 33 (0, 0))
  boxA : Aside0 wr bc bf bm [r] ba ∧ w0.heap.size ≤ ba
  pl : WPlain n k M (r.map Prod.snd) a t

/-- Behind what is put or cut in a round. -/
structure WMidInv (w0 : World) (bc bf bm n k : Nat) (M : List Nat) (r : Row) (ba a : Nat) (met : Value) (wr : World) : Prop where
  st : St w0 wr bc bf bm [r]
  own : LkRow wr w0.heap.size met (M.map lkN)
  metA : ∀ g, met.ownBlock = some g → Aside0 wr bc bf bm [r] g ∧ g ≠ ba
  box : wr.heap[ba]? = some (.cells (lc3 (lkN a)).toArray 33 (0, 0))
  boxA : Aside0 wr bc bf bm [r] ba ∧ w0.heap.size ≤ ba
  pl : (∃ P Q, WMid n k M (r.map Prod.snd) P a Q) ∨ ∀ x, x ∈ r → x.2 ≠ lkN a

section
variable {w0 wr w' : World} {bc bf bm n k ba a b' : Nat} {M : List Nat} {r : Row} {met : Value}
theorem WMidInv.low (h : WMidInv w0 bc bf bm n k M r ba a met wr) (hf : NoW wr w') : WMidInv w0 bc bf bm n k M r ba a met w' := by
  refine ⟨h.st.low hf, h.own.keep hf (fun _ _ => id), fun g hg => ⟨((h.metA g hg).1.low hf).1, (h.metA g hg).2⟩, ?_, ⟨(h.boxA.1.low hf).1, h.boxA.2⟩, h.pl⟩
  rw [(h.boxA.1.low hf).2]; exact h.box

theorem WMidInv.put (h : WMidInv w0 bc bf bm n (k + 1) M r ba a met wr) (hpl : ∃ P Q, WMid n (k + 1) M (r.map Prod.snd) P a Q) (hn : n ≤ 20) (hb : wr.heap.size ≤ b') (hs : ChStep wr bc bf bm [r] [(b', lkN (100 + k)) :: r] w') :
    WMidInv w0 bc bf bm n (k + 1) M ((b', lkN (100 + k)) :: r) ba a met w' := by
  have hi : [r][0]? = some r := rfl
  refine ⟨h.st.put (i := 0) hi hb hs, ownsRow_of_block h.own (fun g hg => ((h.metA g hg).1.put (i := 0) hi hb hs).2), fun g hg => ⟨((h.metA g hg).1.put (i := 0) hi hb hs).1, (h.metA g hg).2⟩, ?_, ⟨(h.boxA.1.put (i := 0) hi hb hs).1, h.boxA.2⟩, ?_⟩
  · rw [(h.boxA.1.put (i := 0) hi hb hs).2]; exact h.box
  · obtain ⟨P, Q, hp⟩ := hpl
    exact Or.inl ⟨_, _, hp.put (by omega) hn⟩

theorem WMidInv.cut (h : WMidInv w0 bc bf bm n k M r ba a met wr) (hpl : ∃ P Q, WMid n k M (r.map Prod.snd) P a Q) {r1 r2 : Row} {x : Nat × Lk} {c : Nat} (hr : r = r1 ++ x :: r2) (hx : x.2 = lkN c) (hs : ChStep wr bc bf bm [r] [r1 ++ r2] w') :
    WMidInv w0 bc bf bm n k M (r1 ++ r2) ba a met w' := by
  have hi : [r][0]? = some (r1 ++ x :: r2) := by rw [hr]; rfl
  refine ⟨h.st.cut (i := 0) hi hs, ownsRow_of_block h.own (fun g hg => ((h.metA g hg).1.cut (i := 0) hi hs).2), fun g hg => ⟨((h.metA g hg).1.cut (i := 0) hi hs).1, (h.metA g hg).2⟩, ?_, ⟨(h.boxA.1.cut (i := 0) hi hs).1, h.boxA.2⟩, ?_⟩
  · rw [(h.boxA.1.cut (i := 0) hi hs).2]; exact h.box
  · obtain ⟨P, Q, hp⟩ := hpl
    have hnd : (r.map Prod.snd).Nodup := by have := h.st.rep.nd; simpa using this
    by_cases hc : c = a
    · refine Or.inr (fun y hy e => ?_)
      rw [hr] at hnd
      simp only [List.map_append, List.map_cons, List.nodup_append, List.nodup_cons] at hnd
      rcases List.mem_append.1 hy with hy | hy
      · exact hnd.2.2 _ (List.mem_map.2 ⟨y, hy, rfl⟩) x.2 (by simp) (by rw [e, hx, hc])
      · exact hnd.2.1.1 (List.mem_map.2 ⟨y, hy, by rw [e, hx, hc]⟩)
    · obtain ⟨P', Q', h'⟩ := hp.cut (L1 := r1.map Prod.snd) (L2 := r2.map Prod.snd) (c := c) (by rw [hr, List.map_append, List.map_cons, hx]) hc hnd
      exact Or.inl ⟨P', Q', by rw [List.map_append]; exact h'⟩
end

theorem WInv.low {w0 wr w' : World} {bc bf bm n k ba a : Nat} {t : Bool} {M : List Nat} {r : Row} {met : Value} (h : WInv w0 bc bf bm n k M r ba a t met wr) (hf : NoW wr w') : WInv w0 bc bf bm n k M r ba a t met w' := by
  refine ⟨h.st.low hf, h.own.keep hf (fun _ _ => id), fun g hg => ⟨((h.metA g hg).1.low hf).1, (h.metA g hg).2⟩, ?_, ⟨(h.boxA.1.low hf).1, h.boxA.2⟩, h.pl⟩
  rw [(h.boxA.1.low hf).2]; exact h.box

theorem WMidInv.next {w0 wr w4 : World} {bc bf bm n k ba a : Nat} {M : List Nat} {r : Row} {met : Value} (h : WMidInv w0 bc bf bm n k M r ba a met wr) {P : List Lk} {Q : List Nat} (hp : WMid n k M (r.map Prod.snd) P a Q)
    {r1 r2 : Row} {x : Nat × Lk} (hr : r = r1 ++ x :: r2) (hx : x.2 = lkN a) (hq : r2.map Prod.snd = Q.map lkN) (hf : NoW wr w4) {l : Lk} (hl : l = (hdl r2).1) :
    ∃ a', WInv w0 bc bf bm n k M r ba a' (hdl r2).2 met (((w4.setCell ⟨ba, 0, none⟩ (.int .i64 l.1)).setCell ⟨ba, 1, none⟩ (.int .u32 l.2.1)).setCell ⟨ba, 2, none⟩ (.bool l.2.2)) := by
  have hm := h.low hf
  have hbx := heap_set _ _ 2 _ _ (.bool l.2.2) (heap_set _ _ 1 _ _ (.int .u32 l.2.1) (heap_set _ _ 0 _ _ (.int .i64 l.1) hm.box))
  have hst := ((hm.st.set (o := 0) hm.boxA.1.2 hm.boxA.2 (.int .i64 l.1)).set (o := 1) hm.boxA.1.2 hm.boxA.2 (.int .u32 l.2.1)).set (o := 2) hm.boxA.1.2 hm.boxA.2 (.bool l.2.2)
  have hrow : LkRow (((w4.setCell ⟨ba, 0, none⟩ (.int .i64 l.1)).setCell ⟨ba, 1, none⟩ (.int .u32 l.2.1)).setCell ⟨ba, 2, none⟩ (.bool l.2.2)) w0.heap.size met (M.map lkN) :=
    ownsRow_of_block hm.own fun g hg => by
      have hne := (hm.metA g hg).2
      rw [Below.heap_setCell _ _ _ _ hne, Below.heap_setCell _ _ _ _ hne, Below.heap_setCell _ _ _ _ hne]
  have key : ∃ a', WPlain n k M (r.map Prod.snd) a' (hdl r2).2 ∧ l = if (hdl r2).2 then lkN a' else lk0 := by
    cases Q with
    | nil =>
      have : r2 = [] := by simpa using hq
      subst this
      exact ⟨0, hp.last 0, hl⟩
    | cons q Q =>
      cases r2 with
      | nil => simp at hq
      | cons y ys =>
        simp at hq
        refine ⟨q, hp.next, ?_⟩
        rw [hl]; simp [hdl, hq.1]
  obtain ⟨a', h1, h2⟩ := key
  refine ⟨a', hst, hrow, fun g hg => ⟨⟨by have := (hm.metA g hg).1.1; simpa [World.setCell] using this, (hm.metA g hg).1.2⟩, (hm.metA g hg).2⟩, ?_, ⟨⟨by have := hm.boxA.1.1; simpa [World.setCell] using this, hm.boxA.1.2⟩, hm.boxA.2⟩, h1⟩
  rw [← h2]
  exact hbx

theorem nodup_le : ∀ (N : Nat) (l : List Nat), l.Nodup → (∀ x, x ∈ l → x < N) → l.length ≤ N
  | 0, l, _, h => by
    cases l with
    | nil => simp
    | cons x xs => exact absurd (h x (by simp)) (by omega)
  | N + 1, l, hn, h => by
    by_cases hm : N ∈ l
    · have := nodup_le N (l.erase N) (hn.erase N) (fun x hx => by
        have h1 := (hn.mem_erase_iff).1 hx
        have := h x h1.2; omega)
      rw [List.length_erase_of_mem hm] at this
      omega
    · have := nodup_le N l hn (fun x hx => by
        have := h x hx
        have : x ≠ N := fun e => hm (e ▸ hx)
        omega)
      omega

theorem WPlain.ys {n k : Nat} {M : List Nat} {L : List Lk} {a : Nat} (h : WPlain n k M L a false) : ∃ ys : List Nat, L = ys.map lkN ∧ ∀ y, y ∈ ys → (100 ≤ y ∨ y ∈ M) ∧ y < 100 + n + k := by
  have h1 := h.kinds
  have h2 := h.off rfl
  clear h
  induction L with
  | nil => exact ⟨[], rfl, by simp⟩
  | cons l L ih =>
    obtain ⟨ys, e, hy⟩ := ih (fun l hl => h1 l (List.mem_cons_of_mem _ hl)) (fun j hj hm => h2 j hj (List.mem_cons_of_mem _ hm))
    rcases h1 l (List.mem_cons_self ..) with ⟨j, hj, rfl⟩ | ⟨j, hj, rfl⟩
    · refine ⟨j :: ys, by rw [e]; rfl, fun y hy' => ?_⟩
      rcases List.mem_cons.1 hy' with rfl | hy'
      · exact ⟨Or.inr (h2 y hj (List.mem_cons_self ..)), by omega⟩
      · exact hy y hy'
    · refine ⟨(100 + j) :: ys, by rw [e]; rfl, fun y hy' => ?_⟩
      rcases List.mem_cons.1 hy' with rfl | hy'
      · exact ⟨Or.inl (by omega), by omega⟩
      · exact hy y hy'

/-- A slice of numbered links, read. -/
theorem LkRow.readN {w : World} {B : Nat} {v : Value} {ys : List Nat} (h : LkRow w B v (ys.map lkN)) :
    ∃ a cap, v = .slice a ys.length cap ∧ ∀ k (hk : k < ys.length), ∃ g, a = some ⟨g, 0, none⟩ ∧ g < w.heap.size ∧ w.cell? ⟨g, k * 3, none⟩ = some (.int .i64 ys[k]) ∧ w.cell? ⟨g, k * 3 + 1, none⟩ = some (.int .u32 0) ∧ w.cell? ⟨g, k * 3 + 2, none⟩ = some (.bool false) := by
  rcases ys with _ | ⟨y, ys⟩
  · obtain ⟨_, h2⟩ := h
    rcases h2 with ⟨rfl, _⟩ | ⟨g, cap, cur, rfl, _⟩
    · exact ⟨none, 0, rfl, fun k hk => by simp at hk⟩
    · exact ⟨_, cap, rfl, fun k hk => by simp at hk⟩
  · obtain ⟨g, cap, hv, _, _, lg, hr⟩ := h.read (by simp)
    refine ⟨some ⟨g, 0, none⟩, cap, by rw [hv]; simp, fun k hk => ⟨g, rfl, lg, ?_⟩⟩
    have := hr k (lkN (y :: ys)[k]) (by rw [List.getElem?_map, List.getElem?_eq_getElem hk]; rfl)
    exact this

set_option maxRecDepth 100000 in
set_option maxHeartbeats 8000000 in
theorem walk_ChainsWalk (w : World) (v0 v1 : Value) (g0 : Good Try.prog w 5 v0) (g1 : Good Try.prog w 22 v1) : Calls Try.prog 3 #[v0, v1] w (Ret1 (.bool true) w) := by
  obtain ⟨many, rfl, wm⟩ := good_int Try.underlying5 g0
  obtain ⟨sa, len, cap, rfl, hlen, z, hz, hcell⟩ := good_bytes Try.underlying22 Try.underlying5 (by kernel_rfl) g1
  clear g0 g1
  obtain ⟨hm0, hm1⟩ := wf_u8 wm
  clear wm
  obtain ⟨n, hn⟩ : ∃ n : Nat, many % 21 = n := ⟨(many % 21).toNat, by omega⟩
  have hn20 : n ≤ 20 := by omega
  have Hn := Lib.hid hn
  unfold maxLen at hlen
  have Hcell := Lib.hid hcell
  have Hz := Lib.hid hz
  clear hcell hz hn
  by_cases h40 : 40 < len
  · go_enter Try.func3, Try.ntmps3
    go_wp2_with fail
    refine (joined_any _).mono ?_
    rintro e w1 ⟨rfl, hp⟩
    go_wp2_with fail
    go_ret
    exact ⟨rfl, hp⟩
  · go_enter Try.func3, Try.ntmps3
    go_wp2_with fail
    refine (new_ok 1 (by omega) (by omega) w).mono ?_
    rintro e w1 ⟨bc, bf, bm, rfl, hbc, hbf, hbm, h1, hp1⟩
    have st1 : St w w1 bc bf bm [[]] := ⟨h1, by intro b hb; simp [blocks] at hb; rcases hb with rfl | rfl | rfl <;> assumption, fp_low hp1⟩
    clear h1 hp1 hbc hbf hbm
    go_wp2_with fail
    rw [Hn.out]
    go_loopg [8] (n + 1) (fun g i wr => ∃ k r, k ≤ n ∧ g = n + 1 - k ∧ i = .int .i64 k ∧ PutInv w n k bc bf bm r wr)
    case atStart => exact ⟨0, [], Nat.zero_le _, rfl, rfl, st1, rfl⟩
    case round =>
      obtain ⟨k, r, hk, hg, rfl, hinv⟩ := hrel
      have Hg := Lib.hid hg
      clear hg
      by_cases hlt : k < n
      · go_wp2_with fail
        refine (link_any _ _).mono ?_
        rintro e w2 ⟨rfl, hp2⟩
        go_wp2_with fail
        refine (put_lk (hinv.st.low hp2).rep 0 rfl (r := r) rfl (n - 1 - k) (by omega) (hinv.no hlt) _ (by omega)).mono ?_
        rintro e w3 ⟨rfl, b', hb', h3⟩
        go_wp2_with fail
        go_roundg (n - k)
        case measure => have := Hg.out; omega
        case rel => exact ⟨k + 1, _, by omega, by omega, by go_num, hinv.next hlt ((hinv.st.low hp2).put (i := 0) (r := r) rfl hb' h3)⟩
      · obtain rfl : k = n := by omega
        go_wp2_with fail
        have hrow : r.map Prod.snd = (List.range' 0 k).map lkN := by have := hinv.row; rwa [Nat.sub_self] at this
        refine (first_ok hinv.st.rep (i := 0) (r := r) rfl).mono ?_
        rintro e w2 ⟨rfl, hp2⟩
        have st2 := hinv.st.low hp2
        have hfirst : ∃ a t, hdl r = (if t then lkN a else lk0, t) ∧ WPlain k 0 [] (r.map Prod.snd) a t := by
          rcases Nat.eq_zero_or_pos k with rfl | hk
          · have : r = [] := by simpa using hrow
            subst this
            exact ⟨0, false, rfl, ⟨rfl, List.Pairwise.nil, by simp, by simp, by simp, by simp⟩⟩
          · refine ⟨0, true, ?_, by rw [hrow]; exact WPlain.start k hk⟩
            obtain ⟨m, rfl⟩ : ∃ m, k = m + 1 := ⟨k - 1, by omega⟩
            cases r with
            | nil => simp at hrow
            | cons y ys => simp [List.range'_succ] at hrow; simp [hdl, hrow.1]
        obtain ⟨a0, t0, hhd, hpl⟩ := hfirst
        rw [hhd]
        obtain ⟨l0, hl0⟩ : ∃ l, l = (if t0 then lkN a0 else lk0) := ⟨_, rfl⟩
        simp only []
        rw [← hl0]
        have Hl0 := Lib.hid hl0
        clear hl0 hhd hrow hinv hp2
        unfold lv
        go_wp2_with fail
        go_loopg [9, 11, 12] 30 (fun g met ok i wr => ∃ kk M r a t met', met' = met ∧ i = .int .i64 (kk : Nat) ∧ g = 30 - kk ∧ ok = .bool t ∧ WInv w bc bf bm k kk M r w2.heap.size a t met' wr)
        case atStart =>
          refine ⟨0, [], r, a0, t0, _, rfl, rfl, rfl, rfl, ?_⟩
          refine ⟨st2.low ((Fp.refl _ _).alloc _), LkRow.nil _ _, by simp [Value.ownBlock], ?_, ⟨Aside0.new st2.rep (Nat.le_refl _) (by simp), st2.fp.size⟩, hpl⟩
          rw [← Hl0.out]; exact heap_new _ _ _ rfl
        case round =>
          obtain ⟨kk, M, r, a, t, met, rfl, rfl, hg, rfl, hinv⟩ := hrel
          generalize w2.heap.size = ba at *
          have Hg := Lib.hid hg
          clear hg st2 Hl0 hpl
          have hkk : kk ≤ 20 := Nat.le_trans hinv.pl.k_le hn20
          cases t with
          | true =>
            have hbox := hinv.box
            simp only [if_true] at hbox
            have lbl : ba < wr.heap.size := (Array.getElem?_eq_some_iff.1 hbox).1
            have e0 : wr.cell? ⟨ba, 0, none⟩ = some (.int .i64 a) := by simp [World.cell?, hbox, lc3, lkN]
            have e1 : wr.cell? ⟨ba, 1, none⟩ = some (.int .u32 0) := by simp [World.cell?, hbox, lc3, lkN]
            have e2 : wr.cell? ⟨ba, 2, none⟩ = some (.bool false) := by simp [World.cell?, hbox, lc3, lkN]
            have hown := hinv.own
            have Hinv := Lib.hid hinv
            have hMl : M.length = kk := hinv.pl.len
            have HMl := Lib.hid hMl
            clear hinv hbox hMl
            go_upto_if 68 with (at_builtin; go_must (refine wp_append1 rfl _ _ 35 rfl w.heap.size 33 lz 3 Try.underlying35 infoLk rfl (by decide) met (M.map lkN).length ((M.map lkN).flatMap lc3) rfl (World.ownsRow.alloc hown _) wr.heap.size (lc3 (lkN a)) rfl rfl (heap_new _ _ _ rfl) ?_ ?_ ?_ ?_))
            · intro u hu; simp [lc3] at hu; rcases hu with rfl | rfl | rfl <;> rfl
            · have := HMl.out; simp; omega
            · have := Hinv.out.st.fp.size; simp; omega
            intro met2 w3 hown2 hgrow hne2 hwhere
            have hlt := hown.lt
            have hmA := Hinv.out.metA
            have hbA := Hinv.out.boxA
            have st3 : St w w3 bc bf bm [r] := (Hinv.out.st.low ((Fp.refl _ _).alloc (.cells (lc3 (lkN a)).toArray 33))).own hgrow (fun g e => ⟨(hlt g e).1, (hmA g e).1.2⟩)
            have hb3 : w3.heap[ba]? = wr.heap[ba]? := by
              rw [hgrow.block ba (by simp; omega) (fun e => (hmA ba e.symm).2 rfl), Below.heap_alloc _ _ _ lbl]
            have lbl3 : ba < w3.heap.size := by have := hgrow.size; simp at this; omega
            have hmA3 : ∀ g, met2.ownBlock = some g → Aside0 w3 bc bf bm [r] g ∧ g ≠ ba := by
              intro g hg
              have hg3 : g < w3.heap.size := (World.ownsRow.lt hown2 g hg).2
              rcases hwhere with e | e
              · rw [e] at hg; exact ⟨⟨hg3, (hmA g hg).1.2⟩, (hmA g hg).2⟩
              · rw [e] at hg
                have : wr.heap.size + 1 = g := by simpa using hg
                exact ⟨⟨hg3, fun hm => by have := Hinv.out.st.rep.lt hm; omega⟩, by omega⟩
            have hmid : WMidInv w bc bf bm k (kk + 1) (M ++ [a]) r ba a met2 w3 := by
              refine ⟨st3, ?_, hmA3, ?_, ⟨⟨lbl3, hbA.1.2⟩, hbA.2⟩, ?_⟩
              · unfold LkRow
                have e1 : ((M ++ [a]).map lkN).length = M.length + 1 := by simp
                have e2 : ((M ++ [a]).map lkN).flatMap lc3 = (M.map lkN).flatMap lc3 ++ lc3 (lkN a) := by rw [List.map_append, List.flatMap_append]; simp
                rw [e1, e2]; exact hown2
              · rw [hb3]; have := Hinv.out.box; simpa using this
              · exact Or.inl Hinv.out.pl.mid
            have Hpl := Lib.hid Hinv.out.pl.mid
            have Hmid := Lib.hid hmid
            have hno : ∀ x, x ∈ [r].flatten → x.2 ≠ lkN (100 + kk) := by
              intro x hx e
              have hx : x ∈ r := by simpa using hx
              rcases Hinv.out.pl.kinds x.2 (List.mem_map.2 ⟨x, hx, rfl⟩) with ⟨j, hj, e2⟩ | ⟨j, hj, e2⟩
              · rw [e] at e2; have := lkN_inj e2; omega
              · rw [e] at e2; have := lkN_inj e2; omega
            have Hno := Lib.hid hno
            clear hno hmid hb3 st3 hlt hmA hbA hown2 hne2 hwhere hown e0 e1 e2 lbl hgrow hmA3 Hinv
            go_upto_if 68 with (fail)
            go_cut [] (fun wx => ∃ r', WMidInv w bc bf bm k (kk + 1) (M ++ [a]) r' ba a met2 wx)
            case first =>
              by_cases hb : kk < len
              · obtain ⟨sb, so, rfl, hc⟩ := Hcell.out (by omega)
                have hc0 := hc kk hb
                have lsb : sb < w.heap.size := cell_lt hc0
                have hx := Hz.out kk hb
                have hc3 : w3.cell? ⟨sb, so + kk, none⟩ = some (.int .u8 (z kk)) := (Hmid.out.st.fp.cell (p := ⟨sb, so + kk, none⟩) lsb (by simp; omega)).trans hc0
                generalize z kk = x at *
                obtain ⟨hx0, hx1⟩ := hx
                have lw3 : sb < w3.heap.size := cell_lt hc3
                clear hc0 hc
                by_cases he : x % 2 = 0
                · have he' : (x % 2 == 0) = true := by simp [he]
                  have He := Lib.hid he
                  clear he
                  go_wp2_with fail
                  refine (link_any _ _).mono ?_
                  rintro e w4 ⟨rfl, hp4⟩
                  have hm4 := Hmid.out.low hp4
                  go_wp2_with fail
                  refine (put_lk hm4.st.rep 0 rfl (r := r) rfl (100 + kk) (by omega) Hno.out _ (by omega)).mono ?_
                  rintro e w5 ⟨rfl, b', hb', h5⟩
                  go_wp2_with fail
                  go_meet
                  case rel => exact ⟨_, hm4.put Hpl.out hn20 hb' h5⟩
                · have he' : (x % 2 == 0) = false := by simp [he]
                  have He := Lib.hid he
                  clear he
                  obtain ⟨c, hcc⟩ : ∃ c : Nat, x / 2 % 24 = c := ⟨(x / 2 % 24).toNat, by omega⟩
                  have hc24 : c < 24 := by omega
                  have Hcc := Lib.hid hcc
                  clear hcc
                  go_wp2_with fail
                  rw [Hcc.out]
                  refine (link_any _ _).mono ?_
                  rintro e w4 ⟨rfl, hp4⟩
                  have hm4 := Hmid.out.low hp4
                  by_cases hin : ∃ y, y ∈ r ∧ y.2 = lkN c
                  · obtain ⟨y, hy, hyc⟩ := hin
                    obtain ⟨r1, r2, hr⟩ := List.append_of_mem hy
                    have hcut := cut_ok (i := 0) (r1 := r1) (r2 := r2) (x := y) hm4.st.rep (by rw [hr]; rfl)
                    rw [hyc] at hcut
                    have Hcut := Lib.hid hcut
                    have Hr := Lib.hid hr
                    have Hyc := Lib.hid hyc
                    clear hcut hr hyc
                    go_wp2_with fail
                    refine Hcut.out.mono ?_
                    rintro e w5 ⟨rfl, h5⟩
                    go_wp2_with fail
                    go_meet
                    case rel => exact ⟨_, hm4.cut Hpl.out Hr.out Hyc.out h5⟩
                  · have hcut := cut_none (l := lkN c) hm4.st.rep (lok_N c (by omega)) (fun y hy e => hin ⟨y, by simpa using hy, e⟩)
                    have Hcut := Lib.hid hcut
                    clear hcut hin
                    go_wp2_with fail
                    refine Hcut.out.mono ?_
                    rintro e w5 ⟨rfl, h5⟩
                    have hm5 := hm4.low h5
                    go_wp2_with fail
                    go_meet
                    case rel => exact ⟨_, hm5⟩
              · go_wp2_with fail
                go_meet
                case rel => exact ⟨_, Hmid.out⟩
            case rest =>
              obtain ⟨r', hm⟩ := hcut
              have lblc : ba < wc.heap.size := hm.boxA.1.1
              have e0 : wc.cell? ⟨ba, 0, none⟩ = some (.int .i64 a) := by simp [World.cell?, hm.box, lc3, lkN]
              have e1 : wc.cell? ⟨ba, 1, none⟩ = some (.int .u32 0) := by simp [World.cell?, hm.box, lc3, lkN]
              have e2 : wc.cell? ⟨ba, 2, none⟩ = some (.bool false) := by simp [World.cell?, hm.box, lc3, lkN]
              have ez : ∀ o, wc.frozen? ⟨ba, o, none⟩ = false := fun o => by simp [World.frozen?, hm.box]
              have ha : a ≤ 100000 := by
                have h1 := (Hpl.out.choose_spec.choose_spec).am
                have := (Hpl.out.choose_spec.choose_spec).lt a h1
                omega
              clear Hpl Hmid Hno
              have Hm := Lib.hid hm
              clear hm
              rcases Hm.out.pl with ⟨P, Q, hp⟩ | hgone
              · obtain ⟨r1, r0, hr, hr1, hr2⟩ := List.map_eq_append_iff.1 hp.sp
                obtain ⟨x, r2, rfl, hx, hq⟩ := List.map_eq_cons_iff.1 hr2
                have hnext := next_ok (i := 0) (r1 := r1) (r2 := r2) (x := x) Hm.out.st.rep (by rw [hr]; rfl)
                rw [hx] at hnext
                obtain ⟨l, hl⟩ : ∃ l, l = (hdl r2).1 := ⟨_, rfl⟩
                obtain ⟨t, ht⟩ : ∃ t, t = (hdl r2).2 := ⟨_, rfl⟩
                rw [← hl, ← ht] at hnext
                have Hnext := Lib.hid hnext
                have Hall := Lib.hid (show WMid k (kk + 1) (M ++ [a]) (r'.map Prod.snd) P a Q ∧ r' = r1 ++ x :: r2 ∧ x.2 = lkN a ∧ r2.map Prod.snd = Q.map lkN ∧ l = (hdl r2).1 ∧ t = (hdl r2).2 from ⟨hp, hr, hx, hq, hl, ht⟩)
                clear hnext hp hr hr1 hr2 hx hq hl ht
                go_wp2_with fail
                refine Hnext.out.mono ?_
                rintro e w4 ⟨rfl, hp4⟩
                obtain ⟨hc4, hf4, hz4⟩ := hp4.bcell
                have lb4 : ba < w4.heap.size := by omega
                unfold lv
                go_wp2_with fail
                go_roundg (29 - kk)
                case measure => have := Hg.out; omega
                case rel =>
                  obtain ⟨hp, hr, hx, hq, hl, ht⟩ := Hall.out
                  obtain ⟨a', hw⟩ := Hm.out.next hp hr hx hq hp4 hl
                  rw [← ht] at hw
                  refine ⟨kk + 1, M ++ [a], r', a', t, met2, rfl, by go_num, by omega, rfl, ?_⟩
                  exact hw.low ((Fp.refl _ _).alloc _)
              · have hst := next_stale (l := lkN a) Hm.out.st.rep (lok_N a ha) (fun y hy => hgone y (by simpa using hy))
                have Hst := Lib.hid hst
                have Hgone := Lib.hid hgone
                clear hst hgone
                go_wp2_with fail
                refine Hst.out.mono ?_
                rintro e w4 ⟨rfl, hp4⟩
                have hm4 := Hm.out.low hp4
                obtain ⟨hc4, hf4, hz4⟩ := hp4.bcell
                have lb4 : ba < w4.heap.size := by omega
                unfold lv lk0
                go_wp2_with fail
                have hm5 := hm4.low ((Fp.refl _ _).alloc (.cells #[.int .i64 0, .int .u32 0, .bool false] 33))
                refine (where_none (l := lkN a) hm5.st.rep (lok_N a ha) (fun y hy => Hgone.out y (by simpa using hy))).mono ?_
                rintro e w6 ⟨rfl, hp6⟩
                have hm6 := hm5.low hp6
                go_wp2_with fail
                refine (joined_any _).mono ?_
                rintro e w7 ⟨rfl, hp7⟩
                go_wp2_with fail
                go_ret
                exact ⟨rfl, NoW.of_low (hm6.low hp7).st.fp⟩
          | false =>
            have hM := hinv.pl
            have hMlen : M.length ≤ 20 := by rw [hM.len]; exact hkk
            obtain ⟨ma, mcap, hmet, hmr⟩ := hinv.own.readN
            subst hmet
            have Hmr := Lib.hid hmr
            have Hinv := Lib.hid hinv
            have HM := Lib.hid hM
            clear hmr hinv hM
            obtain ⟨wm, rfl⟩ : ∃ wm : World, wm = wr := ⟨_, rfl⟩
            go_wp2_with fail
            go_loopg [18, 19] (M.length + 1) (fun g last i wx => ∃ (j : Nat) (q : Int), j ≤ M.length ∧ g = M.length + 1 - j ∧ i = .int .i64 j ∧ last = .int .i64 q ∧ (∀ h : j < M.length, q < M[j]) ∧ NoW wm wx)
            case atStart => exact ⟨0, -1, Nat.zero_le _, rfl, rfl, rfl, fun h => by omega, Fp.refl _ _⟩
            case round =>
              obtain ⟨j, q, hj, hg3, rfl, rfl, hq, hfp⟩ := hrel
              have Hg3 := Lib.hid hg3
              clear hg3
              by_cases hlt3 : j < M.length
              · obtain ⟨mg, rfl, lmg, c0, c1, c2⟩ := Hmr.out j hlt3
                have d0 := (hfp.cell (p := ⟨mg, j * 3, none⟩) lmg id).trans c0
                have hq2 := hq hlt3
                have hmn := HM.out.lt M[j] (List.getElem_mem hlt3)
                have hnext : ∀ h : j + 1 < M.length, M[j] < M[j + 1] := fun h => (List.pairwise_iff_getElem.1 HM.out.inc) j (j + 1) hlt3 h (by omega)
                have Hnext := Lib.hid hnext
                generalize M[j] = m at *
                clear c0 c1 c2 hq hnext
                go_wp2_with fail
                go_roundg (M.length - j)
                case measure => have := Hg3.out; omega
                case rel => exact ⟨j + 1, m, by omega, by omega, by go_num, rfl, fun h => by have := Hnext.out h; omega, hfp⟩
              · obtain rfl : j = M.length := by omega
                go_wp2_with fail
                obtain ⟨ys, hys, hyM⟩ := HM.out.ys
                have hyl : ys.length ≤ 200 := by
                  have h1 : (r.map Prod.snd).Nodup := by have := Hinv.out.st.rep.nd; simpa using this
                  rw [hys] at h1
                  have h2 : ys.Nodup := by
                    unfold List.Nodup at h1 ⊢
                    rw [List.pairwise_map] at h1
                    exact h1.imp (fun h e => h (by rw [e]))
                  have h3 := nodup_le (100 + k + kk) ys h2 (fun y hy => (hyM y hy).2)
                  omega
                refine (list_okI (Hinv.out.st.low hfp).rep 0 rfl (r := r) rfl ?_).mono ?_
                · have h4 : r.length = ys.length := by have := congrArg List.length hys; simpa using this
                  omega
                rintro e w5 ⟨left, rfl, hleft, hp5, _⟩
                rw [hys] at hleft
                obtain ⟨la, lcap, rfl, hlr⟩ := hleft.readN
                have Hlr := Lib.hid hlr
                have HyM := Lib.hid hyM
                have Hys := Lib.hid hys
                clear hlr hyM hys hleft
                have stE := (Hinv.out.st.low hfp).low hp5
                have StE := Lib.hid stE.fp
                have h05 : NoW wm w5 := hfp.trans hp5 (fun _ _ h => h)
                clear stE hq
                go_wp2_with fail
                go_loopg [21] (ys.length + 1) (fun g i wx => ∃ j : Nat, j ≤ ys.length ∧ g = ys.length + 1 - j ∧ i = .int .i64 j ∧ NoW w5 wx)
                case atStart => exact ⟨0, Nat.zero_le _, rfl, rfl, Fp.refl _ _⟩
                case round =>
                  obtain ⟨j, hj4, hg4, rfl, hfp4⟩ := hrel
                  have Hg4 := Lib.hid hg4
                  clear hg4
                  by_cases hlt4 : j < ys.length
                  · obtain ⟨lg, rfl, llg, c0, c1, c2⟩ := Hlr.out j hlt4
                    have d0 := (hfp4.cell (p := ⟨lg, j * 3, none⟩) llg id).trans c0
                    have d1 := (hfp4.cell (p := ⟨lg, j * 3 + 1, none⟩) llg id).trans c1
                    have d2 := (hfp4.cell (p := ⟨lg, j * 3 + 2, none⟩) llg id).trans c2
                    have hym := (HyM.out ys[j] (List.getElem_mem hlt4)).1
                    have Hym := Lib.hid hym
                    generalize ys[j] = y at *
                    clear c0 c1 c2 hym
                    go_wp2_with fail
                    obtain ⟨wn, rfl⟩ : ∃ wn : World, wn = wr := ⟨_, rfl⟩
                    go_loopg [22, 23] (M.length + 1) (fun g fd i wx => ∃ (q : Nat) (f : Bool), q ≤ M.length ∧ g = M.length + 1 - q ∧ i = .int .i64 q ∧ fd = .bool f ∧ f = (decide (100 ≤ (y : Int)) || (M.take q).any (fun x => decide ((x : Int) = y))) ∧ NoW wn wx)
                    case atStart => exact ⟨0, _, Nat.zero_le _, rfl, rfl, rfl, by simp, Fp.refl _ _⟩
                    case round =>
                      obtain ⟨q, f, hq5, hg5, rfl, rfl, hf, hfp5⟩ := hrel
                      have Hg5 := Lib.hid hg5
                      have Hf := Lib.hid hf
                      clear hg5 hf
                      by_cases hlt5 : q < M.length
                      · obtain ⟨mg, rfl, lmg, c0, c1, c2⟩ := Hmr.out q hlt5
                        have h06 : NoW wm wr := (h05.trans hfp4 (fun _ _ h => h)).trans hfp5 (fun _ _ h => h)
                        have lmr : mg < wr.heap.size := Nat.lt_of_lt_of_le lmg h06.size
                        have m0 := (h06.cell (p := ⟨mg, q * 3, none⟩) lmg id).trans c0
                        have m1 := (h06.cell (p := ⟨mg, q * 3 + 1, none⟩) lmg id).trans c1
                        have m2 := (h06.cell (p := ⟨mg, q * 3 + 2, none⟩) lmg id).trans c2
                        have lln : lg < wn.heap.size := Nat.lt_of_lt_of_le llg hfp4.size
                        have n0 := (hfp5.cell (p := ⟨lg, j * 3, none⟩) lln id).trans d0
                        have n1 := (hfp5.cell (p := ⟨lg, j * 3 + 1, none⟩) lln id).trans d1
                        have n2 := (hfp5.cell (p := ⟨lg, j * 3 + 2, none⟩) lln id).trans d2
                        have htk : M.take (q + 1) = M.take q ++ [M[q]] := List.take_succ_eq_append_getElem hlt5
                        have Htk := Lib.hid htk
                        have Hfp5 := Lib.hid hfp5
                        clear c0 c1 c2 h06 htk hfp5
                        cases f with
                        | true =>
                          go_wp2_with fail
                          go_quiet (fail)
                          go_wp2_with fail
                          go_roundg (M.length - q)
                          case measure => have := Hg5.out; omega
                          case rel =>
                            refine ⟨q + 1, true, by omega, by omega, by go_num, rfl, ?_, Hfp5.out.drewN _⟩
                            rw [Htk.out, List.any_append, ← Bool.or_assoc, ← Hf.out]; rfl
                        | false =>
                          generalize M[q] = m at *
                          by_cases hmy : (m : Int) = y
                          · have hb1 : ((m : Int) == (y : Int)) = true := by simpa using hmy
                            have Hmy := Lib.hid hmy
                            clear hmy
                            go_wp2_with fail
                            go_quiet (fail)
                            go_wp2_with fail
                            go_roundg (M.length - q)
                            case measure => have := Hg5.out; omega
                            case rel =>
                              refine ⟨q + 1, true, by omega, by omega, by go_num, rfl, ?_, Hfp5.out.drewN _⟩
                              rw [Htk.out, List.any_append, ← Bool.or_assoc, ← Hf.out]
                              simp [Hmy.out]
                          · have hb1 : ((m : Int) == (y : Int)) = false := by simpa using hmy
                            have Hmy := Lib.hid hmy
                            clear hmy
                            go_wp2_with fail
                            go_quiet (fail)
                            go_wp2_with fail
                            go_roundg (M.length - q)
                            case measure => have := Hg5.out; omega
                            case rel =>
                              refine ⟨q + 1, false, by omega, by omega, by go_num, rfl, ?_, Hfp5.out.drewN _⟩
                              rw [Htk.out, List.any_append, ← Bool.or_assoc, ← Hf.out]
                              have := Hmy.out
                              simp; omega
                      · obtain rfl : q = M.length := by omega
                        have hft : f = true := by
                          rw [Hf.out, List.take_length]
                          rcases Hym.out with h | h
                          · have : decide (100 ≤ (y : Int)) = true := by simp; omega
                            rw [this]; rfl
                          · have : (M.any fun x => decide ((x : Int) = y)) = true := List.any_eq_true.2 ⟨y, h, by simp⟩
                            rw [this]; simp
                        subst hft
                        go_wp2_with fail
                        go_roundg (ys.length - j)
                        case measure => have := Hg4.out; omega
                        case rel => exact ⟨j + 1, by omega, by omega, by go_num, hfp4.trans hfp5 (fun _ _ h => h)⟩
                  · obtain rfl : j = ys.length := by omega
                    go_wp2_with fail
                    refine (joined_any _).mono ?_
                    rintro e w9 ⟨rfl, hp9⟩
                    go_wp2_with fail
                    go_ret
                    exact ⟨rfl, NoW.of_low ((StE.out.trans (fp_low hfp4) (fun _ _ h => h)).trans (fp_low hp9) (fun _ _ h => h))⟩
end Go.Proofs.Ytmhjdjndckeepaa
