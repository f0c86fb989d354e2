/- The chapter's chains: the walk of 'joined'. -/
import Derived.Test.YtmhjdjndckeepaaChM
namespace Go.Proofs.Ytmhjdjndckeepaa
set_option linter.unusedVariables false
set_option linter.unusedSimpArgs false
open Go.RowKit
open Go.ChangeMaps (setBlock)
open Go.WideMaps (KeyLaw)

section
variable {w : World} {bc bf bm : Nat} {σ : List Row}

theorem put_okI (h : ChRep w bc bf bm σ) {x : Int} (i : Nat) (hx : x = i) {r : Row} (hi : σ[i]? = some r) {l : Lk} (hl : Lok l) (hno : ∀ x, x ∈ σ.flatten → x.2 ≠ l) :
    Calls Try.prog 9 #[.pointer (some ⟨bc, 0, none⟩), .int .i64 x, lv l] w (PutPost w bc bf bm i σ r l) := by subst hx; exact put_ok h hi hl hno
theorem list_okI (h : ChRep w bc bf bm σ) {x : Int} (i : Nat) (hx : x = i) {r : Row} (hi : σ[i]? = some r) (hlen : r.length ≤ 100000) :
    Calls Try.prog 15 #[.pointer (some ⟨bc, 0, none⟩), .int .i64 x] w (ListPost w (r.map Prod.snd)) := by subst hx; exact list_ok h hi hlen

theorem lok_small (n : Int) (h0 : 0 ≤ n) (h1 : n ≤ 100000) : Lok (n, 0, false) := ⟨WalkArith.wf_i64 (by omega), rfl⟩

theorem fp_own {B : Nat} {w w' : World} {bc bf bm : Nat} {σ : List Row} (h : Fp (· ∈ blocks bc bf bm σ) w w') (hlo : ∀ b, b ∈ blocks bc bf bm σ → B ≤ b) : Fp (B ≤ ·) w w' := h.mono fun _ _ hb => hlo _ hb
theorem fp_low {B : Nat} {w w' : World} (h : NoW w w') : Fp (B ≤ ·) w w' := h.mono fun _ _ hb => hb.elim
theorem NoW.of_low {w w' : World} (h : Fp (w.heap.size ≤ ·) w w') : NoW w w' := h.mono fun _ hi hb => by omega

theorem lo_put {B : Nat} {bc bf bm : Nat} {σ : List Row} (hlo : ∀ b, b ∈ blocks bc bf bm σ → B ≤ b) {i b' : Nat} {r : Row} {l : Lk} (hi : σ[i]? = some r) (hb : B ≤ b') : ∀ b, b ∈ blocks bc bf bm (σ.set i ((b', l) :: r)) → B ≤ b := by
  intro b hb2
  simp only [blocks, List.mem_cons] at hb2
  rcases hb2 with rfl | rfl | rfl | hb2
  · exact hlo _ (by simp [blocks])
  · exact hlo _ (by simp [blocks])
  · exact hlo _ (by simp [blocks])
  · obtain ⟨x, hx, rfl⟩ := List.mem_map.1 hb2
    rcases List.mem_cons.1 ((flatten_set_perm σ i r (b', l) hi).mem_iff.1 hx) with rfl | hx
    · exact hb
    · exact hlo _ (by simp only [blocks, List.mem_cons]; exact Or.inr (Or.inr (Or.inr (List.mem_map.2 ⟨x, hx, rfl⟩))))

theorem lo_cut {B : Nat} {bc bf bm : Nat} {σ : List Row} (hlo : ∀ b, b ∈ blocks bc bf bm σ → B ≤ b) {i : Nat} {r1 r2 : Row} {x : Nat × Lk} (hi : σ[i]? = some (r1 ++ x :: r2)) : ∀ b, b ∈ blocks bc bf bm (σ.set i (r1 ++ r2)) → B ≤ b := by
  intro b hb2
  simp only [blocks, List.mem_cons] at hb2
  rcases hb2 with rfl | rfl | rfl | hb2
  · exact hlo _ (by simp [blocks])
  · exact hlo _ (by simp [blocks])
  · exact hlo _ (by simp [blocks])
  · obtain ⟨y, hy, rfl⟩ := List.mem_map.1 hb2
    have hy := (flatten_cut_perm σ i r1 r2 x hi).mem_iff.2 (List.mem_cons_of_mem _ hy)
    exact hlo _ (by simp only [blocks, List.mem_cons]; exact Or.inr (Or.inr (Or.inr (List.mem_map.2 ⟨y, hy, rfl⟩))))

theorem LkRow.keep {S : Nat → Prop} {w w' : World} {B : Nat} {v : Value} {ls : List Lk} (h : LkRow w B v ls) (hf : Fp S w w') (hs : ∀ g, v.ownBlock = some g → ¬ S g) : LkRow w' B v ls :=
  ownsRow_of_block h fun g hg => hf.block g (h.lt g hg).2 (hs g hg)

theorem LkRow.read {w : World} {B : Nat} {v : Value} {ls : List Lk} (h : LkRow w B v ls) (hne : ls ≠ []) :
    ∃ g cap, v = .slice (some ⟨g, 0, none⟩) ls.length cap ∧ ls.length ≤ cap ∧ B ≤ g ∧ g < w.heap.size ∧ ∀ k l, ls[k]? = some l → w.cell? ⟨g, k * 3, none⟩ = some (.int .i64 l.1) ∧ w.cell? ⟨g, k * 3 + 1, none⟩ = some (.int .u32 l.2.1) ∧ w.cell? ⟨g, k * 3 + 2, none⟩ = some (.bool l.2.2) := by
  have hc := h
  obtain ⟨hl, h2⟩ := h
  rcases h2 with ⟨_, h0⟩ | ⟨g, cap, cur, rfl, hg, hh, hcap, hcap2, hcs, htk⟩
  · exact absurd (List.eq_nil_of_length_eq_zero h0) hne
  · refine ⟨g, cap, rfl, hcap, hg, (Array.getElem?_eq_some_iff.1 hh).1, fun k l hk => ?_⟩
    have key : ∀ j, j < 3 → w.cell? ⟨g, k * 3 + j, none⟩ = (lc3 l)[j]? := by
      intro j hj
      have hfm : (ls.flatMap lc3)[k * 3 + j]? = (lc3 l)[j]? := by
        clear hc hl hh hcap hcap2 hcs htk hne
        induction ls generalizing k with
        | nil => simp at hk
        | cons y ys ih =>
          cases k with
          | zero =>
            simp at hk; subst hk
            rw [List.flatMap_cons, List.getElem?_append_left (by simp [lc3]; omega)]; simp
          | succ k =>
            simp at hk
            rw [List.flatMap_cons, List.getElem?_append_right (by simp [lc3]; omega)]
            have : (k + 1) * 3 + j - (lc3 y).length = k * 3 + j := by simp [lc3]; omega
            rw [this]; exact ih k hk
      have hj2 : (lc3 l)[j]? = some ((lc3 l)[j]'(by simpa [lc3] using hj)) := List.getElem?_eq_getElem _
      rw [hj2] at hfm ⊢
      have := World.ownsRow.cells hc (g := g) rfl _ _ hfm
      have e : (⟨g, 0, none⟩ : Addr).add (k * 3 + j) = ⟨g, k * 3 + j, none⟩ := by unfold Addr.add; split <;> simp_all
      rwa [e] at this
    have k0 := key 0 (by omega)
    have k1 := key 1 (by omega)
    have k2 := key 2 (by omega)
    simp [lc3] at k0 k1 k2
    exact ⟨k0, k1, k2⟩

theorem chainOf_len (σ : List Row) (x : Int) : (chainOf σ x).length ≤ σ.flatten.length := by
  unfold chainOf
  split
  · rename_i h
    have hil : x.toNat < σ.length := by omega
    rw [List.length_map, List.getD_eq_getElem?_getD, List.getElem?_eq_getElem hil]
    exact (List.sublist_flatten_of_mem (List.getElem_mem hil)).length_le
  · simp

set_option maxHeartbeats 1000000 in
theorem joined_any (w : World) : Calls Try.prog 7 #[] w (Ret1 (.bool true) w) := by
  go_enter Try.func7, Try.ntmps7
  go_wp2_with fail
  refine (new_ok 2 (by omega) (by omega) w).mono ?_
  rintro e w1 ⟨bc, bf, bm, rfl, hbc, hbf, hbm, h1, hp1⟩
  have s1 : (List.replicate 2 ([] : Row)) = [[], []] := rfl
  rw [s1] at h1
  clear s1
  have q1 : Fp (w.heap.size ≤ ·) w w1 := fp_low hp1
  have lo1 : ∀ b, b ∈ blocks bc bf bm ([[], []] : List Row) → w.heap.size ≤ b := by
    intro b hb; simp [blocks] at hb; rcases hb with rfl | rfl | rfl <;> assumption
  go_wp2_with fail
  refine (link_any 1 _).mono ?_
  rintro e w2 ⟨rfl, hp2⟩
  have h2 := h1.fp hp2 (fun _ _ => id)
  have q2 := q1.trans (fp_low (B := w.heap.size) hp2) (fun _ _ h => h)
  go_wp2_with fail
  refine (put_okI h2 0 rfl (r := []) rfl (lok_small 1 (by omega) (by omega)) (by simp)).mono ?_
  rintro e w3 ⟨rfl, b1, hb1, h3, hp3⟩
  have q3 := q2.trans (fp_own hp3 lo1) (fun _ _ h => h)
  have lo3 := lo_put (i := 0) (l := (1, 0, false)) lo1 rfl (Nat.le_trans q2.size hb1)
  simp only [List.set_cons_zero] at h3 lo3
  clear hp3 hp2 hp1 h1 h2 q1 q2 lo1
  go_wp2_with fail
  refine (link_any 2 _).mono ?_
  rintro e w4 ⟨rfl, hp4⟩
  have h4 := h3.fp hp4 (fun _ _ => id)
  have q4 := q3.trans (fp_low (B := w.heap.size) hp4) (fun _ _ h => h)
  go_wp2_with fail
  refine (put_okI h4 0 rfl (r := [(b1, (1, 0, false))]) rfl (lok_small 2 (by omega) (by omega)) (by simp)).mono ?_
  rintro e w5 ⟨rfl, b2, hb2, h5, hp5⟩
  have q5 := q4.trans (fp_own hp5 lo3) (fun _ _ h => h)
  have lo5 := lo_put (i := 0) (l := (2, 0, false)) lo3 rfl (Nat.le_trans q4.size hb2)
  simp only [List.set_cons_zero] at h5 lo5
  clear hp5 hp4 h3 h4 q3 q4 lo3
  go_wp2_with fail
  refine (link_any 3 _).mono ?_
  rintro e w6 ⟨rfl, hp6⟩
  have h6 := h5.fp hp6 (fun _ _ => id)
  have q6 := q5.trans (fp_low (B := w.heap.size) hp6) (fun _ _ h => h)
  go_wp2_with fail
  refine (put_okI h6 1 rfl (r := []) rfl (lok_small 3 (by omega) (by omega)) (by simp)).mono ?_
  rintro e w7 ⟨rfl, b3, hb3, h7, hp7⟩
  have q7 := q6.trans (fp_own hp7 lo5) (fun _ _ h => h)
  have lo7 := lo_put (i := 1) (l := (3, 0, false)) lo5 rfl (Nat.le_trans q6.size hb3)
  simp only [List.set_cons_zero, List.set_cons_succ] at h7 lo7
  clear hp7 hp6 h5 h6 q5 q6 lo5 hb1 hb2 hb3 hbc hbf hbm
  go_wp2_with fail
  refine (list_okI h7 0 rfl (r := [(b2, (2, 0, false)), (b1, (1, 0, false))]) rfl (by simp)).mono ?_
  rintro e w8 ⟨vl, rfl, hvl, hp8, _⟩
  have h8 := h7.fp hp8 (fun _ _ => id)
  have q8 := q7.trans (fp_low (B := w.heap.size) hp8) (fun _ _ h => h)
  have nl : ∀ g, vl.ownBlock = some g → g ∉ blocks bc bf bm [[(b2, (2, 0, false)), (b1, (1, 0, false))], [(b3, (3, 0, false))]] := fun g hg hb => by
    have := (hvl.lt g hg).1; have := h7.lt hb; omega
  clear hp8
  go_wp2_with fail
  refine (all_any _ (chainOf [[(b2, (2, 0, false)), (b1, (1, 0, false))], [(b3, (3, 0, false))]]) (fun W hW x => list_any ((h8.alloc _).fp hW (fun _ _ => id)) x (Nat.le_trans (chainOf_len _ _) (by simp))) [1, 0] _ 0 ?_ (by simp) (fun x => Nat.le_trans (chainOf_len _ _) (by simp))).mono ?_
  · exact ⟨by simp, Or.inr ⟨w8.heap.size, 2, #[.int .i64 1, .int .i64 0], rfl, Nat.zero_le _, heap_new _ _ _ rfl, Nat.le_refl _, by decide, rfl, rfl⟩⟩
  rintro e w9 ⟨vm, rfl, hvm, hp9, _⟩
  have em : [(1 : Int), 0].flatMap (chainOf [[(b2, ((2, 0, false) : Lk)), (b1, (1, 0, false))], [(b3, (3, 0, false))]]) = [(3, 0, false), (2, 0, false), (1, 0, false)] := rfl
  rw [em] at hvm
  have h9 := (h8.alloc (.cells #[.int .i64 1, .int .i64 0] 3)).fp hp9 (fun _ _ => id)
  have q9 := (q8.alloc (.cells #[.int .i64 1, .int .i64 0] 3)).trans (fp_low (B := w.heap.size) hp9) (fun _ _ h => h)
  have nm : ∀ g, vm.ownBlock = some g → g ∉ blocks bc bf bm [[(b2, (2, 0, false)), (b1, (1, 0, false))], [(b3, (3, 0, false))]] := fun g hg hb => by
    have := (hvm.lt g hg).1; have := h8.lt hb; simp at *; omega
  have hvl9 := LkRow.keep (LkRow.keep hvl (((Fp.refl (fun _ => False) w8).alloc (.cells #[.int .i64 1, .int .i64 0] 3))) (fun _ _ => id)) hp9 (fun _ _ => id)
  clear hp9 em h8 q8 hvl h7 q7
  go_wp2_with fail
  refine (link_any 2 _).mono ?_
  rintro e w10 ⟨rfl, hp10⟩
  have h10 := h9.fp hp10 (fun _ _ => id)
  have q10 := q9.trans (fp_low (B := w.heap.size) hp10) (fun _ _ h => h)
  have hvl10 := hvl9.keep hp10 (fun _ _ => id)
  have hvm10 := hvm.keep hp10 (fun _ _ => id)
  clear hp10 h9 q9 hvl9 hvm
  go_wp2_with fail
  refine (next_ok (i := 0) (r1 := []) (x := (b2, (2, 0, false))) (r2 := [(b1, (1, 0, false))]) h10 rfl).mono ?_
  rintro e w11 ⟨rfl, hp11⟩
  have h11 := h10.fp hp11 (fun _ _ => id)
  have q11 := q10.trans (fp_low (B := w.heap.size) hp11) (fun _ _ h => h)
  have hvl11 := hvl10.keep hp11 (fun _ _ => id)
  have hvm11 := hvm10.keep hp11 (fun _ _ => id)
  clear hp11 h10 q10 hvl10 hvm10
  simp only [hdl, lv]
  go_wp2_with fail
  refine (link_any 2 _).mono ?_
  rintro e w12 ⟨rfl, hp12⟩
  have h12 := (h11.alloc (.cells #[.int .i64 1, .int .u32 0, .bool false] 33)).fp hp12 (fun _ _ => id)
  have q12 := (q11.alloc (.cells #[.int .i64 1, .int .u32 0, .bool false] 33)).trans (fp_low (B := w.heap.size) hp12) (fun _ _ h => h)
  have hvl12 := LkRow.keep (LkRow.keep hvl11 ((Fp.refl (fun _ => False) w11).alloc (.cells #[.int .i64 1, .int .u32 0, .bool false] 33)) (fun _ _ => id)) hp12 (fun _ _ => id)
  have hvm12 := LkRow.keep (LkRow.keep hvm11 ((Fp.refl (fun _ => False) w11).alloc (.cells #[.int .i64 1, .int .u32 0, .bool false] 33)) (fun _ _ => id)) hp12 (fun _ _ => id)
  have hx12 : LkRow w12 w11.heap.size (.slice (some ⟨w11.heap.size, 0, none⟩) 1 1) [(1, 0, false)] :=
    LkRow.keep (w := w11.alloc (.cells #[.int .i64 1, .int .u32 0, .bool false] 33)) ⟨by simp [lc3], Or.inr ⟨w11.heap.size, 1, _, rfl, Nat.le_refl _, heap_new _ _ _ rfl, Nat.le_refl _, by decide, rfl, rfl⟩⟩ hp12 (fun _ _ => id)
  have nx : ∀ g, (Value.slice (some ⟨w11.heap.size, 0, none⟩) 1 1).ownBlock = some g → g ∉ blocks bc bf bm [[(b2, (2, 0, false)), (b1, (1, 0, false))], [(b3, (3, 0, false))]] := fun g hg hb => by
    have := h11.lt hb; simp [Value.ownBlock] at hg; omega
  generalize hgx : w11.heap.size = gx at *
  clear hp12 h11 q11 hvl11 hvm11 hgx
  go_wp2_with fail
  refine (cut_ok (i := 0) (r1 := []) (x := (b2, (2, 0, false))) (r2 := [(b1, (1, 0, false))]) h12 rfl).mono ?_
  rintro e w13 ⟨rfl, h13, hp13⟩
  have q13 := q12.trans (fp_own hp13 lo7) (fun _ _ h => h)
  have hvl13 := hvl12.keep hp13 nl
  have hvm13 := hvm12.keep hp13 nm
  have hx13 := hx12.keep hp13 nx
  simp only [List.nil_append, List.set_cons_zero] at h13
  clear hp13 h12 q12 hvl12 hvm12 hx12 nl nm nx lo7
  go_wp2_with fail
  refine (link_any 2 _).mono ?_
  rintro e w14 ⟨rfl, hp14⟩
  have h14 := h13.fp hp14 (fun _ _ => id)
  have q14 := q13.trans (fp_low (B := w.heap.size) hp14) (fun _ _ h => h)
  have hvl14 := hvl13.keep hp14 (fun _ _ => id)
  have hvm14 := hvm13.keep hp14 (fun _ _ => id)
  have hx14 := hx13.keep hp14 (fun _ _ => id)
  clear hp14 h13 q13 hvl13 hvm13 hx13
  go_wp2_with fail
  refine (next_stale h14 (lok_small 2 (by omega) (by omega)) (by simp)).mono ?_
  rintro e w15 ⟨rfl, hp15⟩
  have h15 := (h14.fp hp15 (fun _ _ => id)).alloc (.cells #[.int .i64 0, .int .u32 0, .bool false] 33)
  have q15 := (q14.trans (fp_low (B := w.heap.size) hp15) (fun _ _ h => h)).alloc (.cells #[.int .i64 0, .int .u32 0, .bool false] 33)
  have hk15 : NoW w14 (w15.alloc (.cells #[.int .i64 0, .int .u32 0, .bool false] 33)) := hp15.alloc _
  have hvl15 := hvl14.keep hk15 (fun _ _ => id)
  have hvm15 := hvm14.keep hk15 (fun _ _ => id)
  have hx15 := hx14.keep hk15 (fun _ _ => id)
  clear hp15 h14 q14 hvl14 hvm14 hx14 hk15
  simp only [lk0, lv]
  go_wp2_with fail
  refine (link_any 3 _).mono ?_
  rintro e w16 ⟨rfl, hp16⟩
  have h16 := h15.fp hp16 (fun _ _ => id)
  have q16 := q15.trans (fp_low (B := w.heap.size) hp16) (fun _ _ h => h)
  have hvl16 := hvl15.keep hp16 (fun _ _ => id)
  have hvm16 := hvm15.keep hp16 (fun _ _ => id)
  have hx16 := hx15.keep hp16 (fun _ _ => id)
  clear hp16 h15 q15 hvl15 hvm15 hx15
  go_wp2_with fail
  refine (where_ok (i := 1) (r := [(b3, (3, 0, false))]) (x := (b3, (3, 0, false))) h16 rfl (by simp)).mono ?_
  rintro e w17 ⟨rfl, hp17⟩
  have q17 := q16.trans (fp_low (B := w.heap.size) hp17) (fun _ _ h => h)
  obtain ⟨gl, cl, rfl, hcl, _, ll, rl⟩ := LkRow.read (hvl16.keep hp17 (fun _ _ => id)) (by simp)
  obtain ⟨gm, cm, rfl, hcm, _, lm, rm⟩ := LkRow.read (hvm16.keep hp17 (fun _ _ => id)) (by simp)
  obtain ⟨gy, cy, hy, _, _, ly, ry⟩ := LkRow.read (hx16.keep hp17 (fun _ _ => id)) (by simp)
  obtain rfl : gx = gy := by injection hy with h; injection h with h; injection h
  clear hy hp17 h16 q16 hvl16 hvm16 hx16
  have l0 := rl 0 (2, 0, false) rfl
  have l1 := rl 1 (1, 0, false) rfl
  have m0 := rm 0 (3, 0, false) rfl
  have m1 := rm 1 (2, 0, false) rfl
  have m2 := rm 2 (1, 0, false) rfl
  have y0 := ry 0 (1, 0, false) rfl
  clear rl rm ry
  simp only [Nat.zero_mul, Nat.zero_add, Nat.one_mul, List.map_cons, List.map_nil, List.length_cons, List.length_nil, Nat.reduceAdd, Nat.reduceMul] at l0 l1 m0 m1 m2 y0 hcl hcm
  go_wp2_with fail
  obtain ⟨l00, l01, l02⟩ := l0
  obtain ⟨l10, l11, l12⟩ := l1
  obtain ⟨m00, m01, m02⟩ := m0
  obtain ⟨m10, m11, m12⟩ := m1
  obtain ⟨m20, m21, m22⟩ := m2
  obtain ⟨y00, y01, y02⟩ := y0
  have l00 := cell_regrown l00
  have l01 := cell_regrown l01
  have l02 := cell_regrown l02
  have l10 := cell_regrown l10
  have l11 := cell_regrown l11
  have l12 := cell_regrown l12
  have m00 := cell_regrown m00
  have m01 := cell_regrown m01
  have m02 := cell_regrown m02
  have m10 := cell_regrown m10
  have m11 := cell_regrown m11
  have m12 := cell_regrown m12
  have m20 := cell_regrown m20
  have m21 := cell_regrown m21
  have m22 := cell_regrown m22
  have y00 := cell_regrown y00
  have y01 := cell_regrown y01
  have y02 := cell_regrown y02
  have cl := fun n => low_call w17 (fun W _ => link_any n W)
  simp only [lv] at cl
  (refine wp_region_quiet_below (by kernel_rfl) (by kernel_rfl) ?_; (repeat (quiet_step (exact cl _ _ _))); refine wpQuiet_nil ?_; intro wq hw'; have hlow := low_of hw'; clear hw')
  go_wp2_with fail
  go_ret
  exact ⟨rfl, NoW.of_low (q17.trans (fp_low hlow) (fun _ _ h => h))⟩
end
end Go.Proofs.Ytmhjdjndckeepaa
