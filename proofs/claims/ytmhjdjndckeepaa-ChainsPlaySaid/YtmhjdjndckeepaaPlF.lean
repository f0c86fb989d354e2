/- ChainsPlay: an act done on both sides. -/
import Derived.Test.YtmhjdjndckeepaaPlE
namespace Go.Proofs.Ytmhjdjndckeepaa
set_option linter.unusedVariables false
set_option linter.unusedSimpArgs false
open Go.RowKit

theorem AAct.link_ok (x : AAct) (hx : x.Ok) : Lok x.link := by
  unfold AAct.link
  split
  · exact hx.raw
  · refine ⟨WalkArith.wf_i64 (by have := hx.s0; have := hx.s1; dsimp only; omega), ?_⟩
    rcases Int.emod_two_eq (x.sl / 12) with h | h <;> rw [h] <;> rfl

section
variable {w0 w : World} {bc bf bm rb gb : Nat} {σ : List Row} {L : List (List Lk)}

/-- What an act leaves. -/
def DoPost (w0 : World) (bc bf bm rb gb : Nat) (σ : List Row) (e : Ending) (w' : World) : Prop :=
  e = .returned (.bool true) ∧ ∃ τ, Pl w0 bc bf bm τ rb gb (lks τ) w' ∧ τ.length = σ.length ∧ τ.flatten.length ≤ σ.flatten.length + 1

theorem Pl.lt (h : Pl w0 bc bf bm σ rb gb L w) {g : Nat} (hg : plS bc bf bm σ gb g) : g < w.heap.size := by
  rcases hg with hg | rfl
  · exact h.st.rep.lt hg
  · exact h.rf.ltg

theorem box_fp2 {S : Nat → Prop} {W w3 : World} {g : Nat} {a b c : Value} {ty : TypeId} (hn : W.heap[g]? = some (.cells #[a, b, c] ty (0, 0))) (hf : Fp S W w3) (hs : ¬ S g) :
    w3.cell? ⟨g, 0, none⟩ = some a ∧ w3.cell? ⟨g, 1, none⟩ = some b ∧ w3.cell? ⟨g, 2, none⟩ = some c := by
  have hb := (hf.block _ (Array.getElem?_eq_some_iff.1 hn).1 hs).trans hn
  exact ⟨by simp [World.cell?, hb], by simp [World.cell?, hb], by simp [World.cell?, hb]⟩

theorem box_fp {S : Nat → Prop} {W w3 : World} {a b c : Value} {ty : TypeId} (hf : Fp S ((W.alloc (.cells #[a, b, c] ty)).drew) w3) (hs : ¬ S W.heap.size) :
    w3.cell? ⟨W.heap.size, 0, none⟩ = some a ∧ w3.cell? ⟨W.heap.size, 1, none⟩ = some b ∧ w3.cell? ⟨W.heap.size, 2, none⟩ = some c := by
  have hn : (W.alloc (.cells #[a, b, c] ty)).drew.heap[W.heap.size]? = some (.cells #[a, b, c] ty (0, 0)) := heap_alloc_new W _
  have hb := (hf.block _ (Array.getElem?_eq_some_iff.1 hn).1 hs).trans hn
  exact ⟨by simp [World.cell?, hb], by simp [World.cell?, hb], by simp [World.cell?, hb]⟩

set_option maxHeartbeats 4000000 in
theorem act_do (h : Pl w0 bc bf bm σ rb gb (lks σ) w) (x : AAct) (hx : x.Ok) (h1 : 1 ≤ σ.length) (h64 : σ.length ≤ 64) (hcnt : σ.flatten.length ≤ 1000) :
    Calls Try.prog 17 #[x.v, .pointer (some ⟨bc, 0, none⟩), .pointer (some ⟨rb, 0, none⟩)] w (DoPost w0 bc bf bm rb gb σ) := by
  have hl := x.link_ok hx
  have hlink := fun W => act_link x hx W
  obtain ⟨kd, ch, sl, bk, at_, r0, r1, r2⟩ := x
  obtain ⟨k0, k1, c0, c1, s0, s1, wa, wr⟩ := hx
  dsimp only at k0 k1 c0 c1 s0 s1
  clear s0 s1
  have Hl := Lib.hid hl
  have Hlink := Lib.hid hlink
  have Wa := Lib.hid wa
  have Wr := Lib.hid wr
  have H := Lib.hid h
  clear hl hlink wa wr h
  generalize hL : AAct.link ⟨kd, ch, sl, bk, at_, r0, r1, r2⟩ = l at *
  clear hL
  obtain ⟨l0, l1, l2⟩ := l
  unfold AAct.v at *
  dsimp only at *
  have t1 : kd.tmod 8 = kd % 8 := Int.tmod_eq_emod_of_nonneg k0
  go_enter Try.func17, Try.ntmps17
  go_wp2_with fail
  refine (Hlink.out _).mono ?_
  rintro e w1 ⟨rfl, hp1⟩
  have hb := (hp1.block _ (by simp) id).trans (heap_alloc_new w _)
  have b0 : w1.cell? ⟨w.heap.size, 0, none⟩ = some (.int .u8 kd) := by simp [World.cell?, hb]
  have b1 : w1.cell? ⟨w.heap.size, 1, none⟩ = some (.int .u8 ch) := by simp [World.cell?, hb]
  have b4 : w1.cell? ⟨w.heap.size, 4, none⟩ = some (.int .i64 at_) := by simp [World.cell?, hb]
  have lbx : w.heap.size < w1.heap.size := cell_lt b0
  have hw1 : NoW w w1 := ((Fp.refl _ _).alloc _).trans hp1 (fun _ _ h => h)
  have H1 := Lib.hid (H.out.low hw1)
  clear hb hp1 hw1
  unfold lv
  have Hpl : Hid (Pl w0 bc bf bm σ rb gb (lks σ) ((w1.alloc (.cells #[.int .i64 l0, .int .u32 l1, .bool l2] 33)).drew)) := Lib.hid ((H1.out.low ((Fp.refl _ _).alloc _)).low (Fp.drew (Fp.refl _ _)))
  have Hbx : Hid (¬ plS bc bf bm σ gb w1.heap.size) := Lib.hid (fun h => Nat.lt_irrefl _ (H1.out.lt h))
  have Hax : Hid (¬ plS bc bf bm σ gb w.heap.size) := Lib.hid (fun h => Nat.lt_irrefl _ (H.out.lt h))
  have hW2 : NoW w1 ((w1.alloc (.cells #[.int .i64 l0, .int .u32 l1, .bool l2] 33)).drew) := Fp.drew ((Fp.refl _ _).alloc _)
  have y4 := Lib.hid ((hW2.cell (p := ⟨w.heap.size, 4, none⟩) lbx id).trans b4)
  have ly4 := Nat.lt_of_lt_of_le lbx hW2.size
  clear hW2
  have Hnd := Lib.hid H.out.st.rep.nd
  by_cases hk6 : kd % 8 = 6
  · have e4 : (kd % 8 == 4) = false := by simp [hk6]
    have e5 : (kd % 8 == 5) = false := by simp [hk6]
    have e7 : (kd % 8 == 7) = false := by simp [hk6]
    have e6 : (kd % 8 == 6) = true := by simp [hk6]
    clear hk6
    go_upto_region 8 with (fail)
    go_region_with (first | (go_at_call 9; refine (pl_put Hpl.out _ Hl.out).mono ?_; rintro e w3 ⟨q, τ, rfl, hp, hr, hf⟩; obtain ⟨x0, x1, x2⟩ := box_fp hf Hbx.out; have x4 := (hf.cell (p := ⟨w.heap.size, 4, none⟩) ly4 Hax.out).trans y4.out; have Hp := Lib.hid hp; have Hr := Lib.hid hr; clear hp hr hf) | (go_at_call 30; refine (pl_rput Hp.out h64 (by omega) _ _ q Hr.out).mono ?_; rintro e w4 ⟨rfl, hp4, _⟩; have Hp4 := Lib.hid hp4; clear hp4))
    all_goals go_wp2_with fail
    all_goals go_ret
    all_goals exact ⟨rfl, τ, Hp4.out, Hr.out.small⟩
  · have e6 : (kd % 8 == 6) = false := by simpa using hk6
    by_cases hc4 : kd % 8 = 4
    · have e4 : (kd % 8 == 4) = true := by simpa using hc4
      clear hk6 hc4
      go_upto_region 6 with (fail)
      go_region_with (first | (go_at_call 12; refine (pl_cut Hpl.out Hl.out).mono ?_; rintro e w3 ⟨q, τ, rfl, hp, hr, hf⟩; obtain ⟨x0, x1, x2⟩ := box_fp hf Hbx.out; have Hp := Lib.hid hp; have Hr := Lib.hid hr; clear hp hr hf) | (go_at_call 29; refine (pl_rcut Hp.out Hnd.out h64 (by omega) _ q Hr.out).mono ?_; rintro e w4 ⟨rfl, hp4, _⟩; have Hp4 := Lib.hid hp4; clear hp4))
      all_goals go_wp2_with fail
      all_goals go_ret
      all_goals exact ⟨rfl, τ, Hp4.out, Hr.out.small⟩
    · have e4 : (kd % 8 == 4) = false := by simpa using hc4
      by_cases hc5 : kd % 8 = 5
      · have e5 : (kd % 8 == 5) = true := by simpa using hc5
        clear hk6 hc4 hc5
        go_upto_region 6 with (fail)
        go_region_with (first | (go_at_call 12; refine (pl_cut Hpl.out Hl.out).mono ?_; rintro e w3 ⟨q, τ, rfl, hp, hr, hf⟩; obtain ⟨x0, x1, x2⟩ := box_fp hf Hbx.out; have Hp := Lib.hid hp; have Hr := Lib.hid hr; clear hp hr hf) | (go_at_call 29; refine (pl_rcut Hp.out Hnd.out h64 (by omega) _ q Hr.out).mono ?_; rintro e w4 ⟨rfl, hp4, _⟩; have Hp4 := Lib.hid hp4; clear hp4))
        all_goals go_wp2_with fail
        all_goals go_ret
        all_goals exact ⟨rfl, τ, Hp4.out, Hr.out.small⟩
      · have e5 : (kd % 8 == 5) = false := by simpa using hc5
        by_cases hc7 : kd % 8 = 7
        · have e7 : (kd % 8 == 7) = true := by simpa using hc7
          clear hk6 hc4 hc5 hc7
          go_upto_region 6 with (fail)
          go_region_with (first | (go_at_call 12; refine (pl_cut Hpl.out Hl.out).mono ?_; rintro e w3 ⟨q, τ, rfl, hp, hr, hf⟩; obtain ⟨x0, x1, x2⟩ := box_fp hf Hbx.out; have Hp := Lib.hid hp; have Hr := Lib.hid hr; clear hp hr hf) | (go_at_call 29; refine (pl_rcut Hp.out Hnd.out h64 (by omega) _ q Hr.out).mono ?_; rintro e w4 ⟨rfl, hp4, _⟩; have Hp4 := Lib.hid hp4; clear hp4))
          all_goals go_wp2_with fail
          all_goals go_ret
          all_goals exact ⟨rfl, τ, Hp4.out, Hr.out.small⟩
        · have e7 : (kd % 8 == 7) = false := by simpa using hc7
          clear hk6 hc4 hc5 hc7
          have d0 := H1.out.rf.c0
          rw [lks_len] at d0
          have lr1 := H1.out.rf.ltr
          have hne0 : (σ.length : Int) ≠ 0 := by omega
          have hne : ((σ.length : Int) == 0) = false := by simpa using hne0
          obtain ⟨m, hm⟩ : ∃ m : Nat, ch % (σ.length : Int) = m := ⟨(ch % (σ.length : Int)).toNat, by have := Int.emod_nonneg ch (b := (σ.length : Int)) (by omega); omega⟩
          have hm2 : ch.tmod (σ.length : Int) = (m : Int) := by rw [Int.tmod_eq_emod_of_nonneg c0]; exact hm
          have Hm := Lib.hid hm
          clear hm
          have wch : IntKind.i64.wrap ch = ch := IntWalk.i64_in _ (by omega)
          go_upto_region 9 with (fail)
          go_quiet (fail)
          have hpl5 : Pl w0 bc bf bm σ rb gb (lks σ) ((w1.alloc (.cells #[.int .i64 l0, .int .u32 l1, .bool l2] 33)).drewN nq) := H1.out.low (Fp.drewN ((Fp.refl _ _).alloc _) _)
          have hb5 : ((w1.alloc (.cells #[.int .i64 l0, .int .u32 l1, .bool l2] 33)).drewN nq).heap[w1.heap.size]? = some (.cells #[.int .i64 l0, .int .u32 l1, .bool l2] 33 (0, 0)) := heap_alloc_new w1 _
          obtain ⟨z0, z1, z2⟩ := box_fp2 hb5 (Fp.refl _ _) Hbx.out
          clear Hpl y4 ly4
          generalize (w1.alloc (.cells #[.int .i64 l0, .int .u32 l1, .bool l2] 33)).drewN nq = w5 at *
          have Hb5 : Hid (w5.drew.heap[w1.heap.size]? = some (.cells #[.int .i64 l0, .int .u32 l1, .bool l2] 33 (0, 0))) := Lib.hid hb5
          have Hpl5 := Lib.hid (hpl5.low (Fp.drew (Fp.refl _ _)))
          clear hb5 hpl5
          go_upto_region 10 with (fail)
          go_region_with (first | (go_at_call 9; refine (pl_put Hpl5.out _ Hl.out).mono ?_; rintro e w3 ⟨q, τ, rfl, hp, hr, hf⟩; obtain ⟨x0, x1, x2⟩ := box_fp2 Hb5.out hf Hbx.out; have Hp := Lib.hid hp; have Hr := Lib.hid hr; clear hp hr hf) | (go_at_call 30; refine (pl_rput Hp.out h64 (by omega) _ _ q Hr.out).mono ?_; rintro e w4 ⟨rfl, hp4, _⟩; have Hp4 := Lib.hid hp4; clear hp4))
          all_goals go_wp2_with fail
          all_goals go_ret
          all_goals exact ⟨rfl, τ, Hp4.out, Hr.out.small⟩
end
end Go.Proofs.Ytmhjdjndckeepaa
