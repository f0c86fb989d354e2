/- Chapter 18: Next, Touch (written by genef.py). -/
import Derived.Test.YtdmbjndhdldggaaGreatDoorEnI
namespace Go.Proofs.YtdmbjndhdldggaaGreatDoor
set_option linter.unusedVariables false
set_option linter.unusedSimpArgs false
open Go.RowKit Go.Lib Go.Sort

set_option maxHeartbeats 1000000 in
theorem next_ok (f : Nat) (hf : f < 4) (h3 : f ≠ 3) (s : Int) (bk : Bool) (fl : Int) (w : World) (ht : Tb w) :
    Calls Tryz.prog 37 #[.int .i64 f, .int .i64 s, .bool bk, .int .u8 fl] w (Ret1 (.int .i64 (if 0 < toN f s then (if bk = true then 2 else s) else 0)) w) := by
  have k := fun W hW => tmay_ok f hf s W hW
  have e3 : ((f : Int) == 3) = false := beq_eq_false_iff_ne.2 (by omega)
  have Ht := Lib.hid ht
  clear ht
  rcases hm : decide (0 < toN f s) with _ | _
  · rw [if_neg (of_decide_eq_false hm)]
    rw [hm] at k
    have K := Lib.hid k
    clear k hm
    go_enter Tryz.func37, Tryz.ntmps37
    go_wp2_with fail
    have hn : NoW w (w.alloc (.cells #[.bool bk, .int .u8 fl] 107)) := (Fp.refl _ _).alloc _
    refine (K.out _ (Ht.out.low hn)).mono ?_
    rintro e w' ⟨rfl, rfl⟩
    go_wp2_with fail
    go_ret
    exact ⟨rfl, hn⟩
  · rw [if_pos (of_decide_eq_true hm)]
    rw [hm] at k
    have K := Lib.hid k
    clear k hm
    rcases bk with _ | _
    all_goals
      go_enter Tryz.func37, Tryz.ntmps37
      go_wp2_with fail
    · have hn : NoW w (w.alloc (.cells #[.bool false, .int .u8 fl] 107)) := (Fp.refl _ _).alloc _
      refine (K.out _ (Ht.out.low hn)).mono ?_
      rintro e w' ⟨rfl, rfl⟩
      go_wp2_with fail
      go_ret
      exact ⟨rfl, hn⟩
    · have hn : NoW w (w.alloc (.cells #[.bool true, .int .u8 fl] 107)) := (Fp.refl _ _).alloc _
      refine (K.out _ (Ht.out.low hn)).mono ?_
      rintro e w' ⟨rfl, rfl⟩
      go_wp2_with fail
      go_ret
      exact ⟨rfl, hn⟩

set_option maxHeartbeats 4000000 in
set_option maxRecDepth 100000 in
theorem touch_core (r a p b q r2 a2 p2 b2 q2 st dl : Int) (hb ho n hc : Nat) (ys : List Value) (hn : n ≤ 100) (bk : Bool) (fl now f nx tm : Int) (w : World) (ht : Tb w) (hh : Holds w hb ho n ys)
    (hn0 : 0 ≤ now) (hn1 : now ≤ 1099511627776) (htm : IntKind.i64.wrap (now + tm) = now + tm)
    (k0 : ∀ W, Tb W → Calls Tryz.prog 16 #[.agg #[.int .u8 r, .int .u32 a, .int .u16 p, .int .u32 b, .int .u16 q, .int .u8 r2, .int .u32 a2, .int .u16 p2, .int .u32 b2, .int .u16 q2, .int .i64 st, .int .i64 dl, (.slice (some ⟨hb, ho, none⟩) n hc)]] W (Ret1 (.int .i64 0) W))
    (k1 : ∀ W, Calls Tryz.prog 36 #[.int .u8 r] W fun e w' => e = .returned (.int .i64 f) ∧ w' = W)
    (k2 : ∀ W, Tb W → Calls Tryz.prog 37 #[.int .i64 f, .int .i64 st, .bool bk, .int .u8 fl] W (Ret1 (.int .i64 nx) W))
    (k3 : ∀ W, Tb W → Calls Tryz.prog 38 #[.int .i64 f, .int .i64 nx] W fun e w' => e = .returned (.int .i64 tm) ∧ w' = W) :
    Calls Tryz.prog 15 #[.agg #[.int .u8 r, .int .u32 a, .int .u16 p, .int .u32 b, .int .u16 q, .int .u8 r2, .int .u32 a2, .int .u16 p2, .int .u32 b2, .int .u16 q2, .int .i64 st, .int .i64 dl, (.slice (some ⟨hb, ho, none⟩) n hc)], .bool bk, .int .u8 fl, .int .i64 now] w fun e w' => ∃ b' c', e = .returned (.tuple #[.agg #[.int .u8 r, .int .u32 a, .int .u16 p, .int .u32 b, .int .u16 q, .int .u8 r2, .int .u32 a2, .int .u16 p2, .int .u32 b2, .int .u16 q2, .int .i64 nx, .int .i64 (now + tm), (.slice (some ⟨b', 0, none⟩) n c')], .int .i64 0]) ∧ n ≤ c' ∧ w.heap.size ≤ b' ∧ Holds w' b' 0 n ys ∧ NoW w w' := by
  have Hh := Lib.hid hh
  have Ht := Lib.hid ht
  have K0 := Lib.hid k0
  have K1 := Lib.hid k1
  have K2 := Lib.hid k2
  have K3 := Lib.hid k3
  have kown := fun W (hW : Holds W hb ho n ys) => own_ok r a p b q r2 a2 p2 b2 q2 st dl hb ho n hc ys hn W hW
  have Kown := Lib.hid kown
  have hd0 : decide (now < 0) = false := by simpa using hn0
  have hd1 : decide (1099511627776 < now) = false := by simpa using hn1
  clear hh ht k0 k1 k2 k3 kown
  go_enter Tryz.func15, Tryz.ntmps15
  go_wp2_with fail
  have hw0 : NoW w ((w.alloc (.cells #[.int .u8 r, .int .u32 a, .int .u16 p, .int .u32 b, .int .u16 q, .int .u8 r2, .int .u32 a2, .int .u16 p2, .int .u32 b2, .int .u16 q2, .int .i64 st, .int .i64 dl, (.slice (some ⟨hb, ho, none⟩) n hc)] 31)).alloc (.cells #[.int .u8 0, .int .u32 0, .int .u16 0, .int .u32 0, .int .u16 0, .int .u8 0, .int .u32 0, .int .u16 0, .int .u32 0, .int .u16 0, .int .i64 0, .int .i64 0, .slice none 0 0] 31)) := ((Fp.refl _ _).alloc _).alloc _
  obtain ⟨hc0, hr0⟩ := box2 w (.cells #[.int .u8 r, .int .u32 a, .int .u16 p, .int .u32 b, .int .u16 q, .int .u8 r2, .int .u32 a2, .int .u16 p2, .int .u32 b2, .int .u16 q2, .int .i64 st, .int .i64 dl, (.slice (some ⟨hb, ho, none⟩) n hc)] 31) (.cells #[.int .u8 0, .int .u32 0, .int .u16 0, .int .u32 0, .int .u16 0, .int .u8 0, .int .u32 0, .int .u16 0, .int .u32 0, .int .u16 0, .int .i64 0, .int .i64 0, .slice none 0 0] 31)
  generalize (w.alloc (.cells #[.int .u8 r, .int .u32 a, .int .u16 p, .int .u32 b, .int .u16 q, .int .u8 r2, .int .u32 a2, .int .u16 p2, .int .u32 b2, .int .u16 q2, .int .i64 st, .int .i64 dl, (.slice (some ⟨hb, ho, none⟩) n hc)] 31)).alloc (.cells #[.int .u8 0, .int .u32 0, .int .u16 0, .int .u32 0, .int .u16 0, .int .u8 0, .int .u32 0, .int .u16 0, .int .u32 0, .int .u16 0, .int .i64 0, .int .i64 0, .slice none 0 0] 31) = w0 at *
  have Hg0 := Lib.hid (show w.heap.size ≤ w.heap.size ∧ w.heap.size ≤ w.heap.size + 1 from ⟨Nat.le_refl _, Nat.le_succ _⟩)
  have hlt12 : w.heap.size < w.heap.size + 1 := Nat.lt_succ_self _
  have Bc := Lib.hid hc0
  have By := Lib.hid hr0
  have Hw := Lib.hid hw0
  clear hc0 hr0 hw0
  generalize w.heap.size + 1 = g2 at *
  have Hs := Lib.hid (show ∀ W, NoW w W → w.heap.size ≤ W.heap.size from fun W h => h.size)
  obtain ⟨g, hg⟩ : ∃ g, g = w.heap.size := ⟨_, rfl⟩
  have Hg := Lib.hid hg
  rw [← hg] at hlt12 Hg0 Bc ⊢
  clear hg
  refine (K0.out _ (Ht.out.low Hw.out)).mono ?_
  rintro e v0 ⟨rfl, hp⟩
  have Hm0 := Lib.hid (Hw.out.trans hp (fun _ _ h => h))
  have hb0 := (hp.block _ (Array.getElem?_eq_some_iff.1 Bc.out).1 id).trans Bc.out
  clear Bc
  have Bc := Lib.hid hb0
  clear hb0
  have hb0 := (hp.block _ (Array.getElem?_eq_some_iff.1 By.out).1 id).trans By.out
  clear By
  have By := Lib.hid hb0
  clear hb0
  clear hp Hw
  have x0 : v0.cell? ⟨g, 0, none⟩ = some (.int .u8 r) := by simp [World.cell?, Bc.out]
  have x1 : v0.cell? ⟨g, 1, none⟩ = some (.int .u32 a) := by simp [World.cell?, Bc.out]
  have x2 : v0.cell? ⟨g, 2, none⟩ = some (.int .u16 p) := by simp [World.cell?, Bc.out]
  have x3 : v0.cell? ⟨g, 3, none⟩ = some (.int .u32 b) := by simp [World.cell?, Bc.out]
  have x4 : v0.cell? ⟨g, 4, none⟩ = some (.int .u16 q) := by simp [World.cell?, Bc.out]
  have x5 : v0.cell? ⟨g, 5, none⟩ = some (.int .u8 r2) := by simp [World.cell?, Bc.out]
  have x6 : v0.cell? ⟨g, 6, none⟩ = some (.int .u32 a2) := by simp [World.cell?, Bc.out]
  have x7 : v0.cell? ⟨g, 7, none⟩ = some (.int .u16 p2) := by simp [World.cell?, Bc.out]
  have x8 : v0.cell? ⟨g, 8, none⟩ = some (.int .u32 b2) := by simp [World.cell?, Bc.out]
  have x9 : v0.cell? ⟨g, 9, none⟩ = some (.int .u16 q2) := by simp [World.cell?, Bc.out]
  have x10 : v0.cell? ⟨g, 10, none⟩ = some (.int .i64 st) := by simp [World.cell?, Bc.out]
  have x11 : v0.cell? ⟨g, 11, none⟩ = some (.int .i64 dl) := by simp [World.cell?, Bc.out]
  have x12 : v0.cell? ⟨g, 12, none⟩ = some ((.slice (some ⟨hb, ho, none⟩) n hc)) := by simp [World.cell?, Bc.out]

  go_wp2_with fail
  clear x0 x1 x2 x3 x4 x5 x6 x7 x8 x9 x10 x11 x12

  refine (Kown.out _ (Hh.out.low Hm0.out)).mono ?_
  rintro e v1 ⟨b', c', rfl, hc', hB', hh', hp⟩
  have hgv : g2 < v0.heap.size := (Array.getElem?_eq_some_iff.1 By.out).1
  have Hm1 := Lib.hid (Hm0.out.trans hp (fun _ _ h => h))
  have hb0 := (hp.block _ (Array.getElem?_eq_some_iff.1 Bc.out).1 id).trans Bc.out
  clear Bc
  have Bc := Lib.hid hb0
  clear hb0
  have hb0 := (hp.block _ (Array.getElem?_eq_some_iff.1 By.out).1 id).trans By.out
  clear By
  have By := Lib.hid hb0
  clear hb0

  have Hh2 := Lib.hid hh'
  have Hc2 := Lib.hid hc'
  have hbg : g ≠ b' := by omega
  have hbg2 : g2 ≠ b' := by omega
  have Hbg := Lib.hid (And.intro hbg hbg2)
  have Hwb := Lib.hid (show w.heap.size ≤ b' by have := Hs.out _ Hm0.out; omega)
  have lg : g < v1.heap.size := (Array.getElem?_eq_some_iff.1 Bc.out).1
  have lg2 : g2 < v1.heap.size := (Array.getElem?_eq_some_iff.1 By.out).1
  have lb : b' < v1.heap.size := hh'.lt
  clear hp Hm0 hc' hB' hh' hbg hbg2 hgv
  have x0 : v1.cell? ⟨g, 0, none⟩ = some (.int .u8 r) := by simp [World.cell?, Bc.out]
  have x1 : v1.cell? ⟨g, 1, none⟩ = some (.int .u32 a) := by simp [World.cell?, Bc.out]
  have x2 : v1.cell? ⟨g, 2, none⟩ = some (.int .u16 p) := by simp [World.cell?, Bc.out]
  have x3 : v1.cell? ⟨g, 3, none⟩ = some (.int .u32 b) := by simp [World.cell?, Bc.out]
  have x4 : v1.cell? ⟨g, 4, none⟩ = some (.int .u16 q) := by simp [World.cell?, Bc.out]
  have x5 : v1.cell? ⟨g, 5, none⟩ = some (.int .u8 r2) := by simp [World.cell?, Bc.out]
  have x6 : v1.cell? ⟨g, 6, none⟩ = some (.int .u32 a2) := by simp [World.cell?, Bc.out]
  have x7 : v1.cell? ⟨g, 7, none⟩ = some (.int .u16 p2) := by simp [World.cell?, Bc.out]
  have x8 : v1.cell? ⟨g, 8, none⟩ = some (.int .u32 b2) := by simp [World.cell?, Bc.out]
  have x9 : v1.cell? ⟨g, 9, none⟩ = some (.int .u16 q2) := by simp [World.cell?, Bc.out]
  have x10 : v1.cell? ⟨g, 10, none⟩ = some (.int .i64 st) := by simp [World.cell?, Bc.out]
  have x11 : v1.cell? ⟨g, 11, none⟩ = some (.int .i64 dl) := by simp [World.cell?, Bc.out]
  have x12 : v1.cell? ⟨g, 12, none⟩ = some ((.slice (some ⟨hb, ho, none⟩) n hc)) := by simp [World.cell?, Bc.out]

  go_wp2_with fail
  refine (K1.out _).mono ?_
  rintro e v1' ⟨rfl, rfl⟩
  go_wp2_with fail
  have hq : NoW v1 (v1.alloc (.cells #[.int .u8 r, .int .u32 a, .int .u16 p, .int .u32 b, .int .u16 q, .int .u8 r2, .int .u32 a2, .int .u16 p2, .int .u32 b2, .int .u16 q2, .int .i64 st, .int .i64 dl, (.slice (some ⟨b', 0, none⟩) n c')] 31)) := (Fp.refl _ _).alloc _
  have Hq := Lib.hid (Hm1.out.trans hq (fun _ _ h => h))
  have hb0 := (hq.block _ (Array.getElem?_eq_some_iff.1 Bc.out).1 id).trans Bc.out
  clear Bc
  have Bc := Lib.hid hb0
  clear hb0
  have hb0 := (hq.block _ (Array.getElem?_eq_some_iff.1 By.out).1 id).trans By.out
  clear By
  have By := Lib.hid hb0
  clear hb0
  have B10 := Lib.hid (heap_alloc_new v1 (.cells #[.int .u8 r, .int .u32 a, .int .u16 p, .int .u32 b, .int .u16 q, .int .u8 r2, .int .u32 a2, .int .u16 p2, .int .u32 b2, .int .u16 q2, .int .i64 st, .int .i64 dl, (.slice (some ⟨b', 0, none⟩) n c')] 31))
  have Hh3 := Lib.hid (Hh2.out.low hq)
  clear hq Hm1 Hh2
  clear x0 x1 x2 x3 x4 x5 x6 x7 x8 x9 x10 x11 x12

  generalize v1.alloc (.cells #[.int .u8 r, .int .u32 a, .int .u16 p, .int .u32 b, .int .u16 q, .int .u8 r2, .int .u32 a2, .int .u16 p2, .int .u32 b2, .int .u16 q2, .int .i64 st, .int .i64 dl, (.slice (some ⟨b', 0, none⟩) n c')] 31) = v2 at *
  generalize v1.heap.size = g10 at *
  refine (K2.out _ (Ht.out.low Hq.out)).mono ?_
  rintro e v3 ⟨rfl, hp⟩
  have Hm3 := Lib.hid (Hq.out.trans hp (fun _ _ h => h))
  have hb0 := (hp.block _ (Array.getElem?_eq_some_iff.1 Bc.out).1 id).trans Bc.out
  clear Bc
  have Bc := Lib.hid hb0
  clear hb0
  have hb0 := (hp.block _ (Array.getElem?_eq_some_iff.1 By.out).1 id).trans By.out
  clear By
  have By := Lib.hid hb0
  clear hb0
  have hb0 := (hp.block _ (Array.getElem?_eq_some_iff.1 B10.out).1 id).trans B10.out
  clear B10
  have B10 := Lib.hid hb0
  clear hb0

  have Hh4 := Lib.hid (Hh3.out.low hp)
  clear hp Hq Hh3
  have hgw : w.heap.size ≤ g10 := by have h1 := Hg0.out.2; have h2 := Hg.out; omega
  have hg210 : ¬ g10 = g2 := by omega
  have hg102 : ¬ g2 = g10 := by omega
  have x0 : v3.cell? ⟨g10, 0, none⟩ = some (.int .u8 r) := by simp [World.cell?, B10.out]
  have zx0 : v3.frozen? ⟨g10, 0, none⟩ = false := by simp [World.frozen?, B10.out]
  have x1 : v3.cell? ⟨g10, 1, none⟩ = some (.int .u32 a) := by simp [World.cell?, B10.out]
  have zx1 : v3.frozen? ⟨g10, 1, none⟩ = false := by simp [World.frozen?, B10.out]
  have x2 : v3.cell? ⟨g10, 2, none⟩ = some (.int .u16 p) := by simp [World.cell?, B10.out]
  have zx2 : v3.frozen? ⟨g10, 2, none⟩ = false := by simp [World.frozen?, B10.out]
  have x3 : v3.cell? ⟨g10, 3, none⟩ = some (.int .u32 b) := by simp [World.cell?, B10.out]
  have zx3 : v3.frozen? ⟨g10, 3, none⟩ = false := by simp [World.frozen?, B10.out]
  have x4 : v3.cell? ⟨g10, 4, none⟩ = some (.int .u16 q) := by simp [World.cell?, B10.out]
  have zx4 : v3.frozen? ⟨g10, 4, none⟩ = false := by simp [World.frozen?, B10.out]
  have x5 : v3.cell? ⟨g10, 5, none⟩ = some (.int .u8 r2) := by simp [World.cell?, B10.out]
  have zx5 : v3.frozen? ⟨g10, 5, none⟩ = false := by simp [World.frozen?, B10.out]
  have x6 : v3.cell? ⟨g10, 6, none⟩ = some (.int .u32 a2) := by simp [World.cell?, B10.out]
  have zx6 : v3.frozen? ⟨g10, 6, none⟩ = false := by simp [World.frozen?, B10.out]
  have x7 : v3.cell? ⟨g10, 7, none⟩ = some (.int .u16 p2) := by simp [World.cell?, B10.out]
  have zx7 : v3.frozen? ⟨g10, 7, none⟩ = false := by simp [World.frozen?, B10.out]
  have x8 : v3.cell? ⟨g10, 8, none⟩ = some (.int .u32 b2) := by simp [World.cell?, B10.out]
  have zx8 : v3.frozen? ⟨g10, 8, none⟩ = false := by simp [World.frozen?, B10.out]
  have x9 : v3.cell? ⟨g10, 9, none⟩ = some (.int .u16 q2) := by simp [World.cell?, B10.out]
  have zx9 : v3.frozen? ⟨g10, 9, none⟩ = false := by simp [World.frozen?, B10.out]
  have x10 : v3.cell? ⟨g10, 10, none⟩ = some (.int .i64 st) := by simp [World.cell?, B10.out]
  have zx10 : v3.frozen? ⟨g10, 10, none⟩ = false := by simp [World.frozen?, B10.out]
  have x11 : v3.cell? ⟨g10, 11, none⟩ = some (.int .i64 dl) := by simp [World.cell?, B10.out]
  have zx11 : v3.frozen? ⟨g10, 11, none⟩ = false := by simp [World.frozen?, B10.out]
  have x12 : v3.cell? ⟨g10, 12, none⟩ = some ((.slice (some ⟨b', 0, none⟩) n c')) := by simp [World.cell?, B10.out]
  have zx12 : v3.frozen? ⟨g10, 12, none⟩ = false := by simp [World.frozen?, B10.out]

  go_wp2_with fail
  clear x0 zx0 x1 zx1 x2 zx2 x3 zx3 x4 zx4 x5 zx5 x6 zx6 x7 zx7 x8 zx8 x9 zx9 x10 zx10 x11 zx11 x12 zx12

  have hb := heap_set v3 g10 10 _ _ (.int .i64 nx) B10.out
  have hby := (heap_set_other v3 g10 g2 10 (.int .i64 nx) hg210).trans By.out
  have hhs := Hh4.out.set (p := ⟨g10, 10, none⟩) (show g10 ≠ b' by omega) (.int .i64 nx)
  have hnw := Hm3.out.setCell (p := ⟨g10, 10, none⟩) (Or.inl hgw) (.int .i64 nx)
  generalize v3.setCell ⟨g10, 10, none⟩ (.int .i64 nx) = v4 at *
  simp only [List.setIfInBounds_toArray, List.set_cons_zero, List.set_cons_succ] at hb
  clear B10 By Hm3 Hh4
  have B10 := Lib.hid hb
  have By := Lib.hid hby
  have Hm4 := Lib.hid hnw
  have Hh4 := Lib.hid hhs
  clear hb hby hnw hhs
  refine (K3.out _ (Ht.out.low Hm4.out)).mono ?_
  rintro e v4' ⟨rfl, rfl⟩
  have x0 : v4'.cell? ⟨g10, 0, none⟩ = some (.int .u8 r) := by simp [World.cell?, B10.out]
  have zx0 : v4'.frozen? ⟨g10, 0, none⟩ = false := by simp [World.frozen?, B10.out]
  have x1 : v4'.cell? ⟨g10, 1, none⟩ = some (.int .u32 a) := by simp [World.cell?, B10.out]
  have zx1 : v4'.frozen? ⟨g10, 1, none⟩ = false := by simp [World.frozen?, B10.out]
  have x2 : v4'.cell? ⟨g10, 2, none⟩ = some (.int .u16 p) := by simp [World.cell?, B10.out]
  have zx2 : v4'.frozen? ⟨g10, 2, none⟩ = false := by simp [World.frozen?, B10.out]
  have x3 : v4'.cell? ⟨g10, 3, none⟩ = some (.int .u32 b) := by simp [World.cell?, B10.out]
  have zx3 : v4'.frozen? ⟨g10, 3, none⟩ = false := by simp [World.frozen?, B10.out]
  have x4 : v4'.cell? ⟨g10, 4, none⟩ = some (.int .u16 q) := by simp [World.cell?, B10.out]
  have zx4 : v4'.frozen? ⟨g10, 4, none⟩ = false := by simp [World.frozen?, B10.out]
  have x5 : v4'.cell? ⟨g10, 5, none⟩ = some (.int .u8 r2) := by simp [World.cell?, B10.out]
  have zx5 : v4'.frozen? ⟨g10, 5, none⟩ = false := by simp [World.frozen?, B10.out]
  have x6 : v4'.cell? ⟨g10, 6, none⟩ = some (.int .u32 a2) := by simp [World.cell?, B10.out]
  have zx6 : v4'.frozen? ⟨g10, 6, none⟩ = false := by simp [World.frozen?, B10.out]
  have x7 : v4'.cell? ⟨g10, 7, none⟩ = some (.int .u16 p2) := by simp [World.cell?, B10.out]
  have zx7 : v4'.frozen? ⟨g10, 7, none⟩ = false := by simp [World.frozen?, B10.out]
  have x8 : v4'.cell? ⟨g10, 8, none⟩ = some (.int .u32 b2) := by simp [World.cell?, B10.out]
  have zx8 : v4'.frozen? ⟨g10, 8, none⟩ = false := by simp [World.frozen?, B10.out]
  have x9 : v4'.cell? ⟨g10, 9, none⟩ = some (.int .u16 q2) := by simp [World.cell?, B10.out]
  have zx9 : v4'.frozen? ⟨g10, 9, none⟩ = false := by simp [World.frozen?, B10.out]
  have x10 : v4'.cell? ⟨g10, 10, none⟩ = some (.int .i64 nx) := by simp [World.cell?, B10.out]
  have zx10 : v4'.frozen? ⟨g10, 10, none⟩ = false := by simp [World.frozen?, B10.out]
  have x11 : v4'.cell? ⟨g10, 11, none⟩ = some (.int .i64 dl) := by simp [World.cell?, B10.out]
  have zx11 : v4'.frozen? ⟨g10, 11, none⟩ = false := by simp [World.frozen?, B10.out]
  have x12 : v4'.cell? ⟨g10, 12, none⟩ = some ((.slice (some ⟨b', 0, none⟩) n c')) := by simp [World.cell?, B10.out]
  have zx12 : v4'.frozen? ⟨g10, 12, none⟩ = false := by simp [World.frozen?, B10.out]
  have y0 : v4'.cell? ⟨g2, 0, none⟩ = some (.int .u8 0) := by simp [World.cell?, By.out]
  have zy0 : v4'.frozen? ⟨g2, 0, none⟩ = false := by simp [World.frozen?, By.out]
  have y1 : v4'.cell? ⟨g2, 1, none⟩ = some (.int .u32 0) := by simp [World.cell?, By.out]
  have zy1 : v4'.frozen? ⟨g2, 1, none⟩ = false := by simp [World.frozen?, By.out]
  have y2 : v4'.cell? ⟨g2, 2, none⟩ = some (.int .u16 0) := by simp [World.cell?, By.out]
  have zy2 : v4'.frozen? ⟨g2, 2, none⟩ = false := by simp [World.frozen?, By.out]
  have y3 : v4'.cell? ⟨g2, 3, none⟩ = some (.int .u32 0) := by simp [World.cell?, By.out]
  have zy3 : v4'.frozen? ⟨g2, 3, none⟩ = false := by simp [World.frozen?, By.out]
  have y4 : v4'.cell? ⟨g2, 4, none⟩ = some (.int .u16 0) := by simp [World.cell?, By.out]
  have zy4 : v4'.frozen? ⟨g2, 4, none⟩ = false := by simp [World.frozen?, By.out]
  have y5 : v4'.cell? ⟨g2, 5, none⟩ = some (.int .u8 0) := by simp [World.cell?, By.out]
  have zy5 : v4'.frozen? ⟨g2, 5, none⟩ = false := by simp [World.frozen?, By.out]
  have y6 : v4'.cell? ⟨g2, 6, none⟩ = some (.int .u32 0) := by simp [World.cell?, By.out]
  have zy6 : v4'.frozen? ⟨g2, 6, none⟩ = false := by simp [World.frozen?, By.out]
  have y7 : v4'.cell? ⟨g2, 7, none⟩ = some (.int .u16 0) := by simp [World.cell?, By.out]
  have zy7 : v4'.frozen? ⟨g2, 7, none⟩ = false := by simp [World.frozen?, By.out]
  have y8 : v4'.cell? ⟨g2, 8, none⟩ = some (.int .u32 0) := by simp [World.cell?, By.out]
  have zy8 : v4'.frozen? ⟨g2, 8, none⟩ = false := by simp [World.frozen?, By.out]
  have y9 : v4'.cell? ⟨g2, 9, none⟩ = some (.int .u16 0) := by simp [World.cell?, By.out]
  have zy9 : v4'.frozen? ⟨g2, 9, none⟩ = false := by simp [World.frozen?, By.out]
  have y10 : v4'.cell? ⟨g2, 10, none⟩ = some (.int .i64 0) := by simp [World.cell?, By.out]
  have zy10 : v4'.frozen? ⟨g2, 10, none⟩ = false := by simp [World.frozen?, By.out]
  have y11 : v4'.cell? ⟨g2, 11, none⟩ = some (.int .i64 0) := by simp [World.cell?, By.out]
  have zy11 : v4'.frozen? ⟨g2, 11, none⟩ = false := by simp [World.frozen?, By.out]
  have y12 : v4'.cell? ⟨g2, 12, none⟩ = some (.slice none 0 0) := by simp [World.cell?, By.out]
  have zy12 : v4'.frozen? ⟨g2, 12, none⟩ = false := by simp [World.frozen?, By.out]

  go_wp2_with fail
  obtain ⟨W, hW, hb2, hf2⟩ := set13 (v4'.setCell ⟨g10, 11, none⟩ (.int .i64 (now + tm))) g2 31 (.int .u8 0) (.int .u32 0) (.int .u16 0) (.int .u32 0) (.int .u16 0) (.int .u8 0) (.int .u32 0) (.int .u16 0) (.int .u32 0) (.int .u16 0) (.int .i64 0) (.int .i64 0) (.slice none 0 0) ((heap_set_other v4' g10 g2 11 _ hg210).trans By.out) (.int .u8 r) (.int .u32 a) (.int .u16 p) (.int .u32 b) (.int .u16 q) (.int .u8 r2) (.int .u32 a2) (.int .u16 p2) (.int .u32 b2) (.int .u16 q2) (.int .i64 nx) (.int .i64 (now + tm)) ((.slice (some ⟨b', 0, none⟩) n c'))
  rw [← hW]
  have Hf2 := Lib.hid hf2
  clear hW hf2
  clear x0 zx0 x1 zx1 x2 zx2 x3 zx3 x4 zx4 x5 zx5 x6 zx6 x7 zx7 x8 zx8 x9 zx9 x10 zx10 x11 zx11 x12 zx12
  clear y0 zy0 y1 zy1 y2 zy2 y3 zy3 y4 zy4 y5 zy5 y6 zy6 y7 zy7 y8 zy8 y9 zy9 y10 zy10 y11 zy11 y12 zy12
  have y0 : W.cell? ⟨g2, 0, none⟩ = some (.int .u8 r) := by simp [World.cell?, hb2]
  have y1 : W.cell? ⟨g2, 1, none⟩ = some (.int .u32 a) := by simp [World.cell?, hb2]
  have y2 : W.cell? ⟨g2, 2, none⟩ = some (.int .u16 p) := by simp [World.cell?, hb2]
  have y3 : W.cell? ⟨g2, 3, none⟩ = some (.int .u32 b) := by simp [World.cell?, hb2]
  have y4 : W.cell? ⟨g2, 4, none⟩ = some (.int .u16 q) := by simp [World.cell?, hb2]
  have y5 : W.cell? ⟨g2, 5, none⟩ = some (.int .u8 r2) := by simp [World.cell?, hb2]
  have y6 : W.cell? ⟨g2, 6, none⟩ = some (.int .u32 a2) := by simp [World.cell?, hb2]
  have y7 : W.cell? ⟨g2, 7, none⟩ = some (.int .u16 p2) := by simp [World.cell?, hb2]
  have y8 : W.cell? ⟨g2, 8, none⟩ = some (.int .u32 b2) := by simp [World.cell?, hb2]
  have y9 : W.cell? ⟨g2, 9, none⟩ = some (.int .u16 q2) := by simp [World.cell?, hb2]
  have y10 : W.cell? ⟨g2, 10, none⟩ = some (.int .i64 nx) := by simp [World.cell?, hb2]
  have y11 : W.cell? ⟨g2, 11, none⟩ = some (.int .i64 (now + tm)) := by simp [World.cell?, hb2]
  have y12 : W.cell? ⟨g2, 12, none⟩ = some ((.slice (some ⟨b', 0, none⟩) n c')) := by simp [World.cell?, hb2]

  refine bodyPost_ret (v := .tuple #[.agg #[.int .u8 r, .int .u32 a, .int .u16 p, .int .u32 b, .int .u16 q, .int .u8 r2, .int .u32 a2, .int .u16 p2, .int .u32 b2, .int .u16 q2, .int .i64 nx, .int .i64 (now + tm), (.slice (some ⟨b', 0, none⟩) n c')], .int .i64 0]) (by simp only [results, Tryz.results15]; go_simp) rfl ⟨b', c', rfl, Hc2.out, Hwb.out, ?_, ?_⟩
  · have h1 := Hh4.out.set (p := ⟨g10, 11, none⟩) (show g10 ≠ b' by omega) (.int .i64 (now + tm))
    exact ⟨h1.len, fun j x hj => (Hf2.out.cell (p := ⟨b', 0 + j, none⟩) h1.lt (fun e => Hbg.out.2 e.symm)).trans (h1.cell j x hj), h1.one, Nat.lt_of_lt_of_le h1.lt Hf2.out.size⟩
  · exact (Fp.setCell Hm4.out (p := ⟨g10, 11, none⟩) (Or.inl hgw) _).trans Hf2.out (fun i hi e => by have h1 := Hg0.out.2; have h2 := Hg.out; omega)
end Go.Proofs.YtdmbjndhdldggaaGreatDoor
