/- Texts of this proof, merged: AuC. -/
import Derived.Test.YtcimbbllefkdlaaGreatDoorMaj
import Derived.Test.YtcimbbllefkdlaaGreatDoorMah
import Derived.Test.YtcimbbllefkdlaaGreatDoorMaa
import Derived.Test.YtcimbbllefkdlaaGreatDoorMab
import Derived.Test.YtcimbbllefkdlaaGreatDoorMac
import Derived.Test.YtcimbbllefkdlaaGreatDoorMad
import Derived.Test.YtcimbbllefkdlaaGreatDoorMae
import Derived.Test.YtcimbbllefkdlaaGreatDoorMaf
import Derived.Test.YtcimbbllefkdlaaGreatDoorMag
import Derived.Test.YtcimbbllefkdlaaGreatDoorMai
namespace Go.Proofs.YtcimbbllefkdlaaGreatDoor
set_option linter.unusedVariables false
set_option linter.unusedSimpArgs false
open Go.RowKit Go.Lib Go.Sort
set_option maxHeartbeats 8000000 in
set_option maxRecDepth 100000 in
theorem aput_ok (v : VD) (sa ca pa qa : Option Addr) (sc cc pc qc : Nat) (g : Nat) (fs : List (Int × Int)) (n : Int) (w0 w : World) (hS : AtC w0 sa v.ns 16 (fun i => (v.S i).cs)) (h : AuLk w0 w g [.int .i64 v.now, .slice sa v.ns sc, .slice ca v.nc cc, .slice pa v.np pc, .slice qa v.nq qc, .int .i64 v.free, .int .i64 v.live, .int .i64 v.gone] fs) :
    Calls Tryz.prog 40 #[.pointer (some ⟨g, 0, none⟩), .int .i64 n] w (Ret1 (.bool (v.putS n)) w) := by
  have HL := Lib.hid h
  have HS := Lib.hid hS
  clear h hS
  have cg1 := HL.out.cell 1 rfl
  have lg := HL.out.lt
  rcases h0 : decide (0 ≤ n) with _ | _
  · rw [show v.putS n = false from by unfold VD.putS; rw [h0]; rfl]
    go_enter Tryz.func40, Tryz.ntmps40
    go_wp2_with fail
    go_ret
    exact ⟨rfl, Fp.refl _ _⟩
  · rcases h1 : decide (n < (v.ns : Int)) with _ | _
    · rw [show v.putS n = false from by unfold VD.putS; rw [h0, h1]; rfl]
      go_enter Tryz.func40, Tryz.ntmps40
      go_wp2_with fail
      go_ret
      exact ⟨rfl, Fp.refl _ _⟩
    · obtain ⟨i, rfl⟩ : ∃ i : Nat, n = (i : Int) := ⟨n.toNat, by have := of_decide_eq_true h0; omega⟩
      have hi : i < v.ns := by have := of_decide_eq_true h1; omega
      rw [show v.putS (i : Int) = (v.S i).put from by unfold VD.putS; rw [h0, h1]; simp]
      obtain ⟨b1, o1, hs, lb, xc⟩ := (HS.out.low HL.out.low) i hi
      subst hs
      have x1 : w.cell? ⟨b1, o1 + i * 16 + 1, none⟩ = some (.bool (v.S i).put) := xc 1 _ rfl
      have ci : (i : Int) < (v.ns : Int) := by omega
      clear xc
      go_enter Tryz.func40, Tryz.ntmps40
      go_wp2_with fail
      go_ret
      exact ⟨rfl, Fp.refl _ _⟩
set_option maxHeartbeats 8000000 in
set_option maxRecDepth 100000 in
theorem wants_ok (v : VD) (sa ca pa qa : Option Addr) (sc cc pc qc : Nat) (g : Nat) (fs : List (Int × Int)) (i : Nat) (hi : i < v.ns) (w0 w : World) (hS : AtC w0 sa v.ns 16 (fun i => (v.S i).cs)) (h : AuLk w0 w g [.int .i64 v.now, .slice sa v.ns sc, .slice ca v.nc cc, .slice pa v.np pc, .slice qa v.nq qc, .int .i64 v.free, .int .i64 v.live, .int .i64 v.gone] fs) :
    Calls Tryz.prog 44 #[.pointer (some ⟨g, 0, none⟩), .int .i64 (i : Int)] w (Ret1 (.int .i64 (v.wants i : Nat)) w) := by
  have K := Lib.hid (aput_ok v sa ca pa qa sc cc pc qc g fs (i : Int) w0 w hS h)
  have e1 : v.putS (i : Int) = (v.S i).put := by simp [VD.putS, hi]
  rw [e1] at K
  clear h hS e1
  rcases hp : (v.S i).put with _ | _
  all_goals
    rw [hp] at K
    have hw : v.wants i = if (v.S i).put then 1 else 0 := rfl
    rw [hp] at hw
    simp only [if_true, Bool.false_eq_true, if_false] at hw
    rw [hw]
    clear hw hp
    go_enter Tryz.func44, Tryz.ntmps44
    go_wp2_with fail
    refine K.out.mono ?_
    rintro e w1 ⟨rfl, hq⟩
    have Hq := Lib.hid hq
    clear hq
    go_wp2_with fail
    go_ret
    exact ⟨rfl, Hq.out⟩
set_option maxHeartbeats 8000000 in
set_option maxRecDepth 100000 in
theorem live_look (v : VD) (sa ca pa qa : Option Addr) (sc cc pc qc : Nat) (g : Nat) (fs : List (Int × Int)) (i : Nat) (hi : i < v.ns) (w0 w : World) (hS : AtC w0 sa v.ns 16 (fun i => (v.S i).cs)) (h : AuLk w0 w g [.int .i64 v.now, .slice sa v.ns sc, .slice ca v.nc cc, .slice pa v.np pc, .slice qa v.nq qc, .int .i64 v.free, .int .i64 v.live, .int .i64 v.gone] fs) :
    Calls Tryz.prog 45 #[.pointer (some ⟨g, 0, none⟩), .int .i64 (i : Int)] w (Ret1 (.bool (v.liveS i)) w) := by
  have HL := Lib.hid h
  have HS := Lib.hid hS
  clear h hS
  obtain ⟨b1, o1, hs, lb, xc⟩ := (HS.out.low HL.out.low) i hi
  subst hs
  have x0 : w.cell? ⟨b1, o1 + i * 16, none⟩ = some (.bool (v.S i).used) := xc 0 _ rfl
  have x1 : w.cell? ⟨b1, o1 + i * 16 + 1, none⟩ = some (.bool (v.S i).put) := xc 1 _ rfl
  have x2 : w.cell? ⟨b1, o1 + i * 16 + 2, none⟩ = some (.bool (v.S i).dead) := xc 2 _ rfl
  have x3 : w.cell? ⟨b1, o1 + i * 16 + 3, none⟩ = some (.int .u8 (v.S i).e.r) := xc 3 _ rfl
  have x4 : w.cell? ⟨b1, o1 + i * 16 + 4, none⟩ = some (.int .u32 (v.S i).e.a) := xc 4 _ rfl
  have x5 : w.cell? ⟨b1, o1 + i * 16 + 5, none⟩ = some (.int .u16 (v.S i).e.p) := xc 5 _ rfl
  have x6 : w.cell? ⟨b1, o1 + i * 16 + 6, none⟩ = some (.int .u32 (v.S i).e.b) := xc 6 _ rfl
  have x7 : w.cell? ⟨b1, o1 + i * 16 + 7, none⟩ = some (.int .u16 (v.S i).e.q) := xc 7 _ rfl
  have x8 : w.cell? ⟨b1, o1 + i * 16 + 8, none⟩ = some (.int .u8 (v.S i).e.r2) := xc 8 _ rfl
  have x9 : w.cell? ⟨b1, o1 + i * 16 + 9, none⟩ = some (.int .u32 (v.S i).e.a2) := xc 9 _ rfl
  have x10 : w.cell? ⟨b1, o1 + i * 16 + 10, none⟩ = some (.int .u16 (v.S i).e.p2) := xc 10 _ rfl
  have x11 : w.cell? ⟨b1, o1 + i * 16 + 11, none⟩ = some (.int .u32 (v.S i).e.b2) := xc 11 _ rfl
  have x12 : w.cell? ⟨b1, o1 + i * 16 + 12, none⟩ = some (.int .u16 (v.S i).e.q2) := xc 12 _ rfl
  have x13 : w.cell? ⟨b1, o1 + i * 16 + 13, none⟩ = some (.int .i64 (v.S i).e.st) := xc 13 _ rfl
  have x14 : w.cell? ⟨b1, o1 + i * 16 + 14, none⟩ = some (.int .i64 (v.S i).e.dl) := xc 14 _ rfl
  have x15 : w.cell? ⟨b1, o1 + i * 16 + 15, none⟩ = some (.slice (v.S i).e.ad (v.S i).e.n (v.S i).e.c) := xc 15 _ rfl
  have cg1 := HL.out.cell 1 rfl
  have lg := HL.out.lt
  have ci : (i : Int) < (v.ns : Int) := by omega
  clear xc
  obtain ⟨res, hr⟩ : ∃ r, r = v.liveS i := ⟨_, rfl⟩
  rw [← hr]
  have HR := Lib.hid hr
  clear hr
  go_enter Tryz.func45, Tryz.ntmps45
  have HN := Lib.hid (Fp.refl (fun _ => False) w)
  go_upto_region 2 with fail
  clear x0 x1 x2 x3 x4 x5 x6 x7 x8 x9 x10 x11 x12 x13 x14 x15 cg1 lg
  refine wp_gen (fun x1 hW => ?_)
  have hp := new_now hW
  have hB := new_blk hW
  clear hW
  have hGe := hid_ge HN
  replace HN := hid_now HN hp
  replace HL := Lib.hid (HL.out.step hp)
  obtain ⟨x, hx⟩ : ∃ x, x = w.heap.size := ⟨_, rfl⟩
  have G_x := Lib.hid (Nat.le_trans hGe (Nat.le_of_eq hx.symm))
  rw [← hx] at hB ⊢
  have B_x := hB
  clear hB hGe hx
  clear hp
  have cx0 := cell_at B_x 0 rfl
  have cx1 := cell_at B_x 1 rfl
  have cx2 := cell_at B_x 2 rfl
  have cx3 := cell_at B_x 3 rfl
  have cx4 := cell_at B_x 4 rfl
  have cx5 := cell_at B_x 5 rfl
  have cx6 := cell_at B_x 6 rfl
  have cx7 := cell_at B_x 7 rfl
  have cx8 := cell_at B_x 8 rfl
  have cx9 := cell_at B_x 9 rfl
  have cx10 := cell_at B_x 10 rfl
  have cx11 := cell_at B_x 11 rfl
  have cx12 := cell_at B_x 12 rfl
  have cx13 := cell_at B_x 13 rfl
  have cx14 := cell_at B_x 14 rfl
  have cx15 := cell_at B_x 15 rfl
  have zx := froz_at B_x
  have lx := hid_lt B_x
  have cg0 := HL.out.cell 0 rfl
  have lg := HL.out.lt
  rcases hp0 : (v.S i).put with _ | _
  · obtain rfl : res = false := HR.out.trans (by simp [VD.liveS, hp0])
    rw [hp0] at cx1
    clear hp0
    refine wp_region_held_drew (S := fun wx => NoW x1 wx) (by kernel_rfl) (Fp.drew (Fp.refl _ _)) (fun hHeld0 => ?_)
    refine any_eq hHeld0 (fun x2 hW hHeld => ?_)
    clear hHeld0
    replace B_x := hid_blk B_x (noW_drew hW)
    clear hW
    (refine tk 0 (some 14) ?_ ?_ ?_; rotate_left; (focus (intro wS hSw; go_simp; try with_reducible rfl)); (try simp only [Act.put, List.setIfInBounds_toArray, List.set_cons_zero, List.set_cons_succ]))
    (refine tk 1 (some 15) ?_ ?_ ?_; rotate_left; (focus (intro wS hSw; (have p1 := (hSw.cell (p := ⟨x, 1, none⟩) lx id).trans cx1); go_simp; try with_reducible rfl)); (try simp only [Act.put, List.setIfInBounds_toArray, List.set_cons_zero, List.set_cons_succ]))
    (refine tk 2 (some 16) ?_ ?_ ?_; rotate_left; (focus (intro wS hSw; go_simp; try with_reducible rfl)); (try simp only [Act.put, List.setIfInBounds_toArray, List.set_cons_zero, List.set_cons_succ]))
    (refine dk 3 (some 17) ?_; (try simp only [Act.put, List.setIfInBounds_toArray, List.set_cons_zero, List.set_cons_succ]))
    (refine dk 4 (some 18) ?_; (try simp only [Act.put, List.setIfInBounds_toArray, List.set_cons_zero, List.set_cons_succ]))
    (refine dk 5 (some 19) ?_; (try simp only [Act.put, List.setIfInBounds_toArray, List.set_cons_zero, List.set_cons_succ]))
    (refine tk 6 (some 20) ?_ ?_ ?_; rotate_left; (focus (intro wS hSw; go_simp; try with_reducible rfl)); (try simp only [Act.put, List.setIfInBounds_toArray, List.set_cons_zero, List.set_cons_succ]))
    (refine tk 7 (some 21) ?_ ?_ ?_; rotate_left; (focus (intro wS hSw; go_simp; try with_reducible rfl)); (try simp only [Act.put, List.setIfInBounds_toArray, List.set_cons_zero, List.set_cons_succ]))
    (refine dk 8 (some 22) ?_; (try simp only [Act.put, List.setIfInBounds_toArray, List.set_cons_zero, List.set_cons_succ]))
    (refine dk 9 (some 23) ?_; (try simp only [Act.put, List.setIfInBounds_toArray, List.set_cons_zero, List.set_cons_succ]))
    (refine dk 10 (some 24) ?_; (try simp only [Act.put, List.setIfInBounds_toArray, List.set_cons_zero, List.set_cons_succ]))
    (refine dk 11 (some 25) ?_; (try simp only [Act.put, List.setIfInBounds_toArray, List.set_cons_zero, List.set_cons_succ]))
    (refine dk 12 (some 26) ?_; (try simp only [Act.put, List.setIfInBounds_toArray, List.set_cons_zero, List.set_cons_succ]))
    (refine dk 13 (some 27) ?_; (try simp only [Act.put, List.setIfInBounds_toArray, List.set_cons_zero, List.set_cons_succ]))
    (refine dk 14 (some 28) ?_; (try simp only [Act.put, List.setIfInBounds_toArray, List.set_cons_zero, List.set_cons_succ]))
    (refine dk 15 (some 29) ?_; (try simp only [Act.put, List.setIfInBounds_toArray, List.set_cons_zero, List.set_cons_succ]))
    (refine tk 16 (some 30) ?_ ?_ ?_; rotate_left; (focus (intro wS hSw; go_simp; try with_reducible rfl)); (try simp only [Act.put, List.setIfInBounds_toArray, List.set_cons_zero, List.set_cons_succ]))
    (refine tk 17 (some 4) ?_ ?_ ?_; rotate_left; (focus (intro wS hSw; go_simp; try with_reducible rfl)); (try simp only [Act.put, List.setIfInBounds_toArray, List.set_cons_zero, List.set_cons_succ]))
    refine wpAnyH_done (by kernel_rfl) ?_ _
    clear cx0 cx1 cx2 cx3 cx4 cx5 cx6 cx7 cx8 cx9 cx10 cx11 cx12 cx13 cx14 cx15 zx lx cg0 lg
    have hGe := hid_ge HN
    replace HN := hid_now HN hHeld
    replace HL := Lib.hid (HL.out.step hHeld)
    clear hHeld hGe
    go_wp2_with fail
    go_ret
    exact ⟨rfl, HN.out⟩
  · rcases hd : (v.S i).dead with _ | _
    · obtain rfl : res = decide (v.now < (v.S i).e.dl) := HR.out.trans (by simp [VD.liveS, hp0, hd])
      rw [hp0] at cx1
      rw [hd] at cx2
      clear hp0 hd
      refine wp_region_held_drew (S := fun wx => NoW x1 wx) (by kernel_rfl) (Fp.drew (Fp.refl _ _)) (fun hHeld0 => ?_)
      refine any_eq hHeld0 (fun x2 hW hHeld => ?_)
      clear hHeld0
      replace B_x := hid_blk B_x (noW_drew hW)
      clear hW
      (refine tk 0 (some 14) ?_ ?_ ?_; rotate_left; (focus (intro wS hSw; go_simp; try with_reducible rfl)); (try simp only [Act.put, List.setIfInBounds_toArray, List.set_cons_zero, List.set_cons_succ]))
      (refine tk 1 (some 15) ?_ ?_ ?_; rotate_left; (focus (intro wS hSw; (have p1 := (hSw.cell (p := ⟨x, 1, none⟩) lx id).trans cx1); go_simp; try with_reducible rfl)); (try simp only [Act.put, List.setIfInBounds_toArray, List.set_cons_zero, List.set_cons_succ]))
      (refine tk 2 (some 16) ?_ ?_ ?_; rotate_left; (focus (intro wS hSw; go_simp; try with_reducible rfl)); (try simp only [Act.put, List.setIfInBounds_toArray, List.set_cons_zero, List.set_cons_succ]))
      (refine tk 3 (some 17) ?_ ?_ ?_; rotate_left; (focus (intro wS hSw; go_simp; try with_reducible rfl)); (try simp only [Act.put, List.setIfInBounds_toArray, List.set_cons_zero, List.set_cons_succ]))
      (refine tk 4 (some 18) ?_ ?_ ?_; rotate_left; (focus (intro wS hSw; (have p2 := (hSw.cell (p := ⟨x, 2, none⟩) lx id).trans cx2); go_simp; try with_reducible rfl)); (try simp only [Act.put, List.setIfInBounds_toArray, List.set_cons_zero, List.set_cons_succ]))
      (refine tk 5 (some 19) ?_ ?_ ?_; rotate_left; (focus (intro wS hSw; go_simp; try with_reducible rfl)); (try simp only [Act.put, List.setIfInBounds_toArray, List.set_cons_zero, List.set_cons_succ]))
      (refine tk 6 (some 20) ?_ ?_ ?_; rotate_left; (focus (intro wS hSw; go_simp; try with_reducible rfl)); (try simp only [Act.put, List.setIfInBounds_toArray, List.set_cons_zero, List.set_cons_succ]))
      (refine tk 7 (some 21) ?_ ?_ ?_; rotate_left; (focus (intro wS hSw; go_simp; try with_reducible rfl)); (try simp only [Act.put, List.setIfInBounds_toArray, List.set_cons_zero, List.set_cons_succ]))
      (refine tk 8 (some 22) ?_ ?_ ?_; rotate_left; (focus (intro wS hSw; go_simp; try with_reducible rfl)); (try simp only [Act.put, List.setIfInBounds_toArray, List.set_cons_zero, List.set_cons_succ]))
      (refine tk 9 (some 23) ?_ ?_ ?_; rotate_left; (focus (intro wS hSw; (have p3 := (hSw.cell (p := ⟨x, 3, none⟩) lx id).trans cx3); (have p4 := (hSw.cell (p := ⟨x, 4, none⟩) lx id).trans cx4); (have p5 := (hSw.cell (p := ⟨x, 5, none⟩) lx id).trans cx5); (have p6 := (hSw.cell (p := ⟨x, 6, none⟩) lx id).trans cx6); (have p7 := (hSw.cell (p := ⟨x, 7, none⟩) lx id).trans cx7); (have p8 := (hSw.cell (p := ⟨x, 8, none⟩) lx id).trans cx8); (have p9 := (hSw.cell (p := ⟨x, 9, none⟩) lx id).trans cx9); (have p10 := (hSw.cell (p := ⟨x, 10, none⟩) lx id).trans cx10); (have p11 := (hSw.cell (p := ⟨x, 11, none⟩) lx id).trans cx11); (have p12 := (hSw.cell (p := ⟨x, 12, none⟩) lx id).trans cx12); (have p13 := (hSw.cell (p := ⟨x, 13, none⟩) lx id).trans cx13); (have p14 := (hSw.cell (p := ⟨x, 14, none⟩) lx id).trans cx14); (have p15 := (hSw.cell (p := ⟨x, 15, none⟩) lx id).trans cx15); go_simp; try with_reducible rfl)); (try simp only [Act.put, List.setIfInBounds_toArray, List.set_cons_zero, List.set_cons_succ]))
      (refine tk 10 (some 24) ?_ ?_ ?_; rotate_left; (focus (intro wS hSw; go_simp; try with_reducible rfl)); (try simp only [Act.put, List.setIfInBounds_toArray, List.set_cons_zero, List.set_cons_succ]))
      (refine tk 11 (some 25) ?_ ?_ ?_; rotate_left; (focus (intro wS hSw; go_simp; try with_reducible rfl)); (try simp only [Act.put, List.setIfInBounds_toArray, List.set_cons_zero, List.set_cons_succ]))
      (refine tk 12 (some 26) ?_ ?_ ?_; rotate_left; (focus (intro wS hSw; go_simp; try with_reducible rfl)); (try simp only [Act.put, List.setIfInBounds_toArray, List.set_cons_zero, List.set_cons_succ]))
      (refine tk 13 (some 27) ?_ ?_ ?_; rotate_left; (focus (intro wS hSw; go_simp; try with_reducible rfl)); (try simp only [Act.put, List.setIfInBounds_toArray, List.set_cons_zero, List.set_cons_succ]))
      (refine tk 14 (some 28) ?_ ?_ ?_; rotate_left; (focus (intro wS hSw; (have q0 := (hSw.cell (p := ⟨g, 0, none⟩) lg id).trans cg0); go_simp; try with_reducible rfl)); (try simp only [Act.put, List.setIfInBounds_toArray, List.set_cons_zero, List.set_cons_succ]))
      refine wpAnyH_ready (rs := [15]) (by kernel_rfl) (by simp) ?_
      refine AllReadyH.cons rfl (fun K hK => ?_) AllReadyH.nil
      go_simp
      go_at_call 70
      refine (show Calls _ _ _ _ _ from live_ok (v.S i).e.r (v.S i).e.a (v.S i).e.p (v.S i).e.b (v.S i).e.q (v.S i).e.r2 (v.S i).e.a2 (v.S i).e.p2 (v.S i).e.b2 (v.S i).e.q2 (v.S i).e.st (v.S i).e.dl (.slice (v.S i).e.ad (v.S i).e.n (v.S i).e.c) v.now _).mono ?_
      rintro e x3 ⟨rfl, hp⟩
      have hn := Fp.trans hHeld hp (fun _ _ h => h.elim)
      replace B_x := hid_blk B_x hp
      refine k_now hK hn ?_
      clear hK K hp hHeld
      have hHeld := hn
      clear hn
      try simp only [Act.put, List.setIfInBounds_toArray, List.set_cons_zero, List.set_cons_succ]
      (refine tk 16 (some 30) ?_ ?_ ?_; rotate_left; (focus (intro wS hSw; go_simp; try with_reducible rfl)); (try simp only [Act.put, List.setIfInBounds_toArray, List.set_cons_zero, List.set_cons_succ]))
      (refine tk 17 (some 4) ?_ ?_ ?_; rotate_left; (focus (intro wS hSw; go_simp; try with_reducible rfl)); (try simp only [Act.put, List.setIfInBounds_toArray, List.set_cons_zero, List.set_cons_succ]))
      refine wpAnyH_done (by kernel_rfl) ?_ _
      clear cx0 cx1 cx2 cx3 cx4 cx5 cx6 cx7 cx8 cx9 cx10 cx11 cx12 cx13 cx14 cx15 zx lx cg0 lg
      have hGe := hid_ge HN
      replace HN := hid_now HN hHeld
      replace HL := Lib.hid (HL.out.step hHeld)
      clear hHeld hGe
      go_wp2_with fail
      go_ret
      exact ⟨rfl, HN.out⟩
    · obtain rfl : res = false := HR.out.trans (by simp [VD.liveS, hp0, hd])
      rw [hp0] at cx1
      rw [hd] at cx2
      clear hp0 hd
      refine wp_region_held_drew (S := fun wx => NoW x1 wx) (by kernel_rfl) (Fp.drew (Fp.refl _ _)) (fun hHeld0 => ?_)
      refine any_eq hHeld0 (fun x2 hW hHeld => ?_)
      clear hHeld0
      replace B_x := hid_blk B_x (noW_drew hW)
      clear hW
      (refine tk 0 (some 14) ?_ ?_ ?_; rotate_left; (focus (intro wS hSw; go_simp; try with_reducible rfl)); (try simp only [Act.put, List.setIfInBounds_toArray, List.set_cons_zero, List.set_cons_succ]))
      (refine tk 1 (some 15) ?_ ?_ ?_; rotate_left; (focus (intro wS hSw; (have p1 := (hSw.cell (p := ⟨x, 1, none⟩) lx id).trans cx1); go_simp; try with_reducible rfl)); (try simp only [Act.put, List.setIfInBounds_toArray, List.set_cons_zero, List.set_cons_succ]))
      (refine tk 2 (some 16) ?_ ?_ ?_; rotate_left; (focus (intro wS hSw; go_simp; try with_reducible rfl)); (try simp only [Act.put, List.setIfInBounds_toArray, List.set_cons_zero, List.set_cons_succ]))
      (refine tk 3 (some 17) ?_ ?_ ?_; rotate_left; (focus (intro wS hSw; go_simp; try with_reducible rfl)); (try simp only [Act.put, List.setIfInBounds_toArray, List.set_cons_zero, List.set_cons_succ]))
      (refine tk 4 (some 18) ?_ ?_ ?_; rotate_left; (focus (intro wS hSw; (have p2 := (hSw.cell (p := ⟨x, 2, none⟩) lx id).trans cx2); go_simp; try with_reducible rfl)); (try simp only [Act.put, List.setIfInBounds_toArray, List.set_cons_zero, List.set_cons_succ]))
      (refine tk 5 (some 19) ?_ ?_ ?_; rotate_left; (focus (intro wS hSw; go_simp; try with_reducible rfl)); (try simp only [Act.put, List.setIfInBounds_toArray, List.set_cons_zero, List.set_cons_succ]))
      (refine tk 6 (some 20) ?_ ?_ ?_; rotate_left; (focus (intro wS hSw; go_simp; try with_reducible rfl)); (try simp only [Act.put, List.setIfInBounds_toArray, List.set_cons_zero, List.set_cons_succ]))
      (refine tk 7 (some 21) ?_ ?_ ?_; rotate_left; (focus (intro wS hSw; go_simp; try with_reducible rfl)); (try simp only [Act.put, List.setIfInBounds_toArray, List.set_cons_zero, List.set_cons_succ]))
      (refine dk 8 (some 22) ?_; (try simp only [Act.put, List.setIfInBounds_toArray, List.set_cons_zero, List.set_cons_succ]))
      (refine dk 9 (some 23) ?_; (try simp only [Act.put, List.setIfInBounds_toArray, List.set_cons_zero, List.set_cons_succ]))
      (refine dk 10 (some 24) ?_; (try simp only [Act.put, List.setIfInBounds_toArray, List.set_cons_zero, List.set_cons_succ]))
      (refine dk 11 (some 25) ?_; (try simp only [Act.put, List.setIfInBounds_toArray, List.set_cons_zero, List.set_cons_succ]))
      (refine dk 12 (some 26) ?_; (try simp only [Act.put, List.setIfInBounds_toArray, List.set_cons_zero, List.set_cons_succ]))
      (refine dk 13 (some 27) ?_; (try simp only [Act.put, List.setIfInBounds_toArray, List.set_cons_zero, List.set_cons_succ]))
      (refine dk 14 (some 28) ?_; (try simp only [Act.put, List.setIfInBounds_toArray, List.set_cons_zero, List.set_cons_succ]))
      (refine dk 15 (some 29) ?_; (try simp only [Act.put, List.setIfInBounds_toArray, List.set_cons_zero, List.set_cons_succ]))
      (refine tk 16 (some 30) ?_ ?_ ?_; rotate_left; (focus (intro wS hSw; go_simp; try with_reducible rfl)); (try simp only [Act.put, List.setIfInBounds_toArray, List.set_cons_zero, List.set_cons_succ]))
      (refine tk 17 (some 4) ?_ ?_ ?_; rotate_left; (focus (intro wS hSw; go_simp; try with_reducible rfl)); (try simp only [Act.put, List.setIfInBounds_toArray, List.set_cons_zero, List.set_cons_succ]))
      refine wpAnyH_done (by kernel_rfl) ?_ _
      clear cx0 cx1 cx2 cx3 cx4 cx5 cx6 cx7 cx8 cx9 cx10 cx11 cx12 cx13 cx14 cx15 zx lx cg0 lg
      have hGe := hid_ge HN
      replace HN := hid_now HN hHeld
      replace HL := Lib.hid (HL.out.step hHeld)
      clear hHeld hGe
      go_wp2_with fail
      go_ret
      exact ⟨rfl, HN.out⟩
set_option maxHeartbeats 8000000 in
set_option maxRecDepth 100000 in
theorem many_ok (v : VD) (sa ca pa qa : Option Addr) (sc cc pc qc : Nat) (cad : Nat → Option Addr) (cc' : Nat → Nat) (g : Nat) (fs : List (Int × Int)) (i : Nat) (bk : Bool) (hnc : v.nc ≤ 100) (hcn : ∀ c, v.cn c ≤ 100) (w0 w : World) (hC : AtC w0 ca v.nc 1 (fun c => [.slice (cad c) (v.cn c) (cc' c)])) (hK : ∀ c, c < v.nc → AtC w0 (cad c) (v.cn c) 3 (fun k => (v.C c k).cs)) (h : AuLk w0 w g [.int .i64 v.now, .slice sa v.ns sc, .slice ca v.nc cc, .slice pa v.np pc, .slice qa v.nq qc, .int .i64 v.free, .int .i64 v.live, .int .i64 v.gone] fs) :
    Calls Tryz.prog 43 #[.pointer (some ⟨g, 0, none⟩), .int .i64 (i : Int), .bool bk] w (Ret1 (.int .i64 (v.many i bk v.nc : Nat)) w) := by
  have HL := Lib.hid h
  have HC := Lib.hid hC
  have HK := Lib.hid hK
  have HCn := Lib.hid hcn
  have HM := Lib.hid (fun c => sumR_le (f := fun c => cntR (v.cn c) fun k => v.isL c k i bk) (m := 100) (fun c => Nat.le_trans (cntR_le _ _) (hcn c)) c)
  clear h hC hK hcn
  go_enter Tryz.func43, Tryz.ntmps43
  have cg2 := HL.out.cell 2 rfl
  have lg := HL.out.lt
  go_wp2_with fail
  clear cg2 lg
  go_loopg [18, 7] (v.nc + 1) (fun gg iv nv wx => ∃ (c : Nat), c ≤ v.nc ∧ gg = v.nc + 1 - c ∧ iv = .int .i64 (c : Int) ∧ nv = .int .i64 (v.many i bk c : Nat) ∧ NoW w wx)
  case atStart => exact ⟨0, by omega, by omega, rfl, rfl, Fp.refl _ _⟩
  case round =>
    obtain ⟨c, hc, hg, rfl, rfl, hN⟩ := hrel
    have Hg := Lib.hid hg
    have HN := Lib.hid hN
    have HLr := Lib.hid (HL.out.step hN)
    clear hg hN
    by_cases hlt : c < v.nc
    · obtain ⟨b1, o1, hs, lb, xc⟩ := (HC.out.low HLr.out.low) c hlt
      subst hs
      have x0 : wr.cell? ⟨b1, o1 + c, none⟩ = some (.slice (cad c) (v.cn c) (cc' c)) := by have := xc 0 _ rfl; simpa using this
      clear xc
      have pk : decide ((c : Int) < (v.nc : Int)) = true := decide_eq_true (by omega)
      have ck : (c : Int) < (v.nc : Int) := by omega
      have hm0 := HM.out c
      have HM0 := Lib.hid (show v.many i bk c ≤ 10000 from Nat.le_trans hm0 (by omega))
      clear hm0
      go_wp2_with fail
      clear x0 lb
      have HW := Lib.hid (Fp.refl (fun _ => False) wr)
      have HCc := Lib.hid (HK.out c hlt)
      have HNc := Lib.hid (HCn.out c)
      obtain ⟨ad, had⟩ : ∃ a, a = cad c := ⟨_, rfl⟩
      rw [← had] at HCc ⊢
      clear had
      go_loopg [24, 7] (v.cn c + 1) (fun gg2 kv nv wx => ∃ (k : Nat), k ≤ v.cn c ∧ gg2 = v.cn c + 1 - k ∧ kv = .int .i64 (k : Int) ∧ nv = .int .i64 ((v.many i bk c + cntR k fun k => v.isL c k i bk : Nat) : Int) ∧ NoW w wx)
      case atStart => exact ⟨0, by omega, by omega, rfl, by simp [cntR], HN.out⟩
      case round =>
        clear HN HW HLr
        obtain ⟨k, hk, hg2, rfl, rfl, hN⟩ := hrel
        have Hg2 := Lib.hid hg2
        have HN := Lib.hid hN
        have HLr := Lib.hid (HL.out.step hN)
        clear hg2 hN
        by_cases hlk : k < v.cn c
        · obtain ⟨b2, o2, hs, lb2, xc⟩ := (HCc.out.low HLr.out.low) k hlk
          subst hs
          have x0 : wr.cell? ⟨b2, o2 + k * 3, none⟩ = some (.int .i64 (v.C c k).slot) := xc 0 _ rfl
          have x1 : wr.cell? ⟨b2, o2 + k * 3 + 1, none⟩ = some (.int .u32 (v.C c k).gen) := xc 1 _ rfl
          have x2 : wr.cell? ⟨b2, o2 + k * 3 + 2, none⟩ = some (.bool (v.C c k).back) := xc 2 _ rfl
          clear xc
          have pk2 : decide ((k : Int) < (v.cn c : Int)) = true := decide_eq_true (by omega)
          have ck2 : (k : Int) < (v.cn c : Int) := by omega
          have bn : v.cn c ≤ 100 := HNc.out
          have hc1 := cntR_le k fun k => v.isL c k i bk
          obtain ⟨N, hN⟩ : ∃ N, N = v.many i bk c + cntR k fun k => v.isL c k i bk := ⟨_, rfl⟩
          have hNl : N ≤ 20000 := by have := HM0.out; omega
          rw [← hN]
          have HNN := Lib.hid hN
          clear hN hc1
          have hst : ∀ b, v.isL c k i bk = b → (v.many i bk c + cntR (k + 1) fun k => v.isL c k i bk) = N + if b then 1 else 0 := fun b hb => by rw [cntR_succ, hb, HNN.out]; omega
          have HSt := Lib.hid hst
          clear hst
          go_upto_region 8 with fail
          clear x0 x1 x2 lb2
          refine wp_gen (fun x1 hW => ?_)
          have hp := new_now hW
          have hB := new_blk hW
          clear hW
          replace HN := hid_now HN hp
          obtain ⟨gx, hgx⟩ : ∃ gx, gx = wr.heap.size := ⟨_, rfl⟩
          rw [← hgx] at hB ⊢
          have B_x := hB
          clear hB hp hgx
          have y0 := cell_at B_x 0 rfl
          have y2 := cell_at B_x 2 rfl
          rcases h1 : ((v.C c k).slot == (i : Int)) with _ | _
          · have e1 : v.isL c k i bk = false := by unfold VD.isL; rw [decide_eq_false (beq_eq_false_iff_ne.1 h1)]; rfl
            have HE := Lib.hid (HSt.out _ e1)
            clear e1
            go_wp2_with fail
            go_roundg (v.cn c - k)
            case measure => have := Hg2.out; omega
            case rel => exact ⟨k + 1, by omega, by omega, by go_num, by rw [HE.out]; rfl, HN.out⟩
          · rcases h2 : ((v.C c k).back == bk) with _ | _
            · have e1 : v.isL c k i bk = false := by unfold VD.isL; rw [decide_eq_false (beq_eq_false_iff_ne.1 h2)]; simp
              have HE := Lib.hid (HSt.out _ e1)
              clear e1
              go_wp2_with fail
              go_roundg (v.cn c - k)
              case measure => have := Hg2.out; omega
              case rel => exact ⟨k + 1, by omega, by omega, by go_num, by rw [HE.out]; rfl, HN.out⟩
            · have e1 : v.isL c k i bk = true := by unfold VD.isL; rw [decide_eq_true (beq_iff_eq.1 h1), decide_eq_true (beq_iff_eq.1 h2)]; rfl
              have HE := Lib.hid (HSt.out _ e1)
              clear e1
              go_wp2_with fail
              go_roundg (v.cn c - k)
              case measure => have := Hg2.out; omega
              case rel => exact ⟨k + 1, by omega, by omega, by go_num, by rw [HE.out]; go_num, HN.out⟩
        · obtain rfl : k = v.cn c := by omega
          have pk2 : decide ((v.cn c : Int) < (v.cn c : Int)) = false := decide_eq_false (by omega)
          have HE := Lib.hid (show v.many i bk (c + 1) = v.many i bk c + cntR (v.cn c) fun k => v.isL c k i bk from rfl)
          go_wp2_with fail
          go_roundg (v.nc - c)
          case measure => have := Hg.out; omega
          case rel => exact ⟨c + 1, by omega, by omega, by go_num, by rw [HE.out], HN.out⟩
    · obtain rfl : c = v.nc := by omega
      have pk : decide ((v.nc : Int) < (v.nc : Int)) = false := decide_eq_false (by omega)
      go_wp2_with fail
      go_ret
      exact ⟨rfl, HN.out⟩
end Go.Proofs.YtcimbbllefkdlaaGreatDoor
