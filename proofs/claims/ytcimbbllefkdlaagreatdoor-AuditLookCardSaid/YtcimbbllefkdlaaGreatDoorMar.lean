/- Texts of this proof, merged: AuP. -/
import Derived.Test.YtcimbbllefkdlaaGreatDoorMal
import Derived.Test.YtcimbbllefkdlaaGreatDoorMai
import Derived.Test.YtcimbbllefkdlaaGreatDoorMaa
import Derived.Test.YtcimbbllefkdlaaGreatDoorMab
import Derived.Test.YtcimbbllefkdlaaGreatDoorMac
import Derived.Test.YtcimbbllefkdlaaGreatDoorMad
import Derived.Test.YtcimbbllefkdlaaGreatDoorMae
import Derived.Test.YtcimbbllefkdlaaGreatDoorMaf
import Derived.Test.YtcimbbllefkdlaaGreatDoorMag
import Derived.Test.YtcimbbllefkdlaaGreatDoorMah
import Derived.Test.YtcimbbllefkdlaaGreatDoorMaj
import Derived.Test.YtcimbbllefkdlaaGreatDoorMak
import Derived.Test.YtcimbbllefkdlaaGreatDoorMam
import Derived.Test.YtcimbbllefkdlaaGreatDoorMan
import Derived.Test.YtcimbbllefkdlaaGreatDoorMao
import Derived.Test.YtcimbbllefkdlaaGreatDoorMap
import Derived.Test.YtcimbbllefkdlaaGreatDoorMaq
namespace Go.Proofs.YtcimbbllefkdlaaGreatDoor
set_option linter.unusedVariables false
set_option linter.unusedSimpArgs false
open Go.RowKit Go.Lib Go.Sort
set_option maxHeartbeats 8000000 in
set_option maxRecDepth 100000 in
theorem rput_ok (v : VD) (sa ca pa qa : Option Addr) (sc cc pc qc : Nat) (hs : Nat → Int) (hg : Nat → Nat) (n : Int) (w0 W : World) (hS : AtC w0 sa v.ns 18 (fun i => (v.S i).cs ++ [.int .i64 (hs i), .int .u32 (hg i)])) (hW0 : NoW w0 W) :
    Calls Tryz.prog 49 #[.agg #[.int .i64 v.now, .slice sa v.ns sc, .slice ca v.nc cc, .slice pa v.np pc, .slice qa v.nq qc, .int .i64 v.free, .int .i64 v.live, .int .i64 v.gone], .int .i64 n] W (Ret1 (.bool (v.putS n)) W) := by
  have HW0 := Lib.hid hW0
  clear hW0
  have HS := Lib.hid hS
  clear hS
  obtain ⟨res, hr⟩ : ∃ r, r = v.putS n := ⟨_, rfl⟩
  rw [← hr]
  have HR := Lib.hid hr
  clear hr
  go_enter Tryz.func49, Tryz.ntmps49
  have HN := Lib.hid (Fp.refl (fun _ => False) W)
  go_upto_region 1 with fail
  refine wp_gen (fun Vw hW => ?_)
  have hp := new_now hW
  have hB := new_blk hW
  clear hW
  replace HN := hid_now HN hp
  obtain ⟨gV, hgV⟩ : ∃ gV, gV = W.heap.size := ⟨_, rfl⟩
  rw [← hgV] at hB ⊢
  have B_V := hB
  clear hB hp hgV
  rcases h0 : decide (0 ≤ n) with _ | _
  · obtain rfl : res = false := HR.out.trans (by unfold VD.putS; rw [h0]; rfl)
    have c1 := cell_at B_V 1 rfl
    have lV := hid_lt B_V
    go_wp2_with fail
    go_ret
    exact ⟨rfl, HN.out⟩
  · rcases h1 : decide (n < (v.ns : Int)) with _ | _
    · obtain rfl : res = false := HR.out.trans (by unfold VD.putS; rw [h0, h1]; rfl)
      have c1 := cell_at B_V 1 rfl
      have lV := hid_lt B_V
      go_wp2_with fail
      go_ret
      exact ⟨rfl, HN.out⟩
    · obtain ⟨i, rfl⟩ : ∃ i : Nat, n = (i : Int) := ⟨n.toNat, by have := of_decide_eq_true h0; omega⟩
      have hlt1 : i < v.ns := by have := of_decide_eq_true h1; omega
      obtain rfl : res = (v.S i).put := HR.out.trans (by unfold VD.putS; rw [h0, h1]; simp)
      obtain ⟨b1, o1, hs1, lb1, xc⟩ := (HS.out.low (HW0.out.trans HN.out (fun _ _ h => h))) i hlt1
      subst hs1
      have x0 : Vw.cell? ⟨b1, o1 + i * 18, none⟩ = some (.bool (v.S i).used) := xc 0 _ rfl
      have x1 : Vw.cell? ⟨b1, o1 + i * 18 + 1, none⟩ = some (.bool (v.S i).put) := xc 1 _ rfl
      have x2 : Vw.cell? ⟨b1, o1 + i * 18 + 2, none⟩ = some (.bool (v.S i).dead) := xc 2 _ rfl
      have x3 : Vw.cell? ⟨b1, o1 + i * 18 + 3, none⟩ = some (.int .u8 (v.S i).e.r) := xc 3 _ rfl
      have x4 : Vw.cell? ⟨b1, o1 + i * 18 + 4, none⟩ = some (.int .u32 (v.S i).e.a) := xc 4 _ rfl
      have x5 : Vw.cell? ⟨b1, o1 + i * 18 + 5, none⟩ = some (.int .u16 (v.S i).e.p) := xc 5 _ rfl
      have x6 : Vw.cell? ⟨b1, o1 + i * 18 + 6, none⟩ = some (.int .u32 (v.S i).e.b) := xc 6 _ rfl
      have x7 : Vw.cell? ⟨b1, o1 + i * 18 + 7, none⟩ = some (.int .u16 (v.S i).e.q) := xc 7 _ rfl
      have x8 : Vw.cell? ⟨b1, o1 + i * 18 + 8, none⟩ = some (.int .u8 (v.S i).e.r2) := xc 8 _ rfl
      have x9 : Vw.cell? ⟨b1, o1 + i * 18 + 9, none⟩ = some (.int .u32 (v.S i).e.a2) := xc 9 _ rfl
      have x10 : Vw.cell? ⟨b1, o1 + i * 18 + 10, none⟩ = some (.int .u16 (v.S i).e.p2) := xc 10 _ rfl
      have x11 : Vw.cell? ⟨b1, o1 + i * 18 + 11, none⟩ = some (.int .u32 (v.S i).e.b2) := xc 11 _ rfl
      have x12 : Vw.cell? ⟨b1, o1 + i * 18 + 12, none⟩ = some (.int .u16 (v.S i).e.q2) := xc 12 _ rfl
      have x13 : Vw.cell? ⟨b1, o1 + i * 18 + 13, none⟩ = some (.int .i64 (v.S i).e.st) := xc 13 _ rfl
      have x14 : Vw.cell? ⟨b1, o1 + i * 18 + 14, none⟩ = some (.int .i64 (v.S i).e.dl) := xc 14 _ rfl
      have x15 : Vw.cell? ⟨b1, o1 + i * 18 + 15, none⟩ = some (.slice (v.S i).e.ad (v.S i).e.n (v.S i).e.c) := xc 15 _ rfl
      clear xc
      have pk1 : decide ((i : Int) < (v.ns : Int)) = true := decide_eq_true (by omega)
      have ck1 : (i : Int) < (v.ns : Int) := by omega
      clear x0 x2 x3 x4 x5 x6 x7 x8 x9 x10 x11 x12 x13 x14 x15
      have c1 := cell_at B_V 1 rfl
      have lV := hid_lt B_V
      go_wp2_with fail
      go_ret
      exact ⟨rfl, HN.out⟩
set_option maxHeartbeats 8000000 in
set_option maxRecDepth 100000 in
theorem rlive_view (v : VD) (sa ca pa qa : Option Addr) (sc cc pc qc : Nat) (hs : Nat → Int) (hg : Nat → Nat) (i : Nat) (hlt1 : i < v.ns) (w0 W : World) (hS : AtC w0 sa v.ns 18 (fun i => (v.S i).cs ++ [.int .i64 (hs i), .int .u32 (hg i)])) (hW0 : NoW w0 W) :
    Calls Tryz.prog 50 #[.agg #[.int .i64 v.now, .slice sa v.ns sc, .slice ca v.nc cc, .slice pa v.np pc, .slice qa v.nq qc, .int .i64 v.free, .int .i64 v.live, .int .i64 v.gone], .int .i64 (i : Int)] W (Ret1 (.bool (v.liveS i)) W) := by
  have HW0 := Lib.hid hW0
  clear hW0
  have HS := Lib.hid hS
  clear hS
  obtain ⟨res, hr⟩ : ∃ r, r = v.liveS i := ⟨_, rfl⟩
  rw [← hr]
  have HR := Lib.hid hr
  clear hr
  have KP := Lib.hid (fun W2 (hW2 : NoW w0 W2) => rput_ok v sa ca pa qa sc cc pc qc hs hg (i : Int) w0 W2 HS.out hW2)
  have e1 : v.putS (i : Int) = (v.S i).put := by simp [VD.putS, hlt1]
  rw [e1] at KP
  clear e1
  go_enter Tryz.func50, Tryz.ntmps50
  have HN := Lib.hid (Fp.refl (fun _ => False) W)
  go_upto_region 1 with fail
  refine wp_gen (fun Vw hW => ?_)
  have hp := new_now hW
  have hB := new_blk hW
  clear hW
  replace HN := hid_now HN hp
  obtain ⟨gV, hgV⟩ : ∃ gV, gV = W.heap.size := ⟨_, rfl⟩
  rw [← hgV] at hB ⊢
  have B_V := hB
  clear hB hp hgV
  obtain ⟨b1, o1, hs1, lb1, xc⟩ := (HS.out.low (HW0.out.trans HN.out (fun _ _ h => h))) i hlt1
  subst hs1
  have x0 : Vw.cell? ⟨b1, o1 + i * 18, none⟩ = some (.bool (v.S i).used) := xc 0 _ rfl
  have x1 : Vw.cell? ⟨b1, o1 + i * 18 + 1, none⟩ = some (.bool (v.S i).put) := xc 1 _ rfl
  have x2 : Vw.cell? ⟨b1, o1 + i * 18 + 2, none⟩ = some (.bool (v.S i).dead) := xc 2 _ rfl
  have x3 : Vw.cell? ⟨b1, o1 + i * 18 + 3, none⟩ = some (.int .u8 (v.S i).e.r) := xc 3 _ rfl
  have x4 : Vw.cell? ⟨b1, o1 + i * 18 + 4, none⟩ = some (.int .u32 (v.S i).e.a) := xc 4 _ rfl
  have x5 : Vw.cell? ⟨b1, o1 + i * 18 + 5, none⟩ = some (.int .u16 (v.S i).e.p) := xc 5 _ rfl
  have x6 : Vw.cell? ⟨b1, o1 + i * 18 + 6, none⟩ = some (.int .u32 (v.S i).e.b) := xc 6 _ rfl
  have x7 : Vw.cell? ⟨b1, o1 + i * 18 + 7, none⟩ = some (.int .u16 (v.S i).e.q) := xc 7 _ rfl
  have x8 : Vw.cell? ⟨b1, o1 + i * 18 + 8, none⟩ = some (.int .u8 (v.S i).e.r2) := xc 8 _ rfl
  have x9 : Vw.cell? ⟨b1, o1 + i * 18 + 9, none⟩ = some (.int .u32 (v.S i).e.a2) := xc 9 _ rfl
  have x10 : Vw.cell? ⟨b1, o1 + i * 18 + 10, none⟩ = some (.int .u16 (v.S i).e.p2) := xc 10 _ rfl
  have x11 : Vw.cell? ⟨b1, o1 + i * 18 + 11, none⟩ = some (.int .u32 (v.S i).e.b2) := xc 11 _ rfl
  have x12 : Vw.cell? ⟨b1, o1 + i * 18 + 12, none⟩ = some (.int .u16 (v.S i).e.q2) := xc 12 _ rfl
  have x13 : Vw.cell? ⟨b1, o1 + i * 18 + 13, none⟩ = some (.int .i64 (v.S i).e.st) := xc 13 _ rfl
  have x14 : Vw.cell? ⟨b1, o1 + i * 18 + 14, none⟩ = some (.int .i64 (v.S i).e.dl) := xc 14 _ rfl
  have x15 : Vw.cell? ⟨b1, o1 + i * 18 + 15, none⟩ = some (.slice (v.S i).e.ad (v.S i).e.n (v.S i).e.c) := xc 15 _ rfl
  clear xc
  have pk1 : decide ((i : Int) < (v.ns : Int)) = true := decide_eq_true (by omega)
  have ck1 : (i : Int) < (v.ns : Int) := by omega
  have c0 := cell_at B_V 0 rfl
  have c1 := cell_at B_V 1 rfl
  have c2 := cell_at B_V 2 rfl
  have c3 := cell_at B_V 3 rfl
  have c4 := cell_at B_V 4 rfl
  have c5 := cell_at B_V 5 rfl
  have c6 := cell_at B_V 6 rfl
  have c7 := cell_at B_V 7 rfl
  have lV := hid_lt B_V
  obtain ⟨pt, hpt⟩ : ∃ b, (v.S i).put = b := ⟨_, rfl⟩
  obtain ⟨dd, hdd⟩ : ∃ b, (v.S i).dead = b := ⟨_, rfl⟩
  rw [hpt] at KP
  rw [hdd] at x2
  have HPt := Lib.hid hpt
  have HDd := Lib.hid hdd
  clear hpt hdd
  rcases pt with _ | _
  · skip
    obtain rfl : res = false := HR.out.trans (by simp [VD.liveS, HPt.out])
    refine wp_region_held_drew (S := fun wx => NoW Vw wx) (by kernel_rfl) (Fp.drew (Fp.refl _ _)) (fun hHeld0 => ?_)
    refine any_eq hHeld0 (fun z1 hW hHeld => ?_)
    clear hHeld0
    clear hW
    (refine tk 0 (some 5) ?_ ?_ ?_; rotate_left; (focus (intro wS hSw; (have q0 := (hSw.cell (p := ⟨gV, 0, none⟩) lV id).trans c0); (have q1 := (hSw.cell (p := ⟨gV, 1, none⟩) lV id).trans c1); (have q2 := (hSw.cell (p := ⟨gV, 2, none⟩) lV id).trans c2); (have q3 := (hSw.cell (p := ⟨gV, 3, none⟩) lV id).trans c3); (have q4 := (hSw.cell (p := ⟨gV, 4, none⟩) lV id).trans c4); (have q5 := (hSw.cell (p := ⟨gV, 5, none⟩) lV id).trans c5); (have q6 := (hSw.cell (p := ⟨gV, 6, none⟩) lV id).trans c6); (have q7 := (hSw.cell (p := ⟨gV, 7, none⟩) lV id).trans c7); go_simp; try with_reducible rfl)); (try simp only [Act.put, List.setIfInBounds_toArray, List.set_cons_zero, List.set_cons_succ]))
    (refine tk 1 (some 6) ?_ ?_ ?_; rotate_left; (focus (intro wS hSw; go_simp; try with_reducible rfl)); (try simp only [Act.put, List.setIfInBounds_toArray, List.set_cons_zero, List.set_cons_succ]))
    refine wpAnyH_ready (rs := [2]) (by kernel_rfl) (by simp) ?_
    refine AllReadyH.cons rfl (fun K hK => ?_) AllReadyH.nil
    go_simp
    go_at_call 49
    refine (show Calls _ _ _ _ _ from KP.out _ ((HW0.out.trans HN.out (fun _ _ h => h)).trans hHeld (fun _ _ h => h))).mono ?_
    rintro e z2 ⟨rfl, hp⟩
    have hn := Fp.trans hHeld hp (fun _ _ h => h.elim)
    refine k_now hK hn ?_
    clear hK K hp hHeld
    have hHeld := hn
    clear hn
    try simp only [Act.put, List.setIfInBounds_toArray, List.set_cons_zero, List.set_cons_succ]
    (refine tk 3 (some 8) ?_ ?_ ?_; rotate_left; (focus (intro wS hSw; go_simp; try with_reducible rfl)); (try simp only [Act.put, List.setIfInBounds_toArray, List.set_cons_zero, List.set_cons_succ]))
    (refine dk 4 (some 9) ?_; (try simp only [Act.put, List.setIfInBounds_toArray, List.set_cons_zero, List.set_cons_succ]))
    (refine dk 5 (some 10) ?_; (try simp only [Act.put, List.setIfInBounds_toArray, List.set_cons_zero, List.set_cons_succ]))
    (refine dk 6 (some 11) ?_; (try simp only [Act.put, List.setIfInBounds_toArray, List.set_cons_zero, List.set_cons_succ]))
    (refine dk 7 (some 12) ?_; (try simp only [Act.put, List.setIfInBounds_toArray, List.set_cons_zero, List.set_cons_succ]))
    (refine dk 8 (some 13) ?_; (try simp only [Act.put, List.setIfInBounds_toArray, List.set_cons_zero, List.set_cons_succ]))
    (refine dk 9 (some 14) ?_; (try simp only [Act.put, List.setIfInBounds_toArray, List.set_cons_zero, List.set_cons_succ]))
    (refine dk 10 (some 15) ?_; (try simp only [Act.put, List.setIfInBounds_toArray, List.set_cons_zero, List.set_cons_succ]))
    (refine tk 11 (some 16) ?_ ?_ ?_; rotate_left; (focus (intro wS hSw; go_simp; try with_reducible rfl)); (try simp only [Act.put, List.setIfInBounds_toArray, List.set_cons_zero, List.set_cons_succ]))
    (refine tk 12 (some 17) ?_ ?_ ?_; rotate_left; (focus (intro wS hSw; go_simp; try with_reducible rfl)); (try simp only [Act.put, List.setIfInBounds_toArray, List.set_cons_zero, List.set_cons_succ]))
    (refine dk 13 (some 18) ?_; (try simp only [Act.put, List.setIfInBounds_toArray, List.set_cons_zero, List.set_cons_succ]))
    (refine dk 14 (some 19) ?_; (try simp only [Act.put, List.setIfInBounds_toArray, List.set_cons_zero, List.set_cons_succ]))
    (refine dk 15 (some 20) ?_; (try simp only [Act.put, List.setIfInBounds_toArray, List.set_cons_zero, List.set_cons_succ]))
    (refine dk 16 (some 21) ?_; (try simp only [Act.put, List.setIfInBounds_toArray, List.set_cons_zero, List.set_cons_succ]))
    (refine dk 17 (some 22) ?_; (try simp only [Act.put, List.setIfInBounds_toArray, List.set_cons_zero, List.set_cons_succ]))
    (refine dk 18 (some 23) ?_; (try simp only [Act.put, List.setIfInBounds_toArray, List.set_cons_zero, List.set_cons_succ]))
    (refine dk 19 (some 24) ?_; (try simp only [Act.put, List.setIfInBounds_toArray, List.set_cons_zero, List.set_cons_succ]))
    (refine dk 20 (some 25) ?_; (try simp only [Act.put, List.setIfInBounds_toArray, List.set_cons_zero, List.set_cons_succ]))
    (refine dk 21 (some 26) ?_; (try simp only [Act.put, List.setIfInBounds_toArray, List.set_cons_zero, List.set_cons_succ]))
    (refine tk 22 (some 27) ?_ ?_ ?_; rotate_left; (focus (intro wS hSw; go_simp; try with_reducible rfl)); (try simp only [Act.put, List.setIfInBounds_toArray, List.set_cons_zero, List.set_cons_succ]))
    (refine tk 23 (some 4) ?_ ?_ ?_; rotate_left; (focus (intro wS hSw; go_simp; try with_reducible rfl)); (try simp only [Act.put, List.setIfInBounds_toArray, List.set_cons_zero, List.set_cons_succ]))
    refine wpAnyH_done (by kernel_rfl) ?_ _
    clear lV c0 c1 c2 c3 c4 c5 c6 c7 x0 x1 x2 x3 x4 x5 x6 x7 x8 x9 x10 x11 x12 x13 x14 x15
    replace HN := hid_now HN hHeld
    clear hHeld
    go_wp2_with fail
    go_ret
    exact ⟨rfl, HN.out⟩
  · rcases dd with _ | _
    · skip
      obtain rfl : res = decide (v.now < (v.S i).e.dl) := HR.out.trans (by simp [VD.liveS, HPt.out, HDd.out])
      refine wp_region_held_drew (S := fun wx => NoW Vw wx) (by kernel_rfl) (Fp.drew (Fp.refl _ _)) (fun hHeld0 => ?_)
      refine any_eq hHeld0 (fun z1 hW hHeld => ?_)
      clear hHeld0
      clear hW
      (refine tk 0 (some 5) ?_ ?_ ?_; rotate_left; (focus (intro wS hSw; (have q0 := (hSw.cell (p := ⟨gV, 0, none⟩) lV id).trans c0); (have q1 := (hSw.cell (p := ⟨gV, 1, none⟩) lV id).trans c1); (have q2 := (hSw.cell (p := ⟨gV, 2, none⟩) lV id).trans c2); (have q3 := (hSw.cell (p := ⟨gV, 3, none⟩) lV id).trans c3); (have q4 := (hSw.cell (p := ⟨gV, 4, none⟩) lV id).trans c4); (have q5 := (hSw.cell (p := ⟨gV, 5, none⟩) lV id).trans c5); (have q6 := (hSw.cell (p := ⟨gV, 6, none⟩) lV id).trans c6); (have q7 := (hSw.cell (p := ⟨gV, 7, none⟩) lV id).trans c7); go_simp; try with_reducible rfl)); (try simp only [Act.put, List.setIfInBounds_toArray, List.set_cons_zero, List.set_cons_succ]))
      (refine tk 1 (some 6) ?_ ?_ ?_; rotate_left; (focus (intro wS hSw; go_simp; try with_reducible rfl)); (try simp only [Act.put, List.setIfInBounds_toArray, List.set_cons_zero, List.set_cons_succ]))
      refine wpAnyH_ready (rs := [2]) (by kernel_rfl) (by simp) ?_
      refine AllReadyH.cons rfl (fun K hK => ?_) AllReadyH.nil
      go_simp
      go_at_call 49
      refine (show Calls _ _ _ _ _ from KP.out _ ((HW0.out.trans HN.out (fun _ _ h => h)).trans hHeld (fun _ _ h => h))).mono ?_
      rintro e z2 ⟨rfl, hp⟩
      have hn := Fp.trans hHeld hp (fun _ _ h => h.elim)
      refine k_now hK hn ?_
      clear hK K hp hHeld
      have hHeld := hn
      clear hn
      try simp only [Act.put, List.setIfInBounds_toArray, List.set_cons_zero, List.set_cons_succ]
      (refine tk 3 (some 8) ?_ ?_ ?_; rotate_left; (focus (intro wS hSw; go_simp; try with_reducible rfl)); (try simp only [Act.put, List.setIfInBounds_toArray, List.set_cons_zero, List.set_cons_succ]))
      (refine tk 4 (some 9) ?_ ?_ ?_; rotate_left; (focus (intro wS hSw; go_simp; try with_reducible rfl)); (try simp only [Act.put, List.setIfInBounds_toArray, List.set_cons_zero, List.set_cons_succ]))
      (refine tk 5 (some 10) ?_ ?_ ?_; rotate_left; (focus (intro wS hSw; (have q0 := (hSw.cell (p := ⟨gV, 0, none⟩) lV id).trans c0); (have q1 := (hSw.cell (p := ⟨gV, 1, none⟩) lV id).trans c1); go_simp; try with_reducible rfl)); (try simp only [Act.put, List.setIfInBounds_toArray, List.set_cons_zero, List.set_cons_succ]))
      (refine tk 6 (some 11) ?_ ?_ ?_; rotate_left; (focus (intro wS hSw; go_simp; try with_reducible rfl)); (try simp only [Act.put, List.setIfInBounds_toArray, List.set_cons_zero, List.set_cons_succ]))
      (refine tk 7 (some 12) ?_ ?_ ?_; rotate_left; (focus (intro wS hSw; go_simp; try with_reducible rfl)); (try simp only [Act.put, List.setIfInBounds_toArray, List.set_cons_zero, List.set_cons_succ]))
      (refine tk 8 (some 13) ?_ ?_ ?_; rotate_left; (focus (intro wS hSw; go_simp; try with_reducible rfl)); (try simp only [Act.put, List.setIfInBounds_toArray, List.set_cons_zero, List.set_cons_succ]))
      (refine tk 9 (some 14) ?_ ?_ ?_; rotate_left; (focus (intro wS hSw; (have p2 := (hSw.cell (p := ⟨b1, o1 + i * 18 + 2, none⟩) lb1 id).trans x2); (have p3 := (hSw.cell (p := ⟨b1, o1 + i * 18 + 3, none⟩) lb1 id).trans x3); (have p4 := (hSw.cell (p := ⟨b1, o1 + i * 18 + 4, none⟩) lb1 id).trans x4); (have p5 := (hSw.cell (p := ⟨b1, o1 + i * 18 + 5, none⟩) lb1 id).trans x5); (have p6 := (hSw.cell (p := ⟨b1, o1 + i * 18 + 6, none⟩) lb1 id).trans x6); (have p7 := (hSw.cell (p := ⟨b1, o1 + i * 18 + 7, none⟩) lb1 id).trans x7); (have p8 := (hSw.cell (p := ⟨b1, o1 + i * 18 + 8, none⟩) lb1 id).trans x8); (have p9 := (hSw.cell (p := ⟨b1, o1 + i * 18 + 9, none⟩) lb1 id).trans x9); (have p10 := (hSw.cell (p := ⟨b1, o1 + i * 18 + 10, none⟩) lb1 id).trans x10); (have p11 := (hSw.cell (p := ⟨b1, o1 + i * 18 + 11, none⟩) lb1 id).trans x11); (have p12 := (hSw.cell (p := ⟨b1, o1 + i * 18 + 12, none⟩) lb1 id).trans x12); (have p13 := (hSw.cell (p := ⟨b1, o1 + i * 18 + 13, none⟩) lb1 id).trans x13); (have p14 := (hSw.cell (p := ⟨b1, o1 + i * 18 + 14, none⟩) lb1 id).trans x14); (have p15 := (hSw.cell (p := ⟨b1, o1 + i * 18 + 15, none⟩) lb1 id).trans x15); go_simp; try with_reducible rfl)); (try simp only [Act.put, List.setIfInBounds_toArray, List.set_cons_zero, List.set_cons_succ]))
      (refine tk 10 (some 15) ?_ ?_ ?_; rotate_left; (focus (intro wS hSw; go_simp; try with_reducible rfl)); (try simp only [Act.put, List.setIfInBounds_toArray, List.set_cons_zero, List.set_cons_succ]))
      (refine tk 11 (some 16) ?_ ?_ ?_; rotate_left; (focus (intro wS hSw; go_simp; try with_reducible rfl)); (try simp only [Act.put, List.setIfInBounds_toArray, List.set_cons_zero, List.set_cons_succ]))
      (refine tk 12 (some 17) ?_ ?_ ?_; rotate_left; (focus (intro wS hSw; go_simp; try with_reducible rfl)); (try simp only [Act.put, List.setIfInBounds_toArray, List.set_cons_zero, List.set_cons_succ]))
      (refine tk 13 (some 18) ?_ ?_ ?_; rotate_left; (focus (intro wS hSw; go_simp; try with_reducible rfl)); (try simp only [Act.put, List.setIfInBounds_toArray, List.set_cons_zero, List.set_cons_succ]))
      (refine tk 14 (some 19) ?_ ?_ ?_; rotate_left; (focus (intro wS hSw; (have q0 := (hSw.cell (p := ⟨gV, 0, none⟩) lV id).trans c0); (have q1 := (hSw.cell (p := ⟨gV, 1, none⟩) lV id).trans c1); go_simp; try with_reducible rfl)); (try simp only [Act.put, List.setIfInBounds_toArray, List.set_cons_zero, List.set_cons_succ]))
      (refine tk 15 (some 20) ?_ ?_ ?_; rotate_left; (focus (intro wS hSw; go_simp; try with_reducible rfl)); (try simp only [Act.put, List.setIfInBounds_toArray, List.set_cons_zero, List.set_cons_succ]))
      (refine tk 16 (some 21) ?_ ?_ ?_; rotate_left; (focus (intro wS hSw; go_simp; try with_reducible rfl)); (try simp only [Act.put, List.setIfInBounds_toArray, List.set_cons_zero, List.set_cons_succ]))
      (refine tk 17 (some 22) ?_ ?_ ?_; rotate_left; (focus (intro wS hSw; go_simp; try with_reducible rfl)); (try simp only [Act.put, List.setIfInBounds_toArray, List.set_cons_zero, List.set_cons_succ]))
      (refine tk 18 (some 23) ?_ ?_ ?_; rotate_left; (focus (intro wS hSw; (have p2 := (hSw.cell (p := ⟨b1, o1 + i * 18 + 2, none⟩) lb1 id).trans x2); (have p3 := (hSw.cell (p := ⟨b1, o1 + i * 18 + 3, none⟩) lb1 id).trans x3); (have p4 := (hSw.cell (p := ⟨b1, o1 + i * 18 + 4, none⟩) lb1 id).trans x4); (have p5 := (hSw.cell (p := ⟨b1, o1 + i * 18 + 5, none⟩) lb1 id).trans x5); (have p6 := (hSw.cell (p := ⟨b1, o1 + i * 18 + 6, none⟩) lb1 id).trans x6); (have p7 := (hSw.cell (p := ⟨b1, o1 + i * 18 + 7, none⟩) lb1 id).trans x7); (have p8 := (hSw.cell (p := ⟨b1, o1 + i * 18 + 8, none⟩) lb1 id).trans x8); (have p9 := (hSw.cell (p := ⟨b1, o1 + i * 18 + 9, none⟩) lb1 id).trans x9); (have p10 := (hSw.cell (p := ⟨b1, o1 + i * 18 + 10, none⟩) lb1 id).trans x10); (have p11 := (hSw.cell (p := ⟨b1, o1 + i * 18 + 11, none⟩) lb1 id).trans x11); (have p12 := (hSw.cell (p := ⟨b1, o1 + i * 18 + 12, none⟩) lb1 id).trans x12); (have p13 := (hSw.cell (p := ⟨b1, o1 + i * 18 + 13, none⟩) lb1 id).trans x13); (have p14 := (hSw.cell (p := ⟨b1, o1 + i * 18 + 14, none⟩) lb1 id).trans x14); (have p15 := (hSw.cell (p := ⟨b1, o1 + i * 18 + 15, none⟩) lb1 id).trans x15); go_simp; try with_reducible rfl)); (try simp only [Act.put, List.setIfInBounds_toArray, List.set_cons_zero, List.set_cons_succ]))
      (refine tk 19 (some 24) ?_ ?_ ?_; rotate_left; (focus (intro wS hSw; go_simp; try with_reducible rfl)); (try simp only [Act.put, List.setIfInBounds_toArray, List.set_cons_zero, List.set_cons_succ]))
      (refine tk 20 (some 25) ?_ ?_ ?_; rotate_left; (focus (intro wS hSw; (have q0 := (hSw.cell (p := ⟨gV, 0, none⟩) lV id).trans c0); (have q1 := (hSw.cell (p := ⟨gV, 1, none⟩) lV id).trans c1); go_simp; try with_reducible rfl)); (try simp only [Act.put, List.setIfInBounds_toArray, List.set_cons_zero, List.set_cons_succ]))
      refine wpAnyH_ready (rs := [21]) (by kernel_rfl) (by simp) ?_
      refine AllReadyH.cons rfl (fun K hK => ?_) AllReadyH.nil
      go_simp
      go_at_call 74
      refine (show Calls _ _ _ _ _ from rlive_ok (v.S i).e.r (v.S i).e.a (v.S i).e.p (v.S i).e.b (v.S i).e.q (v.S i).e.r2 (v.S i).e.a2 (v.S i).e.p2 (v.S i).e.b2 (v.S i).e.q2 (v.S i).e.st (v.S i).e.dl (.slice (v.S i).e.ad (v.S i).e.n (v.S i).e.c) v.now _).mono ?_
      rintro e z3 ⟨rfl, hp⟩
      have hn := Fp.trans hHeld hp (fun _ _ h => h.elim)
      refine k_now hK hn ?_
      clear hK K hp hHeld
      have hHeld := hn
      clear hn
      try simp only [Act.put, List.setIfInBounds_toArray, List.set_cons_zero, List.set_cons_succ]
      (refine tk 22 (some 27) ?_ ?_ ?_; rotate_left; (focus (intro wS hSw; go_simp; try with_reducible rfl)); (try simp only [Act.put, List.setIfInBounds_toArray, List.set_cons_zero, List.set_cons_succ]))
      (refine tk 23 (some 4) ?_ ?_ ?_; rotate_left; (focus (intro wS hSw; go_simp; try with_reducible rfl)); (try simp only [Act.put, List.setIfInBounds_toArray, List.set_cons_zero, List.set_cons_succ]))
      refine wpAnyH_done (by kernel_rfl) ?_ _
      clear lV c0 c1 c2 c3 c4 c5 c6 c7 x0 x1 x2 x3 x4 x5 x6 x7 x8 x9 x10 x11 x12 x13 x14 x15
      replace HN := hid_now HN hHeld
      clear hHeld
      go_wp2_with fail
      go_ret
      exact ⟨rfl, HN.out⟩
    · skip
      obtain rfl : res = false := HR.out.trans (by simp [VD.liveS, HPt.out, HDd.out])
      refine wp_region_held_drew (S := fun wx => NoW Vw wx) (by kernel_rfl) (Fp.drew (Fp.refl _ _)) (fun hHeld0 => ?_)
      refine any_eq hHeld0 (fun z1 hW hHeld => ?_)
      clear hHeld0
      clear hW
      (refine tk 0 (some 5) ?_ ?_ ?_; rotate_left; (focus (intro wS hSw; (have q0 := (hSw.cell (p := ⟨gV, 0, none⟩) lV id).trans c0); (have q1 := (hSw.cell (p := ⟨gV, 1, none⟩) lV id).trans c1); (have q2 := (hSw.cell (p := ⟨gV, 2, none⟩) lV id).trans c2); (have q3 := (hSw.cell (p := ⟨gV, 3, none⟩) lV id).trans c3); (have q4 := (hSw.cell (p := ⟨gV, 4, none⟩) lV id).trans c4); (have q5 := (hSw.cell (p := ⟨gV, 5, none⟩) lV id).trans c5); (have q6 := (hSw.cell (p := ⟨gV, 6, none⟩) lV id).trans c6); (have q7 := (hSw.cell (p := ⟨gV, 7, none⟩) lV id).trans c7); go_simp; try with_reducible rfl)); (try simp only [Act.put, List.setIfInBounds_toArray, List.set_cons_zero, List.set_cons_succ]))
      (refine tk 1 (some 6) ?_ ?_ ?_; rotate_left; (focus (intro wS hSw; go_simp; try with_reducible rfl)); (try simp only [Act.put, List.setIfInBounds_toArray, List.set_cons_zero, List.set_cons_succ]))
      refine wpAnyH_ready (rs := [2]) (by kernel_rfl) (by simp) ?_
      refine AllReadyH.cons rfl (fun K hK => ?_) AllReadyH.nil
      go_simp
      go_at_call 49
      refine (show Calls _ _ _ _ _ from KP.out _ ((HW0.out.trans HN.out (fun _ _ h => h)).trans hHeld (fun _ _ h => h))).mono ?_
      rintro e z2 ⟨rfl, hp⟩
      have hn := Fp.trans hHeld hp (fun _ _ h => h.elim)
      refine k_now hK hn ?_
      clear hK K hp hHeld
      have hHeld := hn
      clear hn
      try simp only [Act.put, List.setIfInBounds_toArray, List.set_cons_zero, List.set_cons_succ]
      (refine tk 3 (some 8) ?_ ?_ ?_; rotate_left; (focus (intro wS hSw; go_simp; try with_reducible rfl)); (try simp only [Act.put, List.setIfInBounds_toArray, List.set_cons_zero, List.set_cons_succ]))
      (refine tk 4 (some 9) ?_ ?_ ?_; rotate_left; (focus (intro wS hSw; go_simp; try with_reducible rfl)); (try simp only [Act.put, List.setIfInBounds_toArray, List.set_cons_zero, List.set_cons_succ]))
      (refine tk 5 (some 10) ?_ ?_ ?_; rotate_left; (focus (intro wS hSw; (have q0 := (hSw.cell (p := ⟨gV, 0, none⟩) lV id).trans c0); (have q1 := (hSw.cell (p := ⟨gV, 1, none⟩) lV id).trans c1); go_simp; try with_reducible rfl)); (try simp only [Act.put, List.setIfInBounds_toArray, List.set_cons_zero, List.set_cons_succ]))
      (refine tk 6 (some 11) ?_ ?_ ?_; rotate_left; (focus (intro wS hSw; go_simp; try with_reducible rfl)); (try simp only [Act.put, List.setIfInBounds_toArray, List.set_cons_zero, List.set_cons_succ]))
      (refine tk 7 (some 12) ?_ ?_ ?_; rotate_left; (focus (intro wS hSw; go_simp; try with_reducible rfl)); (try simp only [Act.put, List.setIfInBounds_toArray, List.set_cons_zero, List.set_cons_succ]))
      (refine tk 8 (some 13) ?_ ?_ ?_; rotate_left; (focus (intro wS hSw; go_simp; try with_reducible rfl)); (try simp only [Act.put, List.setIfInBounds_toArray, List.set_cons_zero, List.set_cons_succ]))
      (refine tk 9 (some 14) ?_ ?_ ?_; rotate_left; (focus (intro wS hSw; (have p2 := (hSw.cell (p := ⟨b1, o1 + i * 18 + 2, none⟩) lb1 id).trans x2); (have p3 := (hSw.cell (p := ⟨b1, o1 + i * 18 + 3, none⟩) lb1 id).trans x3); (have p4 := (hSw.cell (p := ⟨b1, o1 + i * 18 + 4, none⟩) lb1 id).trans x4); (have p5 := (hSw.cell (p := ⟨b1, o1 + i * 18 + 5, none⟩) lb1 id).trans x5); (have p6 := (hSw.cell (p := ⟨b1, o1 + i * 18 + 6, none⟩) lb1 id).trans x6); (have p7 := (hSw.cell (p := ⟨b1, o1 + i * 18 + 7, none⟩) lb1 id).trans x7); (have p8 := (hSw.cell (p := ⟨b1, o1 + i * 18 + 8, none⟩) lb1 id).trans x8); (have p9 := (hSw.cell (p := ⟨b1, o1 + i * 18 + 9, none⟩) lb1 id).trans x9); (have p10 := (hSw.cell (p := ⟨b1, o1 + i * 18 + 10, none⟩) lb1 id).trans x10); (have p11 := (hSw.cell (p := ⟨b1, o1 + i * 18 + 11, none⟩) lb1 id).trans x11); (have p12 := (hSw.cell (p := ⟨b1, o1 + i * 18 + 12, none⟩) lb1 id).trans x12); (have p13 := (hSw.cell (p := ⟨b1, o1 + i * 18 + 13, none⟩) lb1 id).trans x13); (have p14 := (hSw.cell (p := ⟨b1, o1 + i * 18 + 14, none⟩) lb1 id).trans x14); (have p15 := (hSw.cell (p := ⟨b1, o1 + i * 18 + 15, none⟩) lb1 id).trans x15); go_simp; try with_reducible rfl)); (try simp only [Act.put, List.setIfInBounds_toArray, List.set_cons_zero, List.set_cons_succ]))
      (refine tk 10 (some 15) ?_ ?_ ?_; rotate_left; (focus (intro wS hSw; go_simp; try with_reducible rfl)); (try simp only [Act.put, List.setIfInBounds_toArray, List.set_cons_zero, List.set_cons_succ]))
      (refine tk 11 (some 16) ?_ ?_ ?_; rotate_left; (focus (intro wS hSw; go_simp; try with_reducible rfl)); (try simp only [Act.put, List.setIfInBounds_toArray, List.set_cons_zero, List.set_cons_succ]))
      (refine tk 12 (some 17) ?_ ?_ ?_; rotate_left; (focus (intro wS hSw; go_simp; try with_reducible rfl)); (try simp only [Act.put, List.setIfInBounds_toArray, List.set_cons_zero, List.set_cons_succ]))
      (refine dk 13 (some 18) ?_; (try simp only [Act.put, List.setIfInBounds_toArray, List.set_cons_zero, List.set_cons_succ]))
      (refine dk 14 (some 19) ?_; (try simp only [Act.put, List.setIfInBounds_toArray, List.set_cons_zero, List.set_cons_succ]))
      (refine dk 15 (some 20) ?_; (try simp only [Act.put, List.setIfInBounds_toArray, List.set_cons_zero, List.set_cons_succ]))
      (refine dk 16 (some 21) ?_; (try simp only [Act.put, List.setIfInBounds_toArray, List.set_cons_zero, List.set_cons_succ]))
      (refine dk 17 (some 22) ?_; (try simp only [Act.put, List.setIfInBounds_toArray, List.set_cons_zero, List.set_cons_succ]))
      (refine dk 18 (some 23) ?_; (try simp only [Act.put, List.setIfInBounds_toArray, List.set_cons_zero, List.set_cons_succ]))
      (refine dk 19 (some 24) ?_; (try simp only [Act.put, List.setIfInBounds_toArray, List.set_cons_zero, List.set_cons_succ]))
      (refine dk 20 (some 25) ?_; (try simp only [Act.put, List.setIfInBounds_toArray, List.set_cons_zero, List.set_cons_succ]))
      (refine dk 21 (some 26) ?_; (try simp only [Act.put, List.setIfInBounds_toArray, List.set_cons_zero, List.set_cons_succ]))
      (refine tk 22 (some 27) ?_ ?_ ?_; rotate_left; (focus (intro wS hSw; go_simp; try with_reducible rfl)); (try simp only [Act.put, List.setIfInBounds_toArray, List.set_cons_zero, List.set_cons_succ]))
      (refine tk 23 (some 4) ?_ ?_ ?_; rotate_left; (focus (intro wS hSw; go_simp; try with_reducible rfl)); (try simp only [Act.put, List.setIfInBounds_toArray, List.set_cons_zero, List.set_cons_succ]))
      refine wpAnyH_done (by kernel_rfl) ?_ _
      clear lV c0 c1 c2 c3 c4 c5 c6 c7 x0 x1 x2 x3 x4 x5 x6 x7 x8 x9 x10 x11 x12 x13 x14 x15
      replace HN := hid_now HN hHeld
      clear hHeld
      go_wp2_with fail
      go_ret
      exact ⟨rfl, HN.out⟩
set_option maxHeartbeats 8000000 in
set_option maxRecDepth 100000 in
theorem rslot_ok (v : VD) (sa ca pa qa : Option Addr) (sc cc pc qc : Nat) (i : Nat) (h1 : Int) (h2 : Nat) (w0 W : World)  (hW0 : NoW w0 W) :
    Calls Tryz.prog 19 #[.agg #[.bool (v.S i).used, .bool (v.S i).put, .bool (v.S i).dead, .int .u8 (v.S i).e.r, .int .u32 (v.S i).e.a, .int .u16 (v.S i).e.p, .int .u32 (v.S i).e.b, .int .u16 (v.S i).e.q, .int .u8 (v.S i).e.r2, .int .u32 (v.S i).e.a2, .int .u16 (v.S i).e.p2, .int .u32 (v.S i).e.b2, .int .u16 (v.S i).e.q2, .int .i64 (v.S i).e.st, .int .i64 (v.S i).e.dl, .slice (v.S i).e.ad (v.S i).e.n (v.S i).e.c, .int .i64 h1, .int .u32 (h2 : Nat)]] W (Ret1 (.bool (v.f1 i)) W) := by
  have HW0 := Lib.hid hW0
  clear hW0
  obtain ⟨res, hr⟩ : ∃ r, r = v.f1 i := ⟨_, rfl⟩
  rw [← hr]
  have HR := Lib.hid hr
  clear hr
  have KM := Lib.hid (fun W2 => rmay18_ok (v.S i).e.r (v.S i).e.a (v.S i).e.p (v.S i).e.b (v.S i).e.q (v.S i).e.r2 (v.S i).e.a2 (v.S i).e.p2 (v.S i).e.b2 (v.S i).e.q2 (v.S i).e.st (v.S i).e.dl (v.S i).e.ad (v.S i).e.n (v.S i).e.c W2)
  have hch : (chkB (v.S i).e.r (v.S i).e.p (v.S i).e.q (v.S i).e.r2 (v.S i).e.p2 (v.S i).e.q2 (decide ((v.S i).e.r = (v.S i).e.r2 ∧ (v.S i).e.a = (v.S i).e.a2 ∧ (v.S i).e.p = (v.S i).e.p2 ∧ (v.S i).e.b = (v.S i).e.b2 ∧ (v.S i).e.q = (v.S i).e.q2)) (v.S i).e.st (v.S i).e.dl (v.S i).e.n) = v.okS i := rfl
  rw [hch] at KM
  clear hch
  obtain ⟨pt, hpt⟩ : ∃ b, b = (v.S i).put := ⟨_, rfl⟩
  obtain ⟨dd, hdd⟩ : ∃ b, b = (v.S i).dead := ⟨_, rfl⟩
  obtain ⟨us, hus⟩ : ∃ b, b = (v.S i).used := ⟨_, rfl⟩
  obtain ⟨ok, hok⟩ : ∃ b, b = v.okS i := ⟨_, rfl⟩
  rw [← hpt, ← hdd, ← hus]
  rw [← hok] at KM
  have hF : v.f1 i = ((pt && (!us || !ok)) || (dd && (!us || !pt))) := by rw [hpt, hdd, hus, hok]; rfl
  rw [hF] at HR
  clear hpt hdd hus hok hF
  go_enter Tryz.func19, Tryz.ntmps19
  have HN := Lib.hid (Fp.refl (fun _ => False) W)
  go_upto_region 1 with fail
  refine wp_gen (fun Vw hW => ?_)
  have hp := new_now hW
  have hB := new_blk hW
  clear hW
  replace HN := hid_now HN hp
  obtain ⟨gV, hgV⟩ : ∃ gV, gV = W.heap.size := ⟨_, rfl⟩
  rw [← hgV] at hB ⊢
  have B_V := hB
  clear hB hp hgV
  rcases pt with _ | _
  · rcases dd with _ | _
    · skip
      obtain rfl : res = false := HR.out.trans (by simp)
      have c0 := cell_at B_V 0 rfl
      have c1 := cell_at B_V 1 rfl
      have c2 := cell_at B_V 2 rfl
      have c3 := cell_at B_V 3 rfl
      have c4 := cell_at B_V 4 rfl
      have c5 := cell_at B_V 5 rfl
      have c6 := cell_at B_V 6 rfl
      have c7 := cell_at B_V 7 rfl
      have c8 := cell_at B_V 8 rfl
      have c9 := cell_at B_V 9 rfl
      have c10 := cell_at B_V 10 rfl
      have c11 := cell_at B_V 11 rfl
      have c12 := cell_at B_V 12 rfl
      have c13 := cell_at B_V 13 rfl
      have c14 := cell_at B_V 14 rfl
      have c15 := cell_at B_V 15 rfl
      have c16 := cell_at B_V 16 rfl
      have c17 := cell_at B_V 17 rfl
      have lV := hid_lt B_V
      go_wp2_with fail
      go_ret
      exact ⟨rfl, HN.out⟩
    · rcases us with _ | _
      · skip
        obtain rfl : res = true := HR.out.trans (by simp)
        have c0 := cell_at B_V 0 rfl
        have c1 := cell_at B_V 1 rfl
        have c2 := cell_at B_V 2 rfl
        have c3 := cell_at B_V 3 rfl
        have c4 := cell_at B_V 4 rfl
        have c5 := cell_at B_V 5 rfl
        have c6 := cell_at B_V 6 rfl
        have c7 := cell_at B_V 7 rfl
        have c8 := cell_at B_V 8 rfl
        have c9 := cell_at B_V 9 rfl
        have c10 := cell_at B_V 10 rfl
        have c11 := cell_at B_V 11 rfl
        have c12 := cell_at B_V 12 rfl
        have c13 := cell_at B_V 13 rfl
        have c14 := cell_at B_V 14 rfl
        have c15 := cell_at B_V 15 rfl
        have c16 := cell_at B_V 16 rfl
        have c17 := cell_at B_V 17 rfl
        have lV := hid_lt B_V
        go_wp2_with fail
        go_ret
        exact ⟨rfl, HN.out⟩
      · skip
        obtain rfl : res = true := HR.out.trans (by simp)
        have c0 := cell_at B_V 0 rfl
        have c1 := cell_at B_V 1 rfl
        have c2 := cell_at B_V 2 rfl
        have c3 := cell_at B_V 3 rfl
        have c4 := cell_at B_V 4 rfl
        have c5 := cell_at B_V 5 rfl
        have c6 := cell_at B_V 6 rfl
        have c7 := cell_at B_V 7 rfl
        have c8 := cell_at B_V 8 rfl
        have c9 := cell_at B_V 9 rfl
        have c10 := cell_at B_V 10 rfl
        have c11 := cell_at B_V 11 rfl
        have c12 := cell_at B_V 12 rfl
        have c13 := cell_at B_V 13 rfl
        have c14 := cell_at B_V 14 rfl
        have c15 := cell_at B_V 15 rfl
        have c16 := cell_at B_V 16 rfl
        have c17 := cell_at B_V 17 rfl
        have lV := hid_lt B_V
        go_wp2_with fail
        go_ret
        exact ⟨rfl, HN.out⟩
  · rcases us with _ | _
    · skip
      obtain rfl : res = true := HR.out.trans (by simp)
      have c0 := cell_at B_V 0 rfl
      have c1 := cell_at B_V 1 rfl
      have c2 := cell_at B_V 2 rfl
      have c3 := cell_at B_V 3 rfl
      have c4 := cell_at B_V 4 rfl
      have c5 := cell_at B_V 5 rfl
      have c6 := cell_at B_V 6 rfl
      have c7 := cell_at B_V 7 rfl
      have c8 := cell_at B_V 8 rfl
      have c9 := cell_at B_V 9 rfl
      have c10 := cell_at B_V 10 rfl
      have c11 := cell_at B_V 11 rfl
      have c12 := cell_at B_V 12 rfl
      have c13 := cell_at B_V 13 rfl
      have c14 := cell_at B_V 14 rfl
      have c15 := cell_at B_V 15 rfl
      have c16 := cell_at B_V 16 rfl
      have c17 := cell_at B_V 17 rfl
      have lV := hid_lt B_V
      go_wp2_with fail
      go_ret
      exact ⟨rfl, HN.out⟩
    · rcases ok with _ | _
      · skip
        obtain rfl : res = true := HR.out.trans (by simp)
        have c0 := cell_at B_V 0 rfl
        have c1 := cell_at B_V 1 rfl
        have c2 := cell_at B_V 2 rfl
        have c3 := cell_at B_V 3 rfl
        have c4 := cell_at B_V 4 rfl
        have c5 := cell_at B_V 5 rfl
        have c6 := cell_at B_V 6 rfl
        have c7 := cell_at B_V 7 rfl
        have c8 := cell_at B_V 8 rfl
        have c9 := cell_at B_V 9 rfl
        have c10 := cell_at B_V 10 rfl
        have c11 := cell_at B_V 11 rfl
        have c12 := cell_at B_V 12 rfl
        have c13 := cell_at B_V 13 rfl
        have c14 := cell_at B_V 14 rfl
        have c15 := cell_at B_V 15 rfl
        have c16 := cell_at B_V 16 rfl
        have c17 := cell_at B_V 17 rfl
        have lV := hid_lt B_V
        go_wp2_with fail
        refine (KM.out _).mono ?_
        rintro e z ⟨rfl, hp⟩
        replace HN := hid_now HN hp
        replace B_V := hid_blk B_V hp
        clear hp lV c0 c1 c2 c3 c4 c5 c6 c7 c8 c9 c10 c11 c12 c13 c14 c15 c16 c17
        have c0 := cell_at B_V 0 rfl
        have c1 := cell_at B_V 1 rfl
        have c2 := cell_at B_V 2 rfl
        have c3 := cell_at B_V 3 rfl
        have c4 := cell_at B_V 4 rfl
        have c5 := cell_at B_V 5 rfl
        have c6 := cell_at B_V 6 rfl
        have c7 := cell_at B_V 7 rfl
        have c8 := cell_at B_V 8 rfl
        have c9 := cell_at B_V 9 rfl
        have c10 := cell_at B_V 10 rfl
        have c11 := cell_at B_V 11 rfl
        have c12 := cell_at B_V 12 rfl
        have c13 := cell_at B_V 13 rfl
        have c14 := cell_at B_V 14 rfl
        have c15 := cell_at B_V 15 rfl
        have c16 := cell_at B_V 16 rfl
        have c17 := cell_at B_V 17 rfl
        have lV := hid_lt B_V
        go_wp2_with fail
        go_ret
        exact ⟨rfl, HN.out⟩
      · rcases dd with _ | _
        · skip
          obtain rfl : res = false := HR.out.trans (by simp)
          have c0 := cell_at B_V 0 rfl
          have c1 := cell_at B_V 1 rfl
          have c2 := cell_at B_V 2 rfl
          have c3 := cell_at B_V 3 rfl
          have c4 := cell_at B_V 4 rfl
          have c5 := cell_at B_V 5 rfl
          have c6 := cell_at B_V 6 rfl
          have c7 := cell_at B_V 7 rfl
          have c8 := cell_at B_V 8 rfl
          have c9 := cell_at B_V 9 rfl
          have c10 := cell_at B_V 10 rfl
          have c11 := cell_at B_V 11 rfl
          have c12 := cell_at B_V 12 rfl
          have c13 := cell_at B_V 13 rfl
          have c14 := cell_at B_V 14 rfl
          have c15 := cell_at B_V 15 rfl
          have c16 := cell_at B_V 16 rfl
          have c17 := cell_at B_V 17 rfl
          have lV := hid_lt B_V
          go_wp2_with fail
          refine (KM.out _).mono ?_
          rintro e z ⟨rfl, hp⟩
          replace HN := hid_now HN hp
          replace B_V := hid_blk B_V hp
          clear hp lV c0 c1 c2 c3 c4 c5 c6 c7 c8 c9 c10 c11 c12 c13 c14 c15 c16 c17
          have c0 := cell_at B_V 0 rfl
          have c1 := cell_at B_V 1 rfl
          have c2 := cell_at B_V 2 rfl
          have c3 := cell_at B_V 3 rfl
          have c4 := cell_at B_V 4 rfl
          have c5 := cell_at B_V 5 rfl
          have c6 := cell_at B_V 6 rfl
          have c7 := cell_at B_V 7 rfl
          have c8 := cell_at B_V 8 rfl
          have c9 := cell_at B_V 9 rfl
          have c10 := cell_at B_V 10 rfl
          have c11 := cell_at B_V 11 rfl
          have c12 := cell_at B_V 12 rfl
          have c13 := cell_at B_V 13 rfl
          have c14 := cell_at B_V 14 rfl
          have c15 := cell_at B_V 15 rfl
          have c16 := cell_at B_V 16 rfl
          have c17 := cell_at B_V 17 rfl
          have lV := hid_lt B_V
          go_wp2_with fail
          go_ret
          exact ⟨rfl, HN.out⟩
        · skip
          obtain rfl : res = false := HR.out.trans (by simp)
          have c0 := cell_at B_V 0 rfl
          have c1 := cell_at B_V 1 rfl
          have c2 := cell_at B_V 2 rfl
          have c3 := cell_at B_V 3 rfl
          have c4 := cell_at B_V 4 rfl
          have c5 := cell_at B_V 5 rfl
          have c6 := cell_at B_V 6 rfl
          have c7 := cell_at B_V 7 rfl
          have c8 := cell_at B_V 8 rfl
          have c9 := cell_at B_V 9 rfl
          have c10 := cell_at B_V 10 rfl
          have c11 := cell_at B_V 11 rfl
          have c12 := cell_at B_V 12 rfl
          have c13 := cell_at B_V 13 rfl
          have c14 := cell_at B_V 14 rfl
          have c15 := cell_at B_V 15 rfl
          have c16 := cell_at B_V 16 rfl
          have c17 := cell_at B_V 17 rfl
          have lV := hid_lt B_V
          go_wp2_with fail
          refine (KM.out _).mono ?_
          rintro e z ⟨rfl, hp⟩
          replace HN := hid_now HN hp
          replace B_V := hid_blk B_V hp
          clear hp lV c0 c1 c2 c3 c4 c5 c6 c7 c8 c9 c10 c11 c12 c13 c14 c15 c16 c17
          have c0 := cell_at B_V 0 rfl
          have c1 := cell_at B_V 1 rfl
          have c2 := cell_at B_V 2 rfl
          have c3 := cell_at B_V 3 rfl
          have c4 := cell_at B_V 4 rfl
          have c5 := cell_at B_V 5 rfl
          have c6 := cell_at B_V 6 rfl
          have c7 := cell_at B_V 7 rfl
          have c8 := cell_at B_V 8 rfl
          have c9 := cell_at B_V 9 rfl
          have c10 := cell_at B_V 10 rfl
          have c11 := cell_at B_V 11 rfl
          have c12 := cell_at B_V 12 rfl
          have c13 := cell_at B_V 13 rfl
          have c14 := cell_at B_V 14 rfl
          have c15 := cell_at B_V 15 rfl
          have c16 := cell_at B_V 16 rfl
          have c17 := cell_at B_V 17 rfl
          have lV := hid_lt B_V
          go_wp2_with fail
          go_ret
          exact ⟨rfl, HN.out⟩
set_option maxHeartbeats 8000000 in
set_option maxRecDepth 100000 in
theorem rwaits_ok (v : VD) (sa ca pa qa : Option Addr) (sc cc pc qc : Nat) (hs : Nat → Int) (hg : Nat → Nat) (i : Nat) (hi : i < v.ns) (hnq : v.nq ≤ 100) (w0 W : World) (hS : AtC w0 sa v.ns 18 (fun i => (v.S i).cs ++ [.int .i64 (hs i), .int .u32 (hg i)])) (hQ : AtC w0 qa v.nq 2 (fun i => (v.Q i).cs)) (hW0 : NoW w0 W) :
    Calls Tryz.prog 25 #[.agg #[.int .i64 v.now, .slice sa v.ns sc, .slice ca v.nc cc, .slice pa v.np pc, .slice qa v.nq qc, .int .i64 v.free, .int .i64 v.live, .int .i64 v.gone], .int .i64 (i : Int)] W (Ret1 (.bool (!v.f5 i)) W) := by
  have HW0 := Lib.hid hW0
  clear hW0
  have HS := Lib.hid hS
  have HQ := Lib.hid hQ
  clear hS hQ
  obtain ⟨res, hr⟩ : ∃ r, r = (!v.f5 i) := ⟨_, rfl⟩
  rw [← hr]
  have HR := Lib.hid hr
  clear hr
  go_enter Tryz.func25, Tryz.ntmps25
  have HN := Lib.hid (Fp.refl (fun _ => False) W)
  go_upto_region 1 with fail
  refine wp_gen (fun Vw hW => ?_)
  have hp := new_now hW
  have hB := new_blk hW
  clear hW
  replace HN := hid_now HN hp
  obtain ⟨gV, hgV⟩ : ∃ gV, gV = W.heap.size := ⟨_, rfl⟩
  rw [← hgV] at hB ⊢
  have B_V := hB
  clear hB hp hgV
  have c4 := cell_at B_V 4 rfl
  have lV := hid_lt B_V
  go_wp2_with fail
  clear c4 lV
  have HX := Lib.hid (Fp.refl (fun _ => False) Vw)
  go_loopg [6, 5] (v.nq + 1) (fun gg kv nv wx => ∃ (k : Nat), k ≤ v.nq ∧ gg = v.nq + 1 - k ∧ kv = .int .i64 (k : Int) ∧ nv = .int .i64 ((cntR k (fun k => decide ((v.Q k).slot = (i : Int))) : Nat) : Int) ∧ NoW Vw wx)
  case atStart => exact ⟨0, by omega, by omega, rfl, by simp [cntR], HX.out⟩
  case round =>
    clear HX
    obtain ⟨k, hk, hg, rfl, rfl, hN⟩ := hrel
    have Hg := Lib.hid hg
    replace HN := hid_now HN hN
    have HX := Lib.hid hN
    replace B_V := hid_blk B_V hN
    clear hg hN
    have hc1 := cntR_le k (fun k => decide ((v.Q k).slot = (i : Int)))
    obtain ⟨N, hN⟩ : ∃ N, N = cntR k (fun k => decide ((v.Q k).slot = (i : Int))) := ⟨_, rfl⟩
    have hNl : N ≤ k := by omega
    rw [← hN]
    have HNN := Lib.hid hN
    clear hN hc1
    by_cases hlt1 : k < v.nq
    · skip
      obtain ⟨b1, o1, hs1, lb1, xc⟩ := (HQ.out.low (HW0.out.trans HN.out (fun _ _ h => h))) k hlt1
      subst hs1
      have x0 : wr.cell? ⟨b1, o1 + k * 2, none⟩ = some (.int .i64 (v.Q k).slot) := xc 0 _ rfl
      have x1 : wr.cell? ⟨b1, o1 + k * 2 + 1, none⟩ = some (.int .u32 (v.Q k).gen) := xc 1 _ rfl
      clear xc
      have pk1 : decide ((k : Int) < (v.nq : Int)) = true := decide_eq_true (by omega)
      have ck1 : (k : Int) < (v.nq : Int) := by omega
      have c4 := cell_at B_V 4 rfl
      have lV := hid_lt B_V
      have hst : ∀ b, decide ((v.Q k).slot = (i : Int)) = b → (cntR (k + 1) (fun k => decide ((v.Q k).slot = (i : Int)))) = N + if b then 1 else 0 := fun b hb => by rw [cntR_succ, hb, HNN.out]
      have HSt := Lib.hid hst
      clear hst
      rcases h1 : ((v.Q k).slot == (i : Int)) with _ | _
      · have HE := Lib.hid (HSt.out false (decide_eq_false (beq_eq_false_iff_ne.1 h1)))
        clear HSt
        go_wp2_with fail
        go_roundg (v.nq - k)
        case measure => have := Hg.out; omega
        case rel => exact ⟨k + 1, by omega, by omega, by go_num, by rw [HE.out]; first | rfl | go_num, HX.out⟩
      · have HE := Lib.hid (HSt.out true (decide_eq_true (beq_iff_eq.1 h1)))
        clear HSt
        go_wp2_with fail
        go_roundg (v.nq - k)
        case measure => have := Hg.out; omega
        case rel => exact ⟨k + 1, by omega, by omega, by go_num, by rw [HE.out]; first | rfl | go_num, HX.out⟩
    · obtain rfl : k = v.nq := by omega
      have pk : decide ((v.nq : Int) < (v.nq : Int)) = false := decide_eq_false (by omega)
      have hn0 : v.nQ i = N := HNN.out.symm
      have HN0 := Lib.hid hn0
      clear hn0
      obtain ⟨b1, o1, hs1, lb1, xc⟩ := (HS.out.low (HW0.out.trans HN.out (fun _ _ h => h))) i hi
      subst hs1
      have x2 : wr.cell? ⟨b1, o1 + i * 18 + 2, none⟩ = some (.bool (v.S i).dead) := xc 2 _ rfl
      clear xc
      have ck1 : (i : Int) < (v.ns : Int) := by omega
      have c1 := cell_at B_V 1 rfl
      have c4 := cell_at B_V 4 rfl
      have lV := hid_lt B_V
      obtain ⟨dd, hdd⟩ : ∃ b, (v.S i).dead = b := ⟨_, rfl⟩
      rw [hdd] at x2
      have HDd := Lib.hid hdd
      clear hdd
      rcases dd with _ | _
      · rcases h1 : ((N : Int) == 0) with _ | _
        · skip
          obtain rfl : res = false := HR.out.trans (by rw [VD.f5, HDd.out, HN0.out]; have := beq_eq_false_iff_ne.1 h1; have h9 : N ≠ 0 := (by omega); simp [h9])
          go_wp2_with fail
          go_ret
          exact ⟨rfl, HN.out⟩
        · skip
          obtain rfl : res = true := HR.out.trans (by rw [VD.f5, HDd.out, HN0.out]; have := beq_iff_eq.1 h1; have h9 : N = 0 := (by omega); simp [h9])
          go_wp2_with fail
          go_ret
          exact ⟨rfl, HN.out⟩
      · rcases h1 : ((N : Int) == 1) with _ | _
        · skip
          obtain rfl : res = false := HR.out.trans (by rw [VD.f5, HDd.out, HN0.out]; have := beq_eq_false_iff_ne.1 h1; have h9 : N ≠ 1 := (by omega); simp [h9])
          go_wp2_with fail
          go_ret
          exact ⟨rfl, HN.out⟩
        · skip
          obtain rfl : res = true := HR.out.trans (by rw [VD.f5, HDd.out, HN0.out]; have := beq_iff_eq.1 h1; have h9 : N = 1 := (by omega); simp [h9])
          go_wp2_with fail
          go_ret
          exact ⟨rfl, HN.out⟩
end Go.Proofs.YtcimbbllefkdlaaGreatDoor
