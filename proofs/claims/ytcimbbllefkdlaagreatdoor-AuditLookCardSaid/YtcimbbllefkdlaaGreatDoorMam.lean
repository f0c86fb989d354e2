/- Texts of this proof, merged: AuG. -/
import Derived.Test.YtcimbbllefkdlaaGreatDoorMal
import Derived.Test.YtcimbbllefkdlaaGreatDoorMag
import Derived.Test.YtcimbbllefkdlaaGreatDoorMaa
import Derived.Test.YtcimbbllefkdlaaGreatDoorMab
import Derived.Test.YtcimbbllefkdlaaGreatDoorMac
import Derived.Test.YtcimbbllefkdlaaGreatDoorMad
import Derived.Test.YtcimbbllefkdlaaGreatDoorMae
import Derived.Test.YtcimbbllefkdlaaGreatDoorMaf
import Derived.Test.YtcimbbllefkdlaaGreatDoorMah
import Derived.Test.YtcimbbllefkdlaaGreatDoorMai
import Derived.Test.YtcimbbllefkdlaaGreatDoorMaj
import Derived.Test.YtcimbbllefkdlaaGreatDoorMak
namespace Go.Proofs.YtcimbbllefkdlaaGreatDoor
set_option linter.unusedVariables false
set_option linter.unusedSimpArgs false
open Go.RowKit Go.Lib Go.Sort
set_option maxHeartbeats 8000000 in
set_option maxRecDepth 100000 in
theorem count_ok (v : VD) (sa ca pa qa : Option Addr) (sc cc pc qc : Nat) (g : Nat) (fs : List (Int × Int)) (hfs : fs.length ≤ 10000) (hn : v.ns ≤ 100) (w0 w : World) (hS : AtC w0 sa v.ns 16 (fun i => (v.S i).cs)) (h : AuLk w0 w g [.int .i64 v.now, .slice sa v.ns sc, .slice ca v.nc cc, .slice pa v.np pc, .slice qa v.nq qc, .int .i64 v.free, .int .i64 v.live, .int .i64 v.gone] fs) :
    Calls Tryz.prog 18 #[.pointer (some ⟨g, 0, none⟩)] w fun e w' => e = .returned (.tuple #[]) ∧ AuLk w0 w' g [.int .i64 v.now, .slice sa v.ns sc, .slice ca v.nc cc, .slice pa v.np pc, .slice qa v.nq qc, .int .i64 v.free, .int .i64 v.live, .int .i64 v.gone] (fs ++ if v.f6 then [(6, 0)] else []) := by
  have HL := Lib.hid h
  have HS := Lib.hid hS
  have HFs := Lib.hid hfs
  clear h hS hfs
  obtain ⟨tl, htl⟩ : ∃ tl : List (Int × Int), tl = if v.f6 then [(6, 0)] else [] := ⟨_, rfl⟩
  rw [← htl]
  have HTl := Lib.hid htl
  clear htl
  go_enter Tryz.func18, Tryz.ntmps18
  have cg1 := HL.out.cell 1 rfl
  have lg := HL.out.lt
  go_wp2_with fail
  clear cg1 lg
  go_loopg [11, 2] (v.ns + 1) (fun gg iv uv wx => ∃ (i : Nat), i ≤ v.ns ∧ gg = v.ns + 1 - i ∧ iv = .int .i64 (i : Int) ∧ uv = .int .i64 ((cntR i fun i => (v.S i).used : Nat) : Int) ∧ NoW w wx)
  case atStart => exact ⟨0, by omega, by omega, rfl, by simp [cntR], Fp.refl _ _⟩
  case round =>
    obtain ⟨i, hi, hg, rfl, rfl, hN⟩ := hrel
    have Hg := Lib.hid hg
    have HN := Lib.hid hN
    replace HL := Lib.hid (HL.out.step hN)
    clear hg hN
    have hc1 := cntR_le i fun i => (v.S i).used
    obtain ⟨N, hN⟩ : ∃ N, N = cntR i fun i => (v.S i).used := ⟨_, rfl⟩
    have hNl : N ≤ i := by omega
    rw [← hN]
    have HNN := Lib.hid hN
    clear hN hc1
    by_cases hlt1 : i < v.ns
    · skip
      obtain ⟨b1, o1, hs, lb1, xc⟩ := (HS.out.low HL.out.low) i hlt1
      subst hs
      have XC1 := Lib.hid xc
      clear xc
      have pk1 : decide ((i : Int) < (v.ns : Int)) = true := decide_eq_true (by omega)
      have ck1 : (i : Int) < (v.ns : Int) := by omega
      have hst : ∀ b, (v.S i).used = b → (cntR (i + 1) fun i => (v.S i).used) = N + if b then 1 else 0 := fun b hb => by rw [cntR_succ, hb, HNN.out]
      have HSt := Lib.hid hst
      clear hst
      go_upto_region 4 with (first | (refine wpList_load_at (o := ⟨some 14, _, _, _, _, _⟩) rfl _ _ rfl b1 (o1 + i * 16) (by kernel_rfl) #[.bool (v.S i).used, .bool (v.S i).put, .bool (v.S i).dead, .int .u8 (v.S i).e.r, .int .u32 (v.S i).e.a, .int .u16 (v.S i).e.p, .int .u32 (v.S i).e.b, .int .u16 (v.S i).e.q, .int .u8 (v.S i).e.r2, .int .u32 (v.S i).e.a2, .int .u16 (v.S i).e.p2, .int .u32 (v.S i).e.b2, .int .u16 (v.S i).e.q2, .int .i64 (v.S i).e.st, .int .i64 (v.S i).e.dl, .slice (v.S i).e.ad (v.S i).e.n (v.S i).e.c] _ XC1.out Tryz.underlying54 rfl (by kernel_rfl) ?_) | (refine wpList_store_new (o := ⟨none, .store 54 _ _, _, _, _, _⟩) rfl _ _ _ rfl rfl _ #[.bool (v.S i).used, .bool (v.S i).put, .bool (v.S i).dead, .int .u8 (v.S i).e.r, .int .u32 (v.S i).e.a, .int .u16 (v.S i).e.p, .int .u32 (v.S i).e.b, .int .u16 (v.S i).e.q, .int .u8 (v.S i).e.r2, .int .u32 (v.S i).e.a2, .int .u16 (v.S i).e.p2, .int .u32 (v.S i).e.b2, .int .u16 (v.S i).e.q2, .int .i64 (v.S i).e.st, .int .i64 (v.S i).e.dl, .slice (v.S i).e.ad (v.S i).e.n (v.S i).e.c] (by kernel_rfl) (by kernel_rfl) (by kernel_rfl) (by kernel_rfl) (by kernel_rfl) ?_))
      clear lb1 XC1
      refine wp_gen (fun yw hW => ?_)
      have hp := new_now hW
      have hB := new_blk hW
      clear hW
      replace HL := Lib.hid (HL.out.step hp)
      replace HN := hid_now HN hp
      obtain ⟨gy, hgy⟩ : ∃ gy, gy = wr.heap.size := ⟨_, rfl⟩
      rw [← hgy] at hB ⊢
      have B_y := hB
      clear hB hp hgy
      have y0 := cell_at B_y 0 rfl
      rcases h1 : (v.S i).used with _ | _
      · rw [h1] at y0
        have HE := Lib.hid (HSt.out _ h1)
        clear h1 HSt
        go_wp2_with fail
        go_roundg (v.ns - i)
        case measure => have := Hg.out; omega
        case rel => exact ⟨i + 1, by omega, by omega, by go_num, by rw [HE.out]; first | rfl | go_num, HN.out⟩
      · rw [h1] at y0
        have HE := Lib.hid (HSt.out _ h1)
        clear h1 HSt
        go_wp2_with fail
        go_roundg (v.ns - i)
        case measure => have := Hg.out; omega
        case rel => exact ⟨i + 1, by omega, by omega, by go_num, by rw [HE.out]; first | rfl | go_num, HN.out⟩
    · obtain rfl : i = v.ns := by omega
      have pk : decide ((v.ns : Int) < (v.ns : Int)) = false := decide_eq_false (by omega)
      have hU : v.nUsed = N := HNN.out.symm
      have HU := Lib.hid hU
      clear hU HN
      rcases h1 : ((N : Int) == v.live) with _ | _
      · skip
        have HF6 := Lib.hid (show v.f6 = true from by simp only [VD.f6, HU.out]; have := beq_eq_false_iff_ne.1 h1; simp [this])
        have h1n : ((N : Int) != v.live) = true := by simp only [bne, h1]; rfl
        go_upto_region 7 with fail
        refine wp_region_held_drew (S := fun wx => ∃ fs', AuLk w0 wx g [.int .i64 v.now, .slice sa v.ns sc, .slice ca v.nc cc, .slice pa v.np pc, .slice qa v.nq qc, .int .i64 v.free, .int .i64 v.live, .int .i64 v.gone] fs') (by kernel_rfl) (⟨_, HL.out.step (Fp.refl _ _).drew⟩) (fun hHeld0 => ?_)
        refine any_eq hHeld0 (fun z1 hW hHeld => ?_)
        clear hHeld0
        replace HL := Lib.hid (HL.out.step (noW_drew hW))
        clear hW
        (refine tk 0 (some 20) ?_ ?_ ?_; rotate_left; (focus (intro wS hSw; go_simp; try with_reducible rfl)); (try simp only [Act.put, List.setIfInBounds_toArray, List.set_cons_zero, List.set_cons_succ]))
        (refine tk 1 (some 21) ?_ ?_ ?_; rotate_left; (focus (intro wS hSw; go_simp; try with_reducible rfl)); (try simp only [Act.put, List.setIfInBounds_toArray, List.set_cons_zero, List.set_cons_succ]))
        (refine tk 2 (some 22) ?_ ?_ ?_; rotate_left; (focus (intro wS hSw; go_simp; try with_reducible rfl)); (try simp only [Act.put, List.setIfInBounds_toArray, List.set_cons_zero, List.set_cons_succ]))
        (refine tk 3 (some 23) ?_ ?_ ?_; rotate_left; (focus (intro wS hSw; go_simp; try with_reducible rfl)); (try simp only [Act.put, List.setIfInBounds_toArray, List.set_cons_zero, List.set_cons_succ]))
        (refine tk 4 (some 24) ?_ ?_ ?_; rotate_left; (focus (intro wS hSw; go_simp; try with_reducible rfl)); (try simp only [Act.put, List.setIfInBounds_toArray, List.set_cons_zero, List.set_cons_succ]))
        (refine tk 5 (some 25) ?_ ?_ ?_; rotate_left; (focus (intro wS hSw; go_simp; try with_reducible rfl)); (try simp only [Act.put, List.setIfInBounds_toArray, List.set_cons_zero, List.set_cons_succ]))
        (refine tk 6 (some 26) ?_ ?_ ?_; rotate_left; (focus (intro wS hSw; (have q6 := hSw.elim fun _ hl => hl.cell 6 rfl); (have ql := hSw.elim fun _ hl => hl.lt); go_simp; try with_reducible rfl)); (try simp only [Act.put, List.setIfInBounds_toArray, List.set_cons_zero, List.set_cons_succ]))
        (refine tk 7 (some 27) ?_ ?_ ?_; rotate_left; (focus (intro wS hSw; go_simp; try with_reducible rfl)); (try simp only [Act.put, List.setIfInBounds_toArray, List.set_cons_zero, List.set_cons_succ]))
        (refine tk 8 (some 28) ?_ ?_ ?_; rotate_left; (focus (intro wS hSw; go_simp; try with_reducible rfl)); (try simp only [Act.put, List.setIfInBounds_toArray, List.set_cons_zero, List.set_cons_succ]))
        (refine dk 9 (some 29) ?_; (try simp only [Act.put, List.setIfInBounds_toArray, List.set_cons_zero, List.set_cons_succ]))
        (refine dk 10 (some 30) ?_; (try simp only [Act.put, List.setIfInBounds_toArray, List.set_cons_zero, List.set_cons_succ]))
        (refine dk 11 (some 31) ?_; (try simp only [Act.put, List.setIfInBounds_toArray, List.set_cons_zero, List.set_cons_succ]))
        (refine dk 12 (some 32) ?_; (try simp only [Act.put, List.setIfInBounds_toArray, List.set_cons_zero, List.set_cons_succ]))
        (refine dk 13 (some 33) ?_; (try simp only [Act.put, List.setIfInBounds_toArray, List.set_cons_zero, List.set_cons_succ]))
        (refine dk 14 (some 34) ?_; (try simp only [Act.put, List.setIfInBounds_toArray, List.set_cons_zero, List.set_cons_succ]))
        (refine tk 15 (some 35) ?_ ?_ ?_; rotate_left; (focus (intro wS hSw; go_simp; try with_reducible rfl)); (try simp only [Act.put, List.setIfInBounds_toArray, List.set_cons_zero, List.set_cons_succ]))
        (refine tk 16 (some 36) ?_ ?_ ?_; rotate_left; (focus (intro wS hSw; go_simp; try with_reducible rfl)); (try simp only [Act.put, List.setIfInBounds_toArray, List.set_cons_zero, List.set_cons_succ]))
        (refine dk 17 (some 37) ?_; (try simp only [Act.put, List.setIfInBounds_toArray, List.set_cons_zero, List.set_cons_succ]))
        (refine dk 18 (some 38) ?_; (try simp only [Act.put, List.setIfInBounds_toArray, List.set_cons_zero, List.set_cons_succ]))
        (refine dk 19 (some 39) ?_; (try simp only [Act.put, List.setIfInBounds_toArray, List.set_cons_zero, List.set_cons_succ]))
        (refine dk 20 (some 40) ?_; (try simp only [Act.put, List.setIfInBounds_toArray, List.set_cons_zero, List.set_cons_succ]))
        (refine dk 21 (some 41) ?_; (try simp only [Act.put, List.setIfInBounds_toArray, List.set_cons_zero, List.set_cons_succ]))
        (refine dk 22 (some 42) ?_; (try simp only [Act.put, List.setIfInBounds_toArray, List.set_cons_zero, List.set_cons_succ]))
        (refine tk 23 (some 43) ?_ ?_ ?_; rotate_left; (focus (intro wS hSw; go_simp; try with_reducible rfl)); (try simp only [Act.put, List.setIfInBounds_toArray, List.set_cons_zero, List.set_cons_succ]))
        (refine tk 24 (some 44) ?_ ?_ ?_; rotate_left; (focus (intro wS hSw; go_simp; try with_reducible rfl)); (try simp only [Act.put, List.setIfInBounds_toArray, List.set_cons_zero, List.set_cons_succ]))
        (refine dk 25 (some 45) ?_; (try simp only [Act.put, List.setIfInBounds_toArray, List.set_cons_zero, List.set_cons_succ]))
        (refine dk 26 (some 46) ?_; (try simp only [Act.put, List.setIfInBounds_toArray, List.set_cons_zero, List.set_cons_succ]))
        (refine dk 27 (some 47) ?_; (try simp only [Act.put, List.setIfInBounds_toArray, List.set_cons_zero, List.set_cons_succ]))
        (refine dk 28 (some 48) ?_; (try simp only [Act.put, List.setIfInBounds_toArray, List.set_cons_zero, List.set_cons_succ]))
        (refine dk 29 (some 49) ?_; (try simp only [Act.put, List.setIfInBounds_toArray, List.set_cons_zero, List.set_cons_succ]))
        (refine dk 30 (some 50) ?_; (try simp only [Act.put, List.setIfInBounds_toArray, List.set_cons_zero, List.set_cons_succ]))
        (refine dk 31 (some 51) ?_; (try simp only [Act.put, List.setIfInBounds_toArray, List.set_cons_zero, List.set_cons_succ]))
        (refine dk 32 (some 52) ?_; (try simp only [Act.put, List.setIfInBounds_toArray, List.set_cons_zero, List.set_cons_succ]))
        (refine dk 33 (some 53) ?_; (try simp only [Act.put, List.setIfInBounds_toArray, List.set_cons_zero, List.set_cons_succ]))
        (refine dk 34 (some 54) ?_; (try simp only [Act.put, List.setIfInBounds_toArray, List.set_cons_zero, List.set_cons_succ]))
        (refine dk 35 (some 55) ?_; (try simp only [Act.put, List.setIfInBounds_toArray, List.set_cons_zero, List.set_cons_succ]))
        (refine dk 36 (some 56) ?_; (try simp only [Act.put, List.setIfInBounds_toArray, List.set_cons_zero, List.set_cons_succ]))
        (refine tk 37 (some 57) ?_ ?_ ?_; rotate_left; (focus (intro wS hSw; go_simp; try with_reducible rfl)); (try simp only [Act.put, List.setIfInBounds_toArray, List.set_cons_zero, List.set_cons_succ]))
        (refine tk 38 (some 58) ?_ ?_ ?_; rotate_left; (focus (intro wS hSw; go_simp; try with_reducible rfl)); (try simp only [Act.put, List.setIfInBounds_toArray, List.set_cons_zero, List.set_cons_succ]))
        (refine dk 39 (some 59) ?_; (try simp only [Act.put, List.setIfInBounds_toArray, List.set_cons_zero, List.set_cons_succ]))
        (refine dk 40 (some 60) ?_; (try simp only [Act.put, List.setIfInBounds_toArray, List.set_cons_zero, List.set_cons_succ]))
        (refine dk 41 (some 61) ?_; (try simp only [Act.put, List.setIfInBounds_toArray, List.set_cons_zero, List.set_cons_succ]))
        (refine dk 42 (some 62) ?_; (try simp only [Act.put, List.setIfInBounds_toArray, List.set_cons_zero, List.set_cons_succ]))
        (refine dk 43 (some 63) ?_; (try simp only [Act.put, List.setIfInBounds_toArray, List.set_cons_zero, List.set_cons_succ]))
        (refine dk 44 (some 64) ?_; (try simp only [Act.put, List.setIfInBounds_toArray, List.set_cons_zero, List.set_cons_succ]))
        (refine dk 45 (some 65) ?_; (try simp only [Act.put, List.setIfInBounds_toArray, List.set_cons_zero, List.set_cons_succ]))
        (refine dk 46 (some 66) ?_; (try simp only [Act.put, List.setIfInBounds_toArray, List.set_cons_zero, List.set_cons_succ]))
        (refine dk 47 (some 67) ?_; (try simp only [Act.put, List.setIfInBounds_toArray, List.set_cons_zero, List.set_cons_succ]))
        (refine dk 48 (some 68) ?_; (try simp only [Act.put, List.setIfInBounds_toArray, List.set_cons_zero, List.set_cons_succ]))
        (refine dk 49 (some 69) ?_; (try simp only [Act.put, List.setIfInBounds_toArray, List.set_cons_zero, List.set_cons_succ]))
        (refine dk 50 (some 70) ?_; (try simp only [Act.put, List.setIfInBounds_toArray, List.set_cons_zero, List.set_cons_succ]))
        (refine tk 51 (some 71) ?_ ?_ ?_; rotate_left; (focus (intro wS hSw; go_simp; try with_reducible rfl)); (try simp only [Act.put, List.setIfInBounds_toArray, List.set_cons_zero, List.set_cons_succ]))
        (refine tk 52 (some 72) ?_ ?_ ?_; rotate_left; (focus (intro wS hSw; go_simp; try with_reducible rfl)); (try simp only [Act.put, List.setIfInBounds_toArray, List.set_cons_zero, List.set_cons_succ]))
        (refine dk 53 (some 73) ?_; (try simp only [Act.put, List.setIfInBounds_toArray, List.set_cons_zero, List.set_cons_succ]))
        (refine dk 54 (some 74) ?_; (try simp only [Act.put, List.setIfInBounds_toArray, List.set_cons_zero, List.set_cons_succ]))
        (refine dk 55 (some 75) ?_; (try simp only [Act.put, List.setIfInBounds_toArray, List.set_cons_zero, List.set_cons_succ]))
        (refine dk 56 (some 76) ?_; (try simp only [Act.put, List.setIfInBounds_toArray, List.set_cons_zero, List.set_cons_succ]))
        (refine dk 57 (some 77) ?_; (try simp only [Act.put, List.setIfInBounds_toArray, List.set_cons_zero, List.set_cons_succ]))
        (refine dk 58 (some 78) ?_; (try simp only [Act.put, List.setIfInBounds_toArray, List.set_cons_zero, List.set_cons_succ]))
        (refine dk 59 (some 79) ?_; (try simp only [Act.put, List.setIfInBounds_toArray, List.set_cons_zero, List.set_cons_succ]))
        (refine dk 60 (some 80) ?_; (try simp only [Act.put, List.setIfInBounds_toArray, List.set_cons_zero, List.set_cons_succ]))
        (refine dk 61 (some 81) ?_; (try simp only [Act.put, List.setIfInBounds_toArray, List.set_cons_zero, List.set_cons_succ]))
        (refine dk 62 (some 82) ?_; (try simp only [Act.put, List.setIfInBounds_toArray, List.set_cons_zero, List.set_cons_succ]))
        (refine dk 63 (some 83) ?_; (try simp only [Act.put, List.setIfInBounds_toArray, List.set_cons_zero, List.set_cons_succ]))
        (refine dk 64 (some 84) ?_; (try simp only [Act.put, List.setIfInBounds_toArray, List.set_cons_zero, List.set_cons_succ]))
        (refine dk 65 (some 85) ?_; (try simp only [Act.put, List.setIfInBounds_toArray, List.set_cons_zero, List.set_cons_succ]))
        (refine dk 66 (some 86) ?_; (try simp only [Act.put, List.setIfInBounds_toArray, List.set_cons_zero, List.set_cons_succ]))
        (refine dk 67 (some 87) ?_; (try simp only [Act.put, List.setIfInBounds_toArray, List.set_cons_zero, List.set_cons_succ]))
        (refine dk 68 (some 88) ?_; (try simp only [Act.put, List.setIfInBounds_toArray, List.set_cons_zero, List.set_cons_succ]))
        (refine dk 69 (some 89) ?_; (try simp only [Act.put, List.setIfInBounds_toArray, List.set_cons_zero, List.set_cons_succ]))
        (refine dk 70 (some 90) ?_; (try simp only [Act.put, List.setIfInBounds_toArray, List.set_cons_zero, List.set_cons_succ]))
        (refine dk 71 (some 91) ?_; (try simp only [Act.put, List.setIfInBounds_toArray, List.set_cons_zero, List.set_cons_succ]))
        (refine dk 72 (some 92) ?_; (try simp only [Act.put, List.setIfInBounds_toArray, List.set_cons_zero, List.set_cons_succ]))
        (refine tk 73 (some 93) ?_ ?_ ?_; rotate_left; (focus (intro wS hSw; go_simp; try with_reducible rfl)); (try simp only [Act.put, List.setIfInBounds_toArray, List.set_cons_zero, List.set_cons_succ]))
        refine wpAnyH_ready (rs := [74]) (by kernel_rfl) (by simp) ?_
        refine AllReadyH.cons rfl (fun K hK => ?_) AllReadyH.nil
        go_simp
        go_at_call 38
        refine (show Calls _ _ _ _ _ from note_ok true w0 _ g _ _ _ _ _ _ _ _ _ 6 0 HL.out (by have := HFs.out; omega)).mono ?_
        rintro e z2 ⟨rfl, hL⟩
        clear hHeld
        have hHeld : ∃ fs', AuLk w0 _ g [.int .i64 v.now, .slice sa v.ns sc, .slice ca v.nc cc, .slice pa v.np pc, .slice qa v.nq qc, .int .i64 v.free, .int .i64 v.live, .int .i64 v.gone] fs' := ⟨_, hL⟩
        replace HL := Lib.hid hL
        clear hL
        refine k_now hK hHeld ?_
        clear hK K
        try simp only [Act.put, List.setIfInBounds_toArray, List.set_cons_zero, List.set_cons_succ]
        refine wpAnyH_done (by kernel_rfl) ?_ _
        go_wp2_with fail
        go_end0
        exact ⟨rfl, by rw [HTl.out, HF6.out]; simpa using HL.out⟩
      · skip
        rcases h2 : decide (v.free < 0) with _ | _
        · skip
          rcases h3 : decide (v.gone < 0) with _ | _
          · skip
            rcases h4 : decide ((v.ns : Int) < v.free) with _ | _
            · skip
              rcases h5 : decide ((v.ns : Int) < v.gone) with _ | _
              · skip
                rcases h6 : (v.free + (N : Int) + v.gone == (v.ns : Int)) with _ | _
                · skip
                  have HF6 := Lib.hid (show v.f6 = true from by simp only [VD.f6, HU.out]; have e1 := beq_iff_eq.1 h1; have e2 := of_decide_eq_false h2; have e3 := of_decide_eq_false h3; have e4 := of_decide_eq_false h4; have e5 := of_decide_eq_false h5; have e6 := beq_eq_false_iff_ne.1 h6; simp; omega)
                  have e1 := beq_iff_eq.1 h1
                  have e2 := of_decide_eq_false h2
                  have e3 := of_decide_eq_false h3
                  have e4 := of_decide_eq_false h4
                  have e5 := of_decide_eq_false h5
                  have s1 : IntKind.i64.wrap (v.free + (N : Int)) = v.free + (N : Int) := IntWalk.i64_in _ (by omega)
                  have s2 : IntKind.i64.wrap (v.free + (N : Int) + v.gone) = v.free + (N : Int) + v.gone := IntWalk.i64_in _ (by omega)
                  clear e2 e3 e4 e5
                  have h1n : ((N : Int) != v.live) = false := by simp only [bne, h1]; rfl
                  have h6n : (v.free + (N : Int) + v.gone != (v.ns : Int)) = true := by simp only [bne, h6]; rfl
                  clear e1
                  go_upto_region 7 with fail
                  refine wp_region_held_drew (S := fun wx => ∃ fs', AuLk w0 wx g [.int .i64 v.now, .slice sa v.ns sc, .slice ca v.nc cc, .slice pa v.np pc, .slice qa v.nq qc, .int .i64 v.free, .int .i64 v.live, .int .i64 v.gone] fs') (by kernel_rfl) (⟨_, HL.out.step (Fp.refl _ _).drew⟩) (fun hHeld0 => ?_)
                  refine any_eq hHeld0 (fun z1 hW hHeld => ?_)
                  clear hHeld0
                  replace HL := Lib.hid (HL.out.step (noW_drew hW))
                  clear hW
                  (refine tk 0 (some 20) ?_ ?_ ?_; rotate_left; (focus (intro wS hSw; go_simp; try with_reducible rfl)); (try simp only [Act.put, List.setIfInBounds_toArray, List.set_cons_zero, List.set_cons_succ]))
                  (refine tk 1 (some 21) ?_ ?_ ?_; rotate_left; (focus (intro wS hSw; go_simp; try with_reducible rfl)); (try simp only [Act.put, List.setIfInBounds_toArray, List.set_cons_zero, List.set_cons_succ]))
                  (refine tk 2 (some 22) ?_ ?_ ?_; rotate_left; (focus (intro wS hSw; go_simp; try with_reducible rfl)); (try simp only [Act.put, List.setIfInBounds_toArray, List.set_cons_zero, List.set_cons_succ]))
                  (refine tk 3 (some 23) ?_ ?_ ?_; rotate_left; (focus (intro wS hSw; go_simp; try with_reducible rfl)); (try simp only [Act.put, List.setIfInBounds_toArray, List.set_cons_zero, List.set_cons_succ]))
                  (refine tk 4 (some 24) ?_ ?_ ?_; rotate_left; (focus (intro wS hSw; go_simp; try with_reducible rfl)); (try simp only [Act.put, List.setIfInBounds_toArray, List.set_cons_zero, List.set_cons_succ]))
                  (refine tk 5 (some 25) ?_ ?_ ?_; rotate_left; (focus (intro wS hSw; go_simp; try with_reducible rfl)); (try simp only [Act.put, List.setIfInBounds_toArray, List.set_cons_zero, List.set_cons_succ]))
                  (refine tk 6 (some 26) ?_ ?_ ?_; rotate_left; (focus (intro wS hSw; (have q6 := hSw.elim fun _ hl => hl.cell 6 rfl); (have ql := hSw.elim fun _ hl => hl.lt); go_simp; try with_reducible rfl)); (try simp only [Act.put, List.setIfInBounds_toArray, List.set_cons_zero, List.set_cons_succ]))
                  (refine tk 7 (some 27) ?_ ?_ ?_; rotate_left; (focus (intro wS hSw; go_simp; try with_reducible rfl)); (try simp only [Act.put, List.setIfInBounds_toArray, List.set_cons_zero, List.set_cons_succ]))
                  (refine tk 8 (some 28) ?_ ?_ ?_; rotate_left; (focus (intro wS hSw; go_simp; try with_reducible rfl)); (try simp only [Act.put, List.setIfInBounds_toArray, List.set_cons_zero, List.set_cons_succ]))
                  (refine tk 9 (some 29) ?_ ?_ ?_; rotate_left; (focus (intro wS hSw; go_simp; try with_reducible rfl)); (try simp only [Act.put, List.setIfInBounds_toArray, List.set_cons_zero, List.set_cons_succ]))
                  (refine tk 10 (some 30) ?_ ?_ ?_; rotate_left; (focus (intro wS hSw; go_simp; try with_reducible rfl)); (try simp only [Act.put, List.setIfInBounds_toArray, List.set_cons_zero, List.set_cons_succ]))
                  (refine tk 11 (some 31) ?_ ?_ ?_; rotate_left; (focus (intro wS hSw; go_simp; try with_reducible rfl)); (try simp only [Act.put, List.setIfInBounds_toArray, List.set_cons_zero, List.set_cons_succ]))
                  (refine tk 12 (some 32) ?_ ?_ ?_; rotate_left; (focus (intro wS hSw; go_simp; try with_reducible rfl)); (try simp only [Act.put, List.setIfInBounds_toArray, List.set_cons_zero, List.set_cons_succ]))
                  (refine tk 13 (some 33) ?_ ?_ ?_; rotate_left; (focus (intro wS hSw; (have q5 := hSw.elim fun _ hl => hl.cell 5 rfl); (have ql := hSw.elim fun _ hl => hl.lt); go_simp; try with_reducible rfl)); (try simp only [Act.put, List.setIfInBounds_toArray, List.set_cons_zero, List.set_cons_succ]))
                  (refine tk 14 (some 34) ?_ ?_ ?_; rotate_left; (focus (intro wS hSw; go_simp; try with_reducible rfl)); (try simp only [Act.put, List.setIfInBounds_toArray, List.set_cons_zero, List.set_cons_succ]))
                  (refine tk 15 (some 35) ?_ ?_ ?_; rotate_left; (focus (intro wS hSw; go_simp; try with_reducible rfl)); (try simp only [Act.put, List.setIfInBounds_toArray, List.set_cons_zero, List.set_cons_succ]))
                  (refine tk 16 (some 36) ?_ ?_ ?_; rotate_left; (focus (intro wS hSw; go_simp; try with_reducible rfl)); (try simp only [Act.put, List.setIfInBounds_toArray, List.set_cons_zero, List.set_cons_succ]))
                  (refine tk 17 (some 37) ?_ ?_ ?_; rotate_left; (focus (intro wS hSw; go_simp; try with_reducible rfl)); (try simp only [Act.put, List.setIfInBounds_toArray, List.set_cons_zero, List.set_cons_succ]))
                  (refine tk 18 (some 38) ?_ ?_ ?_; rotate_left; (focus (intro wS hSw; go_simp; try with_reducible rfl)); (try simp only [Act.put, List.setIfInBounds_toArray, List.set_cons_zero, List.set_cons_succ]))
                  (refine tk 19 (some 39) ?_ ?_ ?_; rotate_left; (focus (intro wS hSw; go_simp; try with_reducible rfl)); (try simp only [Act.put, List.setIfInBounds_toArray, List.set_cons_zero, List.set_cons_succ]))
                  (refine tk 20 (some 40) ?_ ?_ ?_; rotate_left; (focus (intro wS hSw; go_simp; try with_reducible rfl)); (try simp only [Act.put, List.setIfInBounds_toArray, List.set_cons_zero, List.set_cons_succ]))
                  (refine tk 21 (some 41) ?_ ?_ ?_; rotate_left; (focus (intro wS hSw; (have q7 := hSw.elim fun _ hl => hl.cell 7 rfl); (have ql := hSw.elim fun _ hl => hl.lt); go_simp; try with_reducible rfl)); (try simp only [Act.put, List.setIfInBounds_toArray, List.set_cons_zero, List.set_cons_succ]))
                  (refine tk 22 (some 42) ?_ ?_ ?_; rotate_left; (focus (intro wS hSw; go_simp; try with_reducible rfl)); (try simp only [Act.put, List.setIfInBounds_toArray, List.set_cons_zero, List.set_cons_succ]))
                  (refine tk 23 (some 43) ?_ ?_ ?_; rotate_left; (focus (intro wS hSw; go_simp; try with_reducible rfl)); (try simp only [Act.put, List.setIfInBounds_toArray, List.set_cons_zero, List.set_cons_succ]))
                  (refine tk 24 (some 44) ?_ ?_ ?_; rotate_left; (focus (intro wS hSw; go_simp; try with_reducible rfl)); (try simp only [Act.put, List.setIfInBounds_toArray, List.set_cons_zero, List.set_cons_succ]))
                  (refine tk 25 (some 45) ?_ ?_ ?_; rotate_left; (focus (intro wS hSw; go_simp; try with_reducible rfl)); (try simp only [Act.put, List.setIfInBounds_toArray, List.set_cons_zero, List.set_cons_succ]))
                  (refine tk 26 (some 46) ?_ ?_ ?_; rotate_left; (focus (intro wS hSw; go_simp; try with_reducible rfl)); (try simp only [Act.put, List.setIfInBounds_toArray, List.set_cons_zero, List.set_cons_succ]))
                  (refine tk 27 (some 47) ?_ ?_ ?_; rotate_left; (focus (intro wS hSw; go_simp; try with_reducible rfl)); (try simp only [Act.put, List.setIfInBounds_toArray, List.set_cons_zero, List.set_cons_succ]))
                  (refine tk 28 (some 48) ?_ ?_ ?_; rotate_left; (focus (intro wS hSw; go_simp; try with_reducible rfl)); (try simp only [Act.put, List.setIfInBounds_toArray, List.set_cons_zero, List.set_cons_succ]))
                  (refine tk 29 (some 49) ?_ ?_ ?_; rotate_left; (focus (intro wS hSw; (have q5 := hSw.elim fun _ hl => hl.cell 5 rfl); (have ql := hSw.elim fun _ hl => hl.lt); go_simp; try with_reducible rfl)); (try simp only [Act.put, List.setIfInBounds_toArray, List.set_cons_zero, List.set_cons_succ]))
                  (refine tk 30 (some 50) ?_ ?_ ?_; rotate_left; (focus (intro wS hSw; go_simp; try with_reducible rfl)); (try simp only [Act.put, List.setIfInBounds_toArray, List.set_cons_zero, List.set_cons_succ]))
                  (refine tk 31 (some 51) ?_ ?_ ?_; rotate_left; (focus (intro wS hSw; go_simp; try with_reducible rfl)); (try simp only [Act.put, List.setIfInBounds_toArray, List.set_cons_zero, List.set_cons_succ]))
                  (refine tk 32 (some 52) ?_ ?_ ?_; rotate_left; (focus (intro wS hSw; go_simp; try with_reducible rfl)); (try simp only [Act.put, List.setIfInBounds_toArray, List.set_cons_zero, List.set_cons_succ]))
                  (refine tk 33 (some 53) ?_ ?_ ?_; rotate_left; (focus (intro wS hSw; go_simp; try with_reducible rfl)); (try simp only [Act.put, List.setIfInBounds_toArray, List.set_cons_zero, List.set_cons_succ]))
                  (refine tk 34 (some 54) ?_ ?_ ?_; rotate_left; (focus (intro wS hSw; (have q1 := hSw.elim fun _ hl => hl.cell 1 rfl); (have ql := hSw.elim fun _ hl => hl.lt); go_simp; try with_reducible rfl)); (try simp only [Act.put, List.setIfInBounds_toArray, List.set_cons_zero, List.set_cons_succ]))
                  (refine tk 35 (some 55) ?_ ?_ ?_; rotate_left; (focus (intro wS hSw; go_simp; try with_reducible rfl)); (try simp only [Act.put, List.setIfInBounds_toArray, List.set_cons_zero, List.set_cons_succ]))
                  (refine tk 36 (some 56) ?_ ?_ ?_; rotate_left; (focus (intro wS hSw; go_simp; try with_reducible rfl)); (try simp only [Act.put, List.setIfInBounds_toArray, List.set_cons_zero, List.set_cons_succ]))
                  (refine tk 37 (some 57) ?_ ?_ ?_; rotate_left; (focus (intro wS hSw; go_simp; try with_reducible rfl)); (try simp only [Act.put, List.setIfInBounds_toArray, List.set_cons_zero, List.set_cons_succ]))
                  (refine tk 38 (some 58) ?_ ?_ ?_; rotate_left; (focus (intro wS hSw; go_simp; try with_reducible rfl)); (try simp only [Act.put, List.setIfInBounds_toArray, List.set_cons_zero, List.set_cons_succ]))
                  (refine tk 39 (some 59) ?_ ?_ ?_; rotate_left; (focus (intro wS hSw; go_simp; try with_reducible rfl)); (try simp only [Act.put, List.setIfInBounds_toArray, List.set_cons_zero, List.set_cons_succ]))
                  (refine tk 40 (some 60) ?_ ?_ ?_; rotate_left; (focus (intro wS hSw; go_simp; try with_reducible rfl)); (try simp only [Act.put, List.setIfInBounds_toArray, List.set_cons_zero, List.set_cons_succ]))
                  (refine tk 41 (some 61) ?_ ?_ ?_; rotate_left; (focus (intro wS hSw; go_simp; try with_reducible rfl)); (try simp only [Act.put, List.setIfInBounds_toArray, List.set_cons_zero, List.set_cons_succ]))
                  (refine tk 42 (some 62) ?_ ?_ ?_; rotate_left; (focus (intro wS hSw; go_simp; try with_reducible rfl)); (try simp only [Act.put, List.setIfInBounds_toArray, List.set_cons_zero, List.set_cons_succ]))
                  (refine tk 43 (some 63) ?_ ?_ ?_; rotate_left; (focus (intro wS hSw; (have q7 := hSw.elim fun _ hl => hl.cell 7 rfl); (have ql := hSw.elim fun _ hl => hl.lt); go_simp; try with_reducible rfl)); (try simp only [Act.put, List.setIfInBounds_toArray, List.set_cons_zero, List.set_cons_succ]))
                  (refine tk 44 (some 64) ?_ ?_ ?_; rotate_left; (focus (intro wS hSw; go_simp; try with_reducible rfl)); (try simp only [Act.put, List.setIfInBounds_toArray, List.set_cons_zero, List.set_cons_succ]))
                  (refine tk 45 (some 65) ?_ ?_ ?_; rotate_left; (focus (intro wS hSw; go_simp; try with_reducible rfl)); (try simp only [Act.put, List.setIfInBounds_toArray, List.set_cons_zero, List.set_cons_succ]))
                  (refine tk 46 (some 66) ?_ ?_ ?_; rotate_left; (focus (intro wS hSw; go_simp; try with_reducible rfl)); (try simp only [Act.put, List.setIfInBounds_toArray, List.set_cons_zero, List.set_cons_succ]))
                  (refine tk 47 (some 67) ?_ ?_ ?_; rotate_left; (focus (intro wS hSw; go_simp; try with_reducible rfl)); (try simp only [Act.put, List.setIfInBounds_toArray, List.set_cons_zero, List.set_cons_succ]))
                  (refine tk 48 (some 68) ?_ ?_ ?_; rotate_left; (focus (intro wS hSw; (have q1 := hSw.elim fun _ hl => hl.cell 1 rfl); (have ql := hSw.elim fun _ hl => hl.lt); go_simp; try with_reducible rfl)); (try simp only [Act.put, List.setIfInBounds_toArray, List.set_cons_zero, List.set_cons_succ]))
                  (refine tk 49 (some 69) ?_ ?_ ?_; rotate_left; (focus (intro wS hSw; go_simp; try with_reducible rfl)); (try simp only [Act.put, List.setIfInBounds_toArray, List.set_cons_zero, List.set_cons_succ]))
                  (refine tk 50 (some 70) ?_ ?_ ?_; rotate_left; (focus (intro wS hSw; go_simp; try with_reducible rfl)); (try simp only [Act.put, List.setIfInBounds_toArray, List.set_cons_zero, List.set_cons_succ]))
                  (refine tk 51 (some 71) ?_ ?_ ?_; rotate_left; (focus (intro wS hSw; go_simp; try with_reducible rfl)); (try simp only [Act.put, List.setIfInBounds_toArray, List.set_cons_zero, List.set_cons_succ]))
                  (refine tk 52 (some 72) ?_ ?_ ?_; rotate_left; (focus (intro wS hSw; go_simp; try with_reducible rfl)); (try simp only [Act.put, List.setIfInBounds_toArray, List.set_cons_zero, List.set_cons_succ]))
                  (refine tk 53 (some 73) ?_ ?_ ?_; rotate_left; (focus (intro wS hSw; go_simp; try with_reducible rfl)); (try simp only [Act.put, List.setIfInBounds_toArray, List.set_cons_zero, List.set_cons_succ]))
                  (refine tk 54 (some 74) ?_ ?_ ?_; rotate_left; (focus (intro wS hSw; go_simp; try with_reducible rfl)); (try simp only [Act.put, List.setIfInBounds_toArray, List.set_cons_zero, List.set_cons_succ]))
                  (refine tk 55 (some 75) ?_ ?_ ?_; rotate_left; (focus (intro wS hSw; go_simp; try with_reducible rfl)); (try simp only [Act.put, List.setIfInBounds_toArray, List.set_cons_zero, List.set_cons_succ]))
                  (refine tk 56 (some 76) ?_ ?_ ?_; rotate_left; (focus (intro wS hSw; go_simp; try with_reducible rfl)); (try simp only [Act.put, List.setIfInBounds_toArray, List.set_cons_zero, List.set_cons_succ]))
                  (refine tk 57 (some 77) ?_ ?_ ?_; rotate_left; (focus (intro wS hSw; (have q5 := hSw.elim fun _ hl => hl.cell 5 rfl); (have ql := hSw.elim fun _ hl => hl.lt); go_simp; try with_reducible rfl)); (try simp only [Act.put, List.setIfInBounds_toArray, List.set_cons_zero, List.set_cons_succ]))
                  (refine tk 58 (some 78) ?_ ?_ ?_; rotate_left; (focus (intro wS hSw; go_simp; try with_reducible rfl)); (try simp only [Act.put, List.setIfInBounds_toArray, List.set_cons_zero, List.set_cons_succ]))
                  (refine tk 59 (some 79) ?_ ?_ ?_; rotate_left; (focus (intro wS hSw; go_simp; try with_reducible rfl)); (try simp only [Act.put, List.setIfInBounds_toArray, List.set_cons_zero, List.set_cons_succ]))
                  (refine tk 60 (some 80) ?_ ?_ ?_; rotate_left; (focus (intro wS hSw; go_simp; try with_reducible rfl)); (try simp only [Act.put, List.setIfInBounds_toArray, List.set_cons_zero, List.set_cons_succ]))
                  (refine tk 61 (some 81) ?_ ?_ ?_; rotate_left; (focus (intro wS hSw; go_simp; try with_reducible rfl)); (try simp only [Act.put, List.setIfInBounds_toArray, List.set_cons_zero, List.set_cons_succ]))
                  (refine tk 62 (some 82) ?_ ?_ ?_; rotate_left; (focus (intro wS hSw; go_simp; try with_reducible rfl)); (try simp only [Act.put, List.setIfInBounds_toArray, List.set_cons_zero, List.set_cons_succ]))
                  (refine tk 63 (some 83) ?_ ?_ ?_; rotate_left; (focus (intro wS hSw; go_simp; try with_reducible rfl)); (try simp only [Act.put, List.setIfInBounds_toArray, List.set_cons_zero, List.set_cons_succ]))
                  (refine tk 64 (some 84) ?_ ?_ ?_; rotate_left; (focus (intro wS hSw; (have q7 := hSw.elim fun _ hl => hl.cell 7 rfl); (have ql := hSw.elim fun _ hl => hl.lt); go_simp; try with_reducible rfl)); (try simp only [Act.put, List.setIfInBounds_toArray, List.set_cons_zero, List.set_cons_succ]))
                  (refine tk 65 (some 85) ?_ ?_ ?_; rotate_left; (focus (intro wS hSw; go_simp; try with_reducible rfl)); (try simp only [Act.put, List.setIfInBounds_toArray, List.set_cons_zero, List.set_cons_succ]))
                  (refine tk 66 (some 86) ?_ ?_ ?_; rotate_left; (focus (intro wS hSw; go_simp; try with_reducible rfl)); (try simp only [Act.put, List.setIfInBounds_toArray, List.set_cons_zero, List.set_cons_succ]))
                  (refine tk 67 (some 87) ?_ ?_ ?_; rotate_left; (focus (intro wS hSw; go_simp; try with_reducible rfl)); (try simp only [Act.put, List.setIfInBounds_toArray, List.set_cons_zero, List.set_cons_succ]))
                  (refine tk 68 (some 88) ?_ ?_ ?_; rotate_left; (focus (intro wS hSw; go_simp; try with_reducible rfl)); (try simp only [Act.put, List.setIfInBounds_toArray, List.set_cons_zero, List.set_cons_succ]))
                  (refine tk 69 (some 89) ?_ ?_ ?_; rotate_left; (focus (intro wS hSw; go_simp; try with_reducible rfl)); (try simp only [Act.put, List.setIfInBounds_toArray, List.set_cons_zero, List.set_cons_succ]))
                  (refine tk 70 (some 90) ?_ ?_ ?_; rotate_left; (focus (intro wS hSw; (have q1 := hSw.elim fun _ hl => hl.cell 1 rfl); (have ql := hSw.elim fun _ hl => hl.lt); go_simp; try with_reducible rfl)); (try simp only [Act.put, List.setIfInBounds_toArray, List.set_cons_zero, List.set_cons_succ]))
                  (refine tk 71 (some 91) ?_ ?_ ?_; rotate_left; (focus (intro wS hSw; go_simp; try with_reducible rfl)); (try simp only [Act.put, List.setIfInBounds_toArray, List.set_cons_zero, List.set_cons_succ]))
                  (refine tk 72 (some 92) ?_ ?_ ?_; rotate_left; (focus (intro wS hSw; go_simp; try with_reducible rfl)); (try simp only [Act.put, List.setIfInBounds_toArray, List.set_cons_zero, List.set_cons_succ]))
                  (refine tk 73 (some 93) ?_ ?_ ?_; rotate_left; (focus (intro wS hSw; go_simp; try with_reducible rfl)); (try simp only [Act.put, List.setIfInBounds_toArray, List.set_cons_zero, List.set_cons_succ]))
                  refine wpAnyH_ready (rs := [74]) (by kernel_rfl) (by simp) ?_
                  refine AllReadyH.cons rfl (fun K hK => ?_) AllReadyH.nil
                  go_simp
                  go_at_call 38
                  refine (show Calls _ _ _ _ _ from note_ok true w0 _ g _ _ _ _ _ _ _ _ _ 6 0 HL.out (by have := HFs.out; omega)).mono ?_
                  rintro e z2 ⟨rfl, hL⟩
                  clear hHeld
                  have hHeld : ∃ fs', AuLk w0 _ g [.int .i64 v.now, .slice sa v.ns sc, .slice ca v.nc cc, .slice pa v.np pc, .slice qa v.nq qc, .int .i64 v.free, .int .i64 v.live, .int .i64 v.gone] fs' := ⟨_, hL⟩
                  replace HL := Lib.hid hL
                  clear hL
                  refine k_now hK hHeld ?_
                  clear hK K
                  try simp only [Act.put, List.setIfInBounds_toArray, List.set_cons_zero, List.set_cons_succ]
                  refine wpAnyH_done (by kernel_rfl) ?_ _
                  go_wp2_with fail
                  go_end0
                  exact ⟨rfl, by rw [HTl.out, HF6.out]; simpa using HL.out⟩
                · skip
                  have HF6 := Lib.hid (show v.f6 = false from by simp only [VD.f6, HU.out]; have e1 := beq_iff_eq.1 h1; have e2 := of_decide_eq_false h2; have e3 := of_decide_eq_false h3; have e4 := of_decide_eq_false h4; have e5 := of_decide_eq_false h5; have e6 := beq_iff_eq.1 h6; simp; omega)
                  have e1 := beq_iff_eq.1 h1
                  have e2 := of_decide_eq_false h2
                  have e3 := of_decide_eq_false h3
                  have e4 := of_decide_eq_false h4
                  have e5 := of_decide_eq_false h5
                  have s1 : IntKind.i64.wrap (v.free + (N : Int)) = v.free + (N : Int) := IntWalk.i64_in _ (by omega)
                  have s2 : IntKind.i64.wrap (v.free + (N : Int) + v.gone) = v.free + (N : Int) + v.gone := IntWalk.i64_in _ (by omega)
                  clear e2 e3 e4 e5
                  have h1n : ((N : Int) != v.live) = false := by simp only [bne, h1]; rfl
                  have h6n : (v.free + (N : Int) + v.gone != (v.ns : Int)) = false := by simp only [bne, h6]; rfl
                  clear e1
                  go_upto_region 7 with fail
                  refine wp_region_held_drew (S := fun wx => ∃ fs', AuLk w0 wx g [.int .i64 v.now, .slice sa v.ns sc, .slice ca v.nc cc, .slice pa v.np pc, .slice qa v.nq qc, .int .i64 v.free, .int .i64 v.live, .int .i64 v.gone] fs') (by kernel_rfl) (⟨_, HL.out.step (Fp.refl _ _).drew⟩) (fun hHeld0 => ?_)
                  refine any_eq hHeld0 (fun z1 hW hHeld => ?_)
                  clear hHeld0
                  replace HL := Lib.hid (HL.out.step (noW_drew hW))
                  clear hW
                  (refine tk 0 (some 20) ?_ ?_ ?_; rotate_left; (focus (intro wS hSw; go_simp; try with_reducible rfl)); (try simp only [Act.put, List.setIfInBounds_toArray, List.set_cons_zero, List.set_cons_succ]))
                  (refine tk 1 (some 21) ?_ ?_ ?_; rotate_left; (focus (intro wS hSw; go_simp; try with_reducible rfl)); (try simp only [Act.put, List.setIfInBounds_toArray, List.set_cons_zero, List.set_cons_succ]))
                  (refine tk 2 (some 22) ?_ ?_ ?_; rotate_left; (focus (intro wS hSw; go_simp; try with_reducible rfl)); (try simp only [Act.put, List.setIfInBounds_toArray, List.set_cons_zero, List.set_cons_succ]))
                  (refine tk 3 (some 23) ?_ ?_ ?_; rotate_left; (focus (intro wS hSw; go_simp; try with_reducible rfl)); (try simp only [Act.put, List.setIfInBounds_toArray, List.set_cons_zero, List.set_cons_succ]))
                  (refine tk 4 (some 24) ?_ ?_ ?_; rotate_left; (focus (intro wS hSw; go_simp; try with_reducible rfl)); (try simp only [Act.put, List.setIfInBounds_toArray, List.set_cons_zero, List.set_cons_succ]))
                  (refine tk 5 (some 25) ?_ ?_ ?_; rotate_left; (focus (intro wS hSw; go_simp; try with_reducible rfl)); (try simp only [Act.put, List.setIfInBounds_toArray, List.set_cons_zero, List.set_cons_succ]))
                  (refine tk 6 (some 26) ?_ ?_ ?_; rotate_left; (focus (intro wS hSw; (have q6 := hSw.elim fun _ hl => hl.cell 6 rfl); (have ql := hSw.elim fun _ hl => hl.lt); go_simp; try with_reducible rfl)); (try simp only [Act.put, List.setIfInBounds_toArray, List.set_cons_zero, List.set_cons_succ]))
                  (refine tk 7 (some 27) ?_ ?_ ?_; rotate_left; (focus (intro wS hSw; go_simp; try with_reducible rfl)); (try simp only [Act.put, List.setIfInBounds_toArray, List.set_cons_zero, List.set_cons_succ]))
                  (refine tk 8 (some 28) ?_ ?_ ?_; rotate_left; (focus (intro wS hSw; go_simp; try with_reducible rfl)); (try simp only [Act.put, List.setIfInBounds_toArray, List.set_cons_zero, List.set_cons_succ]))
                  (refine tk 9 (some 29) ?_ ?_ ?_; rotate_left; (focus (intro wS hSw; go_simp; try with_reducible rfl)); (try simp only [Act.put, List.setIfInBounds_toArray, List.set_cons_zero, List.set_cons_succ]))
                  (refine tk 10 (some 30) ?_ ?_ ?_; rotate_left; (focus (intro wS hSw; go_simp; try with_reducible rfl)); (try simp only [Act.put, List.setIfInBounds_toArray, List.set_cons_zero, List.set_cons_succ]))
                  (refine tk 11 (some 31) ?_ ?_ ?_; rotate_left; (focus (intro wS hSw; go_simp; try with_reducible rfl)); (try simp only [Act.put, List.setIfInBounds_toArray, List.set_cons_zero, List.set_cons_succ]))
                  (refine tk 12 (some 32) ?_ ?_ ?_; rotate_left; (focus (intro wS hSw; go_simp; try with_reducible rfl)); (try simp only [Act.put, List.setIfInBounds_toArray, List.set_cons_zero, List.set_cons_succ]))
                  (refine tk 13 (some 33) ?_ ?_ ?_; rotate_left; (focus (intro wS hSw; (have q5 := hSw.elim fun _ hl => hl.cell 5 rfl); (have ql := hSw.elim fun _ hl => hl.lt); go_simp; try with_reducible rfl)); (try simp only [Act.put, List.setIfInBounds_toArray, List.set_cons_zero, List.set_cons_succ]))
                  (refine tk 14 (some 34) ?_ ?_ ?_; rotate_left; (focus (intro wS hSw; go_simp; try with_reducible rfl)); (try simp only [Act.put, List.setIfInBounds_toArray, List.set_cons_zero, List.set_cons_succ]))
                  (refine tk 15 (some 35) ?_ ?_ ?_; rotate_left; (focus (intro wS hSw; go_simp; try with_reducible rfl)); (try simp only [Act.put, List.setIfInBounds_toArray, List.set_cons_zero, List.set_cons_succ]))
                  (refine tk 16 (some 36) ?_ ?_ ?_; rotate_left; (focus (intro wS hSw; go_simp; try with_reducible rfl)); (try simp only [Act.put, List.setIfInBounds_toArray, List.set_cons_zero, List.set_cons_succ]))
                  (refine tk 17 (some 37) ?_ ?_ ?_; rotate_left; (focus (intro wS hSw; go_simp; try with_reducible rfl)); (try simp only [Act.put, List.setIfInBounds_toArray, List.set_cons_zero, List.set_cons_succ]))
                  (refine tk 18 (some 38) ?_ ?_ ?_; rotate_left; (focus (intro wS hSw; go_simp; try with_reducible rfl)); (try simp only [Act.put, List.setIfInBounds_toArray, List.set_cons_zero, List.set_cons_succ]))
                  (refine tk 19 (some 39) ?_ ?_ ?_; rotate_left; (focus (intro wS hSw; go_simp; try with_reducible rfl)); (try simp only [Act.put, List.setIfInBounds_toArray, List.set_cons_zero, List.set_cons_succ]))
                  (refine tk 20 (some 40) ?_ ?_ ?_; rotate_left; (focus (intro wS hSw; go_simp; try with_reducible rfl)); (try simp only [Act.put, List.setIfInBounds_toArray, List.set_cons_zero, List.set_cons_succ]))
                  (refine tk 21 (some 41) ?_ ?_ ?_; rotate_left; (focus (intro wS hSw; (have q7 := hSw.elim fun _ hl => hl.cell 7 rfl); (have ql := hSw.elim fun _ hl => hl.lt); go_simp; try with_reducible rfl)); (try simp only [Act.put, List.setIfInBounds_toArray, List.set_cons_zero, List.set_cons_succ]))
                  (refine tk 22 (some 42) ?_ ?_ ?_; rotate_left; (focus (intro wS hSw; go_simp; try with_reducible rfl)); (try simp only [Act.put, List.setIfInBounds_toArray, List.set_cons_zero, List.set_cons_succ]))
                  (refine tk 23 (some 43) ?_ ?_ ?_; rotate_left; (focus (intro wS hSw; go_simp; try with_reducible rfl)); (try simp only [Act.put, List.setIfInBounds_toArray, List.set_cons_zero, List.set_cons_succ]))
                  (refine tk 24 (some 44) ?_ ?_ ?_; rotate_left; (focus (intro wS hSw; go_simp; try with_reducible rfl)); (try simp only [Act.put, List.setIfInBounds_toArray, List.set_cons_zero, List.set_cons_succ]))
                  (refine tk 25 (some 45) ?_ ?_ ?_; rotate_left; (focus (intro wS hSw; go_simp; try with_reducible rfl)); (try simp only [Act.put, List.setIfInBounds_toArray, List.set_cons_zero, List.set_cons_succ]))
                  (refine tk 26 (some 46) ?_ ?_ ?_; rotate_left; (focus (intro wS hSw; go_simp; try with_reducible rfl)); (try simp only [Act.put, List.setIfInBounds_toArray, List.set_cons_zero, List.set_cons_succ]))
                  (refine tk 27 (some 47) ?_ ?_ ?_; rotate_left; (focus (intro wS hSw; go_simp; try with_reducible rfl)); (try simp only [Act.put, List.setIfInBounds_toArray, List.set_cons_zero, List.set_cons_succ]))
                  (refine tk 28 (some 48) ?_ ?_ ?_; rotate_left; (focus (intro wS hSw; go_simp; try with_reducible rfl)); (try simp only [Act.put, List.setIfInBounds_toArray, List.set_cons_zero, List.set_cons_succ]))
                  (refine tk 29 (some 49) ?_ ?_ ?_; rotate_left; (focus (intro wS hSw; (have q5 := hSw.elim fun _ hl => hl.cell 5 rfl); (have ql := hSw.elim fun _ hl => hl.lt); go_simp; try with_reducible rfl)); (try simp only [Act.put, List.setIfInBounds_toArray, List.set_cons_zero, List.set_cons_succ]))
                  (refine tk 30 (some 50) ?_ ?_ ?_; rotate_left; (focus (intro wS hSw; go_simp; try with_reducible rfl)); (try simp only [Act.put, List.setIfInBounds_toArray, List.set_cons_zero, List.set_cons_succ]))
                  (refine tk 31 (some 51) ?_ ?_ ?_; rotate_left; (focus (intro wS hSw; go_simp; try with_reducible rfl)); (try simp only [Act.put, List.setIfInBounds_toArray, List.set_cons_zero, List.set_cons_succ]))
                  (refine tk 32 (some 52) ?_ ?_ ?_; rotate_left; (focus (intro wS hSw; go_simp; try with_reducible rfl)); (try simp only [Act.put, List.setIfInBounds_toArray, List.set_cons_zero, List.set_cons_succ]))
                  (refine tk 33 (some 53) ?_ ?_ ?_; rotate_left; (focus (intro wS hSw; go_simp; try with_reducible rfl)); (try simp only [Act.put, List.setIfInBounds_toArray, List.set_cons_zero, List.set_cons_succ]))
                  (refine tk 34 (some 54) ?_ ?_ ?_; rotate_left; (focus (intro wS hSw; (have q1 := hSw.elim fun _ hl => hl.cell 1 rfl); (have ql := hSw.elim fun _ hl => hl.lt); go_simp; try with_reducible rfl)); (try simp only [Act.put, List.setIfInBounds_toArray, List.set_cons_zero, List.set_cons_succ]))
                  (refine tk 35 (some 55) ?_ ?_ ?_; rotate_left; (focus (intro wS hSw; go_simp; try with_reducible rfl)); (try simp only [Act.put, List.setIfInBounds_toArray, List.set_cons_zero, List.set_cons_succ]))
                  (refine tk 36 (some 56) ?_ ?_ ?_; rotate_left; (focus (intro wS hSw; go_simp; try with_reducible rfl)); (try simp only [Act.put, List.setIfInBounds_toArray, List.set_cons_zero, List.set_cons_succ]))
                  (refine tk 37 (some 57) ?_ ?_ ?_; rotate_left; (focus (intro wS hSw; go_simp; try with_reducible rfl)); (try simp only [Act.put, List.setIfInBounds_toArray, List.set_cons_zero, List.set_cons_succ]))
                  (refine tk 38 (some 58) ?_ ?_ ?_; rotate_left; (focus (intro wS hSw; go_simp; try with_reducible rfl)); (try simp only [Act.put, List.setIfInBounds_toArray, List.set_cons_zero, List.set_cons_succ]))
                  (refine tk 39 (some 59) ?_ ?_ ?_; rotate_left; (focus (intro wS hSw; go_simp; try with_reducible rfl)); (try simp only [Act.put, List.setIfInBounds_toArray, List.set_cons_zero, List.set_cons_succ]))
                  (refine tk 40 (some 60) ?_ ?_ ?_; rotate_left; (focus (intro wS hSw; go_simp; try with_reducible rfl)); (try simp only [Act.put, List.setIfInBounds_toArray, List.set_cons_zero, List.set_cons_succ]))
                  (refine tk 41 (some 61) ?_ ?_ ?_; rotate_left; (focus (intro wS hSw; go_simp; try with_reducible rfl)); (try simp only [Act.put, List.setIfInBounds_toArray, List.set_cons_zero, List.set_cons_succ]))
                  (refine tk 42 (some 62) ?_ ?_ ?_; rotate_left; (focus (intro wS hSw; go_simp; try with_reducible rfl)); (try simp only [Act.put, List.setIfInBounds_toArray, List.set_cons_zero, List.set_cons_succ]))
                  (refine tk 43 (some 63) ?_ ?_ ?_; rotate_left; (focus (intro wS hSw; (have q7 := hSw.elim fun _ hl => hl.cell 7 rfl); (have ql := hSw.elim fun _ hl => hl.lt); go_simp; try with_reducible rfl)); (try simp only [Act.put, List.setIfInBounds_toArray, List.set_cons_zero, List.set_cons_succ]))
                  (refine tk 44 (some 64) ?_ ?_ ?_; rotate_left; (focus (intro wS hSw; go_simp; try with_reducible rfl)); (try simp only [Act.put, List.setIfInBounds_toArray, List.set_cons_zero, List.set_cons_succ]))
                  (refine tk 45 (some 65) ?_ ?_ ?_; rotate_left; (focus (intro wS hSw; go_simp; try with_reducible rfl)); (try simp only [Act.put, List.setIfInBounds_toArray, List.set_cons_zero, List.set_cons_succ]))
                  (refine tk 46 (some 66) ?_ ?_ ?_; rotate_left; (focus (intro wS hSw; go_simp; try with_reducible rfl)); (try simp only [Act.put, List.setIfInBounds_toArray, List.set_cons_zero, List.set_cons_succ]))
                  (refine tk 47 (some 67) ?_ ?_ ?_; rotate_left; (focus (intro wS hSw; go_simp; try with_reducible rfl)); (try simp only [Act.put, List.setIfInBounds_toArray, List.set_cons_zero, List.set_cons_succ]))
                  (refine tk 48 (some 68) ?_ ?_ ?_; rotate_left; (focus (intro wS hSw; (have q1 := hSw.elim fun _ hl => hl.cell 1 rfl); (have ql := hSw.elim fun _ hl => hl.lt); go_simp; try with_reducible rfl)); (try simp only [Act.put, List.setIfInBounds_toArray, List.set_cons_zero, List.set_cons_succ]))
                  (refine tk 49 (some 69) ?_ ?_ ?_; rotate_left; (focus (intro wS hSw; go_simp; try with_reducible rfl)); (try simp only [Act.put, List.setIfInBounds_toArray, List.set_cons_zero, List.set_cons_succ]))
                  (refine tk 50 (some 70) ?_ ?_ ?_; rotate_left; (focus (intro wS hSw; go_simp; try with_reducible rfl)); (try simp only [Act.put, List.setIfInBounds_toArray, List.set_cons_zero, List.set_cons_succ]))
                  (refine tk 51 (some 71) ?_ ?_ ?_; rotate_left; (focus (intro wS hSw; go_simp; try with_reducible rfl)); (try simp only [Act.put, List.setIfInBounds_toArray, List.set_cons_zero, List.set_cons_succ]))
                  (refine tk 52 (some 72) ?_ ?_ ?_; rotate_left; (focus (intro wS hSw; go_simp; try with_reducible rfl)); (try simp only [Act.put, List.setIfInBounds_toArray, List.set_cons_zero, List.set_cons_succ]))
                  (refine tk 53 (some 73) ?_ ?_ ?_; rotate_left; (focus (intro wS hSw; go_simp; try with_reducible rfl)); (try simp only [Act.put, List.setIfInBounds_toArray, List.set_cons_zero, List.set_cons_succ]))
                  (refine tk 54 (some 74) ?_ ?_ ?_; rotate_left; (focus (intro wS hSw; go_simp; try with_reducible rfl)); (try simp only [Act.put, List.setIfInBounds_toArray, List.set_cons_zero, List.set_cons_succ]))
                  (refine tk 55 (some 75) ?_ ?_ ?_; rotate_left; (focus (intro wS hSw; go_simp; try with_reducible rfl)); (try simp only [Act.put, List.setIfInBounds_toArray, List.set_cons_zero, List.set_cons_succ]))
                  (refine tk 56 (some 76) ?_ ?_ ?_; rotate_left; (focus (intro wS hSw; go_simp; try with_reducible rfl)); (try simp only [Act.put, List.setIfInBounds_toArray, List.set_cons_zero, List.set_cons_succ]))
                  (refine tk 57 (some 77) ?_ ?_ ?_; rotate_left; (focus (intro wS hSw; (have q5 := hSw.elim fun _ hl => hl.cell 5 rfl); (have ql := hSw.elim fun _ hl => hl.lt); go_simp; try with_reducible rfl)); (try simp only [Act.put, List.setIfInBounds_toArray, List.set_cons_zero, List.set_cons_succ]))
                  (refine tk 58 (some 78) ?_ ?_ ?_; rotate_left; (focus (intro wS hSw; go_simp; try with_reducible rfl)); (try simp only [Act.put, List.setIfInBounds_toArray, List.set_cons_zero, List.set_cons_succ]))
                  (refine tk 59 (some 79) ?_ ?_ ?_; rotate_left; (focus (intro wS hSw; go_simp; try with_reducible rfl)); (try simp only [Act.put, List.setIfInBounds_toArray, List.set_cons_zero, List.set_cons_succ]))
                  (refine tk 60 (some 80) ?_ ?_ ?_; rotate_left; (focus (intro wS hSw; go_simp; try with_reducible rfl)); (try simp only [Act.put, List.setIfInBounds_toArray, List.set_cons_zero, List.set_cons_succ]))
                  (refine tk 61 (some 81) ?_ ?_ ?_; rotate_left; (focus (intro wS hSw; go_simp; try with_reducible rfl)); (try simp only [Act.put, List.setIfInBounds_toArray, List.set_cons_zero, List.set_cons_succ]))
                  (refine tk 62 (some 82) ?_ ?_ ?_; rotate_left; (focus (intro wS hSw; go_simp; try with_reducible rfl)); (try simp only [Act.put, List.setIfInBounds_toArray, List.set_cons_zero, List.set_cons_succ]))
                  (refine tk 63 (some 83) ?_ ?_ ?_; rotate_left; (focus (intro wS hSw; go_simp; try with_reducible rfl)); (try simp only [Act.put, List.setIfInBounds_toArray, List.set_cons_zero, List.set_cons_succ]))
                  (refine tk 64 (some 84) ?_ ?_ ?_; rotate_left; (focus (intro wS hSw; (have q7 := hSw.elim fun _ hl => hl.cell 7 rfl); (have ql := hSw.elim fun _ hl => hl.lt); go_simp; try with_reducible rfl)); (try simp only [Act.put, List.setIfInBounds_toArray, List.set_cons_zero, List.set_cons_succ]))
                  (refine tk 65 (some 85) ?_ ?_ ?_; rotate_left; (focus (intro wS hSw; go_simp; try with_reducible rfl)); (try simp only [Act.put, List.setIfInBounds_toArray, List.set_cons_zero, List.set_cons_succ]))
                  (refine tk 66 (some 86) ?_ ?_ ?_; rotate_left; (focus (intro wS hSw; go_simp; try with_reducible rfl)); (try simp only [Act.put, List.setIfInBounds_toArray, List.set_cons_zero, List.set_cons_succ]))
                  (refine tk 67 (some 87) ?_ ?_ ?_; rotate_left; (focus (intro wS hSw; go_simp; try with_reducible rfl)); (try simp only [Act.put, List.setIfInBounds_toArray, List.set_cons_zero, List.set_cons_succ]))
                  (refine tk 68 (some 88) ?_ ?_ ?_; rotate_left; (focus (intro wS hSw; go_simp; try with_reducible rfl)); (try simp only [Act.put, List.setIfInBounds_toArray, List.set_cons_zero, List.set_cons_succ]))
                  (refine tk 69 (some 89) ?_ ?_ ?_; rotate_left; (focus (intro wS hSw; go_simp; try with_reducible rfl)); (try simp only [Act.put, List.setIfInBounds_toArray, List.set_cons_zero, List.set_cons_succ]))
                  (refine tk 70 (some 90) ?_ ?_ ?_; rotate_left; (focus (intro wS hSw; (have q1 := hSw.elim fun _ hl => hl.cell 1 rfl); (have ql := hSw.elim fun _ hl => hl.lt); go_simp; try with_reducible rfl)); (try simp only [Act.put, List.setIfInBounds_toArray, List.set_cons_zero, List.set_cons_succ]))
                  (refine tk 71 (some 91) ?_ ?_ ?_; rotate_left; (focus (intro wS hSw; go_simp; try with_reducible rfl)); (try simp only [Act.put, List.setIfInBounds_toArray, List.set_cons_zero, List.set_cons_succ]))
                  (refine tk 72 (some 92) ?_ ?_ ?_; rotate_left; (focus (intro wS hSw; go_simp; try with_reducible rfl)); (try simp only [Act.put, List.setIfInBounds_toArray, List.set_cons_zero, List.set_cons_succ]))
                  (refine tk 73 (some 93) ?_ ?_ ?_; rotate_left; (focus (intro wS hSw; go_simp; try with_reducible rfl)); (try simp only [Act.put, List.setIfInBounds_toArray, List.set_cons_zero, List.set_cons_succ]))
                  refine wpAnyH_ready (rs := [74]) (by kernel_rfl) (by simp) ?_
                  refine AllReadyH.cons rfl (fun K hK => ?_) AllReadyH.nil
                  go_simp
                  go_at_call 38
                  refine (show Calls _ _ _ _ _ from note_ok false w0 _ g _ _ _ _ _ _ _ _ _ 6 0 HL.out (by have := HFs.out; omega)).mono ?_
                  rintro e z2 ⟨rfl, hL⟩
                  clear hHeld
                  have hHeld : ∃ fs', AuLk w0 _ g [.int .i64 v.now, .slice sa v.ns sc, .slice ca v.nc cc, .slice pa v.np pc, .slice qa v.nq qc, .int .i64 v.free, .int .i64 v.live, .int .i64 v.gone] fs' := ⟨_, hL⟩
                  replace HL := Lib.hid hL
                  clear hL
                  refine k_now hK hHeld ?_
                  clear hK K
                  try simp only [Act.put, List.setIfInBounds_toArray, List.set_cons_zero, List.set_cons_succ]
                  refine wpAnyH_done (by kernel_rfl) ?_ _
                  go_wp2_with fail
                  go_end0
                  exact ⟨rfl, by rw [HTl.out, HF6.out]; simpa using HL.out⟩
              · skip
                have HF6 := Lib.hid (show v.f6 = true from by simp only [VD.f6, HU.out]; have e1 := beq_iff_eq.1 h1; have e2 := of_decide_eq_false h2; have e3 := of_decide_eq_false h3; have e4 := of_decide_eq_false h4; have e5 := of_decide_eq_true h5; simp; omega)
                have e1 := beq_iff_eq.1 h1
                have h1n : ((N : Int) != v.live) = false := by simp only [bne, h1]; rfl
                clear e1
                go_upto_region 7 with fail
                refine wp_region_held_drew (S := fun wx => ∃ fs', AuLk w0 wx g [.int .i64 v.now, .slice sa v.ns sc, .slice ca v.nc cc, .slice pa v.np pc, .slice qa v.nq qc, .int .i64 v.free, .int .i64 v.live, .int .i64 v.gone] fs') (by kernel_rfl) (⟨_, HL.out.step (Fp.refl _ _).drew⟩) (fun hHeld0 => ?_)
                refine any_eq hHeld0 (fun z1 hW hHeld => ?_)
                clear hHeld0
                replace HL := Lib.hid (HL.out.step (noW_drew hW))
                clear hW
                (refine tk 0 (some 20) ?_ ?_ ?_; rotate_left; (focus (intro wS hSw; go_simp; try with_reducible rfl)); (try simp only [Act.put, List.setIfInBounds_toArray, List.set_cons_zero, List.set_cons_succ]))
                (refine tk 1 (some 21) ?_ ?_ ?_; rotate_left; (focus (intro wS hSw; go_simp; try with_reducible rfl)); (try simp only [Act.put, List.setIfInBounds_toArray, List.set_cons_zero, List.set_cons_succ]))
                (refine tk 2 (some 22) ?_ ?_ ?_; rotate_left; (focus (intro wS hSw; go_simp; try with_reducible rfl)); (try simp only [Act.put, List.setIfInBounds_toArray, List.set_cons_zero, List.set_cons_succ]))
                (refine tk 3 (some 23) ?_ ?_ ?_; rotate_left; (focus (intro wS hSw; go_simp; try with_reducible rfl)); (try simp only [Act.put, List.setIfInBounds_toArray, List.set_cons_zero, List.set_cons_succ]))
                (refine tk 4 (some 24) ?_ ?_ ?_; rotate_left; (focus (intro wS hSw; go_simp; try with_reducible rfl)); (try simp only [Act.put, List.setIfInBounds_toArray, List.set_cons_zero, List.set_cons_succ]))
                (refine tk 5 (some 25) ?_ ?_ ?_; rotate_left; (focus (intro wS hSw; go_simp; try with_reducible rfl)); (try simp only [Act.put, List.setIfInBounds_toArray, List.set_cons_zero, List.set_cons_succ]))
                (refine tk 6 (some 26) ?_ ?_ ?_; rotate_left; (focus (intro wS hSw; (have q6 := hSw.elim fun _ hl => hl.cell 6 rfl); (have ql := hSw.elim fun _ hl => hl.lt); go_simp; try with_reducible rfl)); (try simp only [Act.put, List.setIfInBounds_toArray, List.set_cons_zero, List.set_cons_succ]))
                (refine tk 7 (some 27) ?_ ?_ ?_; rotate_left; (focus (intro wS hSw; go_simp; try with_reducible rfl)); (try simp only [Act.put, List.setIfInBounds_toArray, List.set_cons_zero, List.set_cons_succ]))
                (refine tk 8 (some 28) ?_ ?_ ?_; rotate_left; (focus (intro wS hSw; go_simp; try with_reducible rfl)); (try simp only [Act.put, List.setIfInBounds_toArray, List.set_cons_zero, List.set_cons_succ]))
                (refine tk 9 (some 29) ?_ ?_ ?_; rotate_left; (focus (intro wS hSw; go_simp; try with_reducible rfl)); (try simp only [Act.put, List.setIfInBounds_toArray, List.set_cons_zero, List.set_cons_succ]))
                (refine tk 10 (some 30) ?_ ?_ ?_; rotate_left; (focus (intro wS hSw; go_simp; try with_reducible rfl)); (try simp only [Act.put, List.setIfInBounds_toArray, List.set_cons_zero, List.set_cons_succ]))
                (refine tk 11 (some 31) ?_ ?_ ?_; rotate_left; (focus (intro wS hSw; go_simp; try with_reducible rfl)); (try simp only [Act.put, List.setIfInBounds_toArray, List.set_cons_zero, List.set_cons_succ]))
                (refine tk 12 (some 32) ?_ ?_ ?_; rotate_left; (focus (intro wS hSw; go_simp; try with_reducible rfl)); (try simp only [Act.put, List.setIfInBounds_toArray, List.set_cons_zero, List.set_cons_succ]))
                (refine tk 13 (some 33) ?_ ?_ ?_; rotate_left; (focus (intro wS hSw; (have q5 := hSw.elim fun _ hl => hl.cell 5 rfl); (have ql := hSw.elim fun _ hl => hl.lt); go_simp; try with_reducible rfl)); (try simp only [Act.put, List.setIfInBounds_toArray, List.set_cons_zero, List.set_cons_succ]))
                (refine tk 14 (some 34) ?_ ?_ ?_; rotate_left; (focus (intro wS hSw; go_simp; try with_reducible rfl)); (try simp only [Act.put, List.setIfInBounds_toArray, List.set_cons_zero, List.set_cons_succ]))
                (refine tk 15 (some 35) ?_ ?_ ?_; rotate_left; (focus (intro wS hSw; go_simp; try with_reducible rfl)); (try simp only [Act.put, List.setIfInBounds_toArray, List.set_cons_zero, List.set_cons_succ]))
                (refine tk 16 (some 36) ?_ ?_ ?_; rotate_left; (focus (intro wS hSw; go_simp; try with_reducible rfl)); (try simp only [Act.put, List.setIfInBounds_toArray, List.set_cons_zero, List.set_cons_succ]))
                (refine tk 17 (some 37) ?_ ?_ ?_; rotate_left; (focus (intro wS hSw; go_simp; try with_reducible rfl)); (try simp only [Act.put, List.setIfInBounds_toArray, List.set_cons_zero, List.set_cons_succ]))
                (refine tk 18 (some 38) ?_ ?_ ?_; rotate_left; (focus (intro wS hSw; go_simp; try with_reducible rfl)); (try simp only [Act.put, List.setIfInBounds_toArray, List.set_cons_zero, List.set_cons_succ]))
                (refine tk 19 (some 39) ?_ ?_ ?_; rotate_left; (focus (intro wS hSw; go_simp; try with_reducible rfl)); (try simp only [Act.put, List.setIfInBounds_toArray, List.set_cons_zero, List.set_cons_succ]))
                (refine tk 20 (some 40) ?_ ?_ ?_; rotate_left; (focus (intro wS hSw; go_simp; try with_reducible rfl)); (try simp only [Act.put, List.setIfInBounds_toArray, List.set_cons_zero, List.set_cons_succ]))
                (refine tk 21 (some 41) ?_ ?_ ?_; rotate_left; (focus (intro wS hSw; (have q7 := hSw.elim fun _ hl => hl.cell 7 rfl); (have ql := hSw.elim fun _ hl => hl.lt); go_simp; try with_reducible rfl)); (try simp only [Act.put, List.setIfInBounds_toArray, List.set_cons_zero, List.set_cons_succ]))
                (refine tk 22 (some 42) ?_ ?_ ?_; rotate_left; (focus (intro wS hSw; go_simp; try with_reducible rfl)); (try simp only [Act.put, List.setIfInBounds_toArray, List.set_cons_zero, List.set_cons_succ]))
                (refine tk 23 (some 43) ?_ ?_ ?_; rotate_left; (focus (intro wS hSw; go_simp; try with_reducible rfl)); (try simp only [Act.put, List.setIfInBounds_toArray, List.set_cons_zero, List.set_cons_succ]))
                (refine tk 24 (some 44) ?_ ?_ ?_; rotate_left; (focus (intro wS hSw; go_simp; try with_reducible rfl)); (try simp only [Act.put, List.setIfInBounds_toArray, List.set_cons_zero, List.set_cons_succ]))
                (refine tk 25 (some 45) ?_ ?_ ?_; rotate_left; (focus (intro wS hSw; go_simp; try with_reducible rfl)); (try simp only [Act.put, List.setIfInBounds_toArray, List.set_cons_zero, List.set_cons_succ]))
                (refine tk 26 (some 46) ?_ ?_ ?_; rotate_left; (focus (intro wS hSw; go_simp; try with_reducible rfl)); (try simp only [Act.put, List.setIfInBounds_toArray, List.set_cons_zero, List.set_cons_succ]))
                (refine tk 27 (some 47) ?_ ?_ ?_; rotate_left; (focus (intro wS hSw; go_simp; try with_reducible rfl)); (try simp only [Act.put, List.setIfInBounds_toArray, List.set_cons_zero, List.set_cons_succ]))
                (refine tk 28 (some 48) ?_ ?_ ?_; rotate_left; (focus (intro wS hSw; go_simp; try with_reducible rfl)); (try simp only [Act.put, List.setIfInBounds_toArray, List.set_cons_zero, List.set_cons_succ]))
                (refine tk 29 (some 49) ?_ ?_ ?_; rotate_left; (focus (intro wS hSw; (have q5 := hSw.elim fun _ hl => hl.cell 5 rfl); (have ql := hSw.elim fun _ hl => hl.lt); go_simp; try with_reducible rfl)); (try simp only [Act.put, List.setIfInBounds_toArray, List.set_cons_zero, List.set_cons_succ]))
                (refine tk 30 (some 50) ?_ ?_ ?_; rotate_left; (focus (intro wS hSw; go_simp; try with_reducible rfl)); (try simp only [Act.put, List.setIfInBounds_toArray, List.set_cons_zero, List.set_cons_succ]))
                (refine tk 31 (some 51) ?_ ?_ ?_; rotate_left; (focus (intro wS hSw; go_simp; try with_reducible rfl)); (try simp only [Act.put, List.setIfInBounds_toArray, List.set_cons_zero, List.set_cons_succ]))
                (refine tk 32 (some 52) ?_ ?_ ?_; rotate_left; (focus (intro wS hSw; go_simp; try with_reducible rfl)); (try simp only [Act.put, List.setIfInBounds_toArray, List.set_cons_zero, List.set_cons_succ]))
                (refine tk 33 (some 53) ?_ ?_ ?_; rotate_left; (focus (intro wS hSw; go_simp; try with_reducible rfl)); (try simp only [Act.put, List.setIfInBounds_toArray, List.set_cons_zero, List.set_cons_succ]))
                (refine tk 34 (some 54) ?_ ?_ ?_; rotate_left; (focus (intro wS hSw; (have q1 := hSw.elim fun _ hl => hl.cell 1 rfl); (have ql := hSw.elim fun _ hl => hl.lt); go_simp; try with_reducible rfl)); (try simp only [Act.put, List.setIfInBounds_toArray, List.set_cons_zero, List.set_cons_succ]))
                (refine tk 35 (some 55) ?_ ?_ ?_; rotate_left; (focus (intro wS hSw; go_simp; try with_reducible rfl)); (try simp only [Act.put, List.setIfInBounds_toArray, List.set_cons_zero, List.set_cons_succ]))
                (refine tk 36 (some 56) ?_ ?_ ?_; rotate_left; (focus (intro wS hSw; go_simp; try with_reducible rfl)); (try simp only [Act.put, List.setIfInBounds_toArray, List.set_cons_zero, List.set_cons_succ]))
                (refine tk 37 (some 57) ?_ ?_ ?_; rotate_left; (focus (intro wS hSw; go_simp; try with_reducible rfl)); (try simp only [Act.put, List.setIfInBounds_toArray, List.set_cons_zero, List.set_cons_succ]))
                (refine tk 38 (some 58) ?_ ?_ ?_; rotate_left; (focus (intro wS hSw; go_simp; try with_reducible rfl)); (try simp only [Act.put, List.setIfInBounds_toArray, List.set_cons_zero, List.set_cons_succ]))
                (refine tk 39 (some 59) ?_ ?_ ?_; rotate_left; (focus (intro wS hSw; go_simp; try with_reducible rfl)); (try simp only [Act.put, List.setIfInBounds_toArray, List.set_cons_zero, List.set_cons_succ]))
                (refine tk 40 (some 60) ?_ ?_ ?_; rotate_left; (focus (intro wS hSw; go_simp; try with_reducible rfl)); (try simp only [Act.put, List.setIfInBounds_toArray, List.set_cons_zero, List.set_cons_succ]))
                (refine tk 41 (some 61) ?_ ?_ ?_; rotate_left; (focus (intro wS hSw; go_simp; try with_reducible rfl)); (try simp only [Act.put, List.setIfInBounds_toArray, List.set_cons_zero, List.set_cons_succ]))
                (refine tk 42 (some 62) ?_ ?_ ?_; rotate_left; (focus (intro wS hSw; go_simp; try with_reducible rfl)); (try simp only [Act.put, List.setIfInBounds_toArray, List.set_cons_zero, List.set_cons_succ]))
                (refine tk 43 (some 63) ?_ ?_ ?_; rotate_left; (focus (intro wS hSw; (have q7 := hSw.elim fun _ hl => hl.cell 7 rfl); (have ql := hSw.elim fun _ hl => hl.lt); go_simp; try with_reducible rfl)); (try simp only [Act.put, List.setIfInBounds_toArray, List.set_cons_zero, List.set_cons_succ]))
                (refine tk 44 (some 64) ?_ ?_ ?_; rotate_left; (focus (intro wS hSw; go_simp; try with_reducible rfl)); (try simp only [Act.put, List.setIfInBounds_toArray, List.set_cons_zero, List.set_cons_succ]))
                (refine tk 45 (some 65) ?_ ?_ ?_; rotate_left; (focus (intro wS hSw; go_simp; try with_reducible rfl)); (try simp only [Act.put, List.setIfInBounds_toArray, List.set_cons_zero, List.set_cons_succ]))
                (refine tk 46 (some 66) ?_ ?_ ?_; rotate_left; (focus (intro wS hSw; go_simp; try with_reducible rfl)); (try simp only [Act.put, List.setIfInBounds_toArray, List.set_cons_zero, List.set_cons_succ]))
                (refine tk 47 (some 67) ?_ ?_ ?_; rotate_left; (focus (intro wS hSw; go_simp; try with_reducible rfl)); (try simp only [Act.put, List.setIfInBounds_toArray, List.set_cons_zero, List.set_cons_succ]))
                (refine tk 48 (some 68) ?_ ?_ ?_; rotate_left; (focus (intro wS hSw; (have q1 := hSw.elim fun _ hl => hl.cell 1 rfl); (have ql := hSw.elim fun _ hl => hl.lt); go_simp; try with_reducible rfl)); (try simp only [Act.put, List.setIfInBounds_toArray, List.set_cons_zero, List.set_cons_succ]))
                (refine tk 49 (some 69) ?_ ?_ ?_; rotate_left; (focus (intro wS hSw; go_simp; try with_reducible rfl)); (try simp only [Act.put, List.setIfInBounds_toArray, List.set_cons_zero, List.set_cons_succ]))
                (refine tk 50 (some 70) ?_ ?_ ?_; rotate_left; (focus (intro wS hSw; go_simp; try with_reducible rfl)); (try simp only [Act.put, List.setIfInBounds_toArray, List.set_cons_zero, List.set_cons_succ]))
                (refine tk 51 (some 71) ?_ ?_ ?_; rotate_left; (focus (intro wS hSw; go_simp; try with_reducible rfl)); (try simp only [Act.put, List.setIfInBounds_toArray, List.set_cons_zero, List.set_cons_succ]))
                (refine tk 52 (some 72) ?_ ?_ ?_; rotate_left; (focus (intro wS hSw; go_simp; try with_reducible rfl)); (try simp only [Act.put, List.setIfInBounds_toArray, List.set_cons_zero, List.set_cons_succ]))
                (refine dk 53 (some 73) ?_; (try simp only [Act.put, List.setIfInBounds_toArray, List.set_cons_zero, List.set_cons_succ]))
                (refine dk 54 (some 74) ?_; (try simp only [Act.put, List.setIfInBounds_toArray, List.set_cons_zero, List.set_cons_succ]))
                (refine dk 55 (some 75) ?_; (try simp only [Act.put, List.setIfInBounds_toArray, List.set_cons_zero, List.set_cons_succ]))
                (refine dk 56 (some 76) ?_; (try simp only [Act.put, List.setIfInBounds_toArray, List.set_cons_zero, List.set_cons_succ]))
                (refine dk 57 (some 77) ?_; (try simp only [Act.put, List.setIfInBounds_toArray, List.set_cons_zero, List.set_cons_succ]))
                (refine dk 58 (some 78) ?_; (try simp only [Act.put, List.setIfInBounds_toArray, List.set_cons_zero, List.set_cons_succ]))
                (refine dk 59 (some 79) ?_; (try simp only [Act.put, List.setIfInBounds_toArray, List.set_cons_zero, List.set_cons_succ]))
                (refine dk 60 (some 80) ?_; (try simp only [Act.put, List.setIfInBounds_toArray, List.set_cons_zero, List.set_cons_succ]))
                (refine dk 61 (some 81) ?_; (try simp only [Act.put, List.setIfInBounds_toArray, List.set_cons_zero, List.set_cons_succ]))
                (refine dk 62 (some 82) ?_; (try simp only [Act.put, List.setIfInBounds_toArray, List.set_cons_zero, List.set_cons_succ]))
                (refine dk 63 (some 83) ?_; (try simp only [Act.put, List.setIfInBounds_toArray, List.set_cons_zero, List.set_cons_succ]))
                (refine dk 64 (some 84) ?_; (try simp only [Act.put, List.setIfInBounds_toArray, List.set_cons_zero, List.set_cons_succ]))
                (refine dk 65 (some 85) ?_; (try simp only [Act.put, List.setIfInBounds_toArray, List.set_cons_zero, List.set_cons_succ]))
                (refine dk 66 (some 86) ?_; (try simp only [Act.put, List.setIfInBounds_toArray, List.set_cons_zero, List.set_cons_succ]))
                (refine dk 67 (some 87) ?_; (try simp only [Act.put, List.setIfInBounds_toArray, List.set_cons_zero, List.set_cons_succ]))
                (refine dk 68 (some 88) ?_; (try simp only [Act.put, List.setIfInBounds_toArray, List.set_cons_zero, List.set_cons_succ]))
                (refine dk 69 (some 89) ?_; (try simp only [Act.put, List.setIfInBounds_toArray, List.set_cons_zero, List.set_cons_succ]))
                (refine dk 70 (some 90) ?_; (try simp only [Act.put, List.setIfInBounds_toArray, List.set_cons_zero, List.set_cons_succ]))
                (refine dk 71 (some 91) ?_; (try simp only [Act.put, List.setIfInBounds_toArray, List.set_cons_zero, List.set_cons_succ]))
                (refine dk 72 (some 92) ?_; (try simp only [Act.put, List.setIfInBounds_toArray, List.set_cons_zero, List.set_cons_succ]))
                (refine tk 73 (some 93) ?_ ?_ ?_; rotate_left; (focus (intro wS hSw; go_simp; try with_reducible rfl)); (try simp only [Act.put, List.setIfInBounds_toArray, List.set_cons_zero, List.set_cons_succ]))
                refine wpAnyH_ready (rs := [74]) (by kernel_rfl) (by simp) ?_
                refine AllReadyH.cons rfl (fun K hK => ?_) AllReadyH.nil
                go_simp
                go_at_call 38
                refine (show Calls _ _ _ _ _ from note_ok true w0 _ g _ _ _ _ _ _ _ _ _ 6 0 HL.out (by have := HFs.out; omega)).mono ?_
                rintro e z2 ⟨rfl, hL⟩
                clear hHeld
                have hHeld : ∃ fs', AuLk w0 _ g [.int .i64 v.now, .slice sa v.ns sc, .slice ca v.nc cc, .slice pa v.np pc, .slice qa v.nq qc, .int .i64 v.free, .int .i64 v.live, .int .i64 v.gone] fs' := ⟨_, hL⟩
                replace HL := Lib.hid hL
                clear hL
                refine k_now hK hHeld ?_
                clear hK K
                try simp only [Act.put, List.setIfInBounds_toArray, List.set_cons_zero, List.set_cons_succ]
                refine wpAnyH_done (by kernel_rfl) ?_ _
                go_wp2_with fail
                go_end0
                exact ⟨rfl, by rw [HTl.out, HF6.out]; simpa using HL.out⟩
            · skip
              have HF6 := Lib.hid (show v.f6 = true from by simp only [VD.f6, HU.out]; have e1 := beq_iff_eq.1 h1; have e2 := of_decide_eq_false h2; have e3 := of_decide_eq_false h3; have e4 := of_decide_eq_true h4; simp; omega)
              have e1 := beq_iff_eq.1 h1
              have h1n : ((N : Int) != v.live) = false := by simp only [bne, h1]; rfl
              clear e1
              go_upto_region 7 with fail
              refine wp_region_held_drew (S := fun wx => ∃ fs', AuLk w0 wx g [.int .i64 v.now, .slice sa v.ns sc, .slice ca v.nc cc, .slice pa v.np pc, .slice qa v.nq qc, .int .i64 v.free, .int .i64 v.live, .int .i64 v.gone] fs') (by kernel_rfl) (⟨_, HL.out.step (Fp.refl _ _).drew⟩) (fun hHeld0 => ?_)
              refine any_eq hHeld0 (fun z1 hW hHeld => ?_)
              clear hHeld0
              replace HL := Lib.hid (HL.out.step (noW_drew hW))
              clear hW
              (refine tk 0 (some 20) ?_ ?_ ?_; rotate_left; (focus (intro wS hSw; go_simp; try with_reducible rfl)); (try simp only [Act.put, List.setIfInBounds_toArray, List.set_cons_zero, List.set_cons_succ]))
              (refine tk 1 (some 21) ?_ ?_ ?_; rotate_left; (focus (intro wS hSw; go_simp; try with_reducible rfl)); (try simp only [Act.put, List.setIfInBounds_toArray, List.set_cons_zero, List.set_cons_succ]))
              (refine tk 2 (some 22) ?_ ?_ ?_; rotate_left; (focus (intro wS hSw; go_simp; try with_reducible rfl)); (try simp only [Act.put, List.setIfInBounds_toArray, List.set_cons_zero, List.set_cons_succ]))
              (refine tk 3 (some 23) ?_ ?_ ?_; rotate_left; (focus (intro wS hSw; go_simp; try with_reducible rfl)); (try simp only [Act.put, List.setIfInBounds_toArray, List.set_cons_zero, List.set_cons_succ]))
              (refine tk 4 (some 24) ?_ ?_ ?_; rotate_left; (focus (intro wS hSw; go_simp; try with_reducible rfl)); (try simp only [Act.put, List.setIfInBounds_toArray, List.set_cons_zero, List.set_cons_succ]))
              (refine tk 5 (some 25) ?_ ?_ ?_; rotate_left; (focus (intro wS hSw; go_simp; try with_reducible rfl)); (try simp only [Act.put, List.setIfInBounds_toArray, List.set_cons_zero, List.set_cons_succ]))
              (refine tk 6 (some 26) ?_ ?_ ?_; rotate_left; (focus (intro wS hSw; (have q6 := hSw.elim fun _ hl => hl.cell 6 rfl); (have ql := hSw.elim fun _ hl => hl.lt); go_simp; try with_reducible rfl)); (try simp only [Act.put, List.setIfInBounds_toArray, List.set_cons_zero, List.set_cons_succ]))
              (refine tk 7 (some 27) ?_ ?_ ?_; rotate_left; (focus (intro wS hSw; go_simp; try with_reducible rfl)); (try simp only [Act.put, List.setIfInBounds_toArray, List.set_cons_zero, List.set_cons_succ]))
              (refine tk 8 (some 28) ?_ ?_ ?_; rotate_left; (focus (intro wS hSw; go_simp; try with_reducible rfl)); (try simp only [Act.put, List.setIfInBounds_toArray, List.set_cons_zero, List.set_cons_succ]))
              (refine tk 9 (some 29) ?_ ?_ ?_; rotate_left; (focus (intro wS hSw; go_simp; try with_reducible rfl)); (try simp only [Act.put, List.setIfInBounds_toArray, List.set_cons_zero, List.set_cons_succ]))
              (refine tk 10 (some 30) ?_ ?_ ?_; rotate_left; (focus (intro wS hSw; go_simp; try with_reducible rfl)); (try simp only [Act.put, List.setIfInBounds_toArray, List.set_cons_zero, List.set_cons_succ]))
              (refine tk 11 (some 31) ?_ ?_ ?_; rotate_left; (focus (intro wS hSw; go_simp; try with_reducible rfl)); (try simp only [Act.put, List.setIfInBounds_toArray, List.set_cons_zero, List.set_cons_succ]))
              (refine tk 12 (some 32) ?_ ?_ ?_; rotate_left; (focus (intro wS hSw; go_simp; try with_reducible rfl)); (try simp only [Act.put, List.setIfInBounds_toArray, List.set_cons_zero, List.set_cons_succ]))
              (refine tk 13 (some 33) ?_ ?_ ?_; rotate_left; (focus (intro wS hSw; (have q5 := hSw.elim fun _ hl => hl.cell 5 rfl); (have ql := hSw.elim fun _ hl => hl.lt); go_simp; try with_reducible rfl)); (try simp only [Act.put, List.setIfInBounds_toArray, List.set_cons_zero, List.set_cons_succ]))
              (refine tk 14 (some 34) ?_ ?_ ?_; rotate_left; (focus (intro wS hSw; go_simp; try with_reducible rfl)); (try simp only [Act.put, List.setIfInBounds_toArray, List.set_cons_zero, List.set_cons_succ]))
              (refine tk 15 (some 35) ?_ ?_ ?_; rotate_left; (focus (intro wS hSw; go_simp; try with_reducible rfl)); (try simp only [Act.put, List.setIfInBounds_toArray, List.set_cons_zero, List.set_cons_succ]))
              (refine tk 16 (some 36) ?_ ?_ ?_; rotate_left; (focus (intro wS hSw; go_simp; try with_reducible rfl)); (try simp only [Act.put, List.setIfInBounds_toArray, List.set_cons_zero, List.set_cons_succ]))
              (refine tk 17 (some 37) ?_ ?_ ?_; rotate_left; (focus (intro wS hSw; go_simp; try with_reducible rfl)); (try simp only [Act.put, List.setIfInBounds_toArray, List.set_cons_zero, List.set_cons_succ]))
              (refine tk 18 (some 38) ?_ ?_ ?_; rotate_left; (focus (intro wS hSw; go_simp; try with_reducible rfl)); (try simp only [Act.put, List.setIfInBounds_toArray, List.set_cons_zero, List.set_cons_succ]))
              (refine tk 19 (some 39) ?_ ?_ ?_; rotate_left; (focus (intro wS hSw; go_simp; try with_reducible rfl)); (try simp only [Act.put, List.setIfInBounds_toArray, List.set_cons_zero, List.set_cons_succ]))
              (refine tk 20 (some 40) ?_ ?_ ?_; rotate_left; (focus (intro wS hSw; go_simp; try with_reducible rfl)); (try simp only [Act.put, List.setIfInBounds_toArray, List.set_cons_zero, List.set_cons_succ]))
              (refine tk 21 (some 41) ?_ ?_ ?_; rotate_left; (focus (intro wS hSw; (have q7 := hSw.elim fun _ hl => hl.cell 7 rfl); (have ql := hSw.elim fun _ hl => hl.lt); go_simp; try with_reducible rfl)); (try simp only [Act.put, List.setIfInBounds_toArray, List.set_cons_zero, List.set_cons_succ]))
              (refine tk 22 (some 42) ?_ ?_ ?_; rotate_left; (focus (intro wS hSw; go_simp; try with_reducible rfl)); (try simp only [Act.put, List.setIfInBounds_toArray, List.set_cons_zero, List.set_cons_succ]))
              (refine tk 23 (some 43) ?_ ?_ ?_; rotate_left; (focus (intro wS hSw; go_simp; try with_reducible rfl)); (try simp only [Act.put, List.setIfInBounds_toArray, List.set_cons_zero, List.set_cons_succ]))
              (refine tk 24 (some 44) ?_ ?_ ?_; rotate_left; (focus (intro wS hSw; go_simp; try with_reducible rfl)); (try simp only [Act.put, List.setIfInBounds_toArray, List.set_cons_zero, List.set_cons_succ]))
              (refine tk 25 (some 45) ?_ ?_ ?_; rotate_left; (focus (intro wS hSw; go_simp; try with_reducible rfl)); (try simp only [Act.put, List.setIfInBounds_toArray, List.set_cons_zero, List.set_cons_succ]))
              (refine tk 26 (some 46) ?_ ?_ ?_; rotate_left; (focus (intro wS hSw; go_simp; try with_reducible rfl)); (try simp only [Act.put, List.setIfInBounds_toArray, List.set_cons_zero, List.set_cons_succ]))
              (refine tk 27 (some 47) ?_ ?_ ?_; rotate_left; (focus (intro wS hSw; go_simp; try with_reducible rfl)); (try simp only [Act.put, List.setIfInBounds_toArray, List.set_cons_zero, List.set_cons_succ]))
              (refine tk 28 (some 48) ?_ ?_ ?_; rotate_left; (focus (intro wS hSw; go_simp; try with_reducible rfl)); (try simp only [Act.put, List.setIfInBounds_toArray, List.set_cons_zero, List.set_cons_succ]))
              (refine tk 29 (some 49) ?_ ?_ ?_; rotate_left; (focus (intro wS hSw; (have q5 := hSw.elim fun _ hl => hl.cell 5 rfl); (have ql := hSw.elim fun _ hl => hl.lt); go_simp; try with_reducible rfl)); (try simp only [Act.put, List.setIfInBounds_toArray, List.set_cons_zero, List.set_cons_succ]))
              (refine tk 30 (some 50) ?_ ?_ ?_; rotate_left; (focus (intro wS hSw; go_simp; try with_reducible rfl)); (try simp only [Act.put, List.setIfInBounds_toArray, List.set_cons_zero, List.set_cons_succ]))
              (refine tk 31 (some 51) ?_ ?_ ?_; rotate_left; (focus (intro wS hSw; go_simp; try with_reducible rfl)); (try simp only [Act.put, List.setIfInBounds_toArray, List.set_cons_zero, List.set_cons_succ]))
              (refine tk 32 (some 52) ?_ ?_ ?_; rotate_left; (focus (intro wS hSw; go_simp; try with_reducible rfl)); (try simp only [Act.put, List.setIfInBounds_toArray, List.set_cons_zero, List.set_cons_succ]))
              (refine tk 33 (some 53) ?_ ?_ ?_; rotate_left; (focus (intro wS hSw; go_simp; try with_reducible rfl)); (try simp only [Act.put, List.setIfInBounds_toArray, List.set_cons_zero, List.set_cons_succ]))
              (refine tk 34 (some 54) ?_ ?_ ?_; rotate_left; (focus (intro wS hSw; (have q1 := hSw.elim fun _ hl => hl.cell 1 rfl); (have ql := hSw.elim fun _ hl => hl.lt); go_simp; try with_reducible rfl)); (try simp only [Act.put, List.setIfInBounds_toArray, List.set_cons_zero, List.set_cons_succ]))
              (refine tk 35 (some 55) ?_ ?_ ?_; rotate_left; (focus (intro wS hSw; go_simp; try with_reducible rfl)); (try simp only [Act.put, List.setIfInBounds_toArray, List.set_cons_zero, List.set_cons_succ]))
              (refine tk 36 (some 56) ?_ ?_ ?_; rotate_left; (focus (intro wS hSw; go_simp; try with_reducible rfl)); (try simp only [Act.put, List.setIfInBounds_toArray, List.set_cons_zero, List.set_cons_succ]))
              (refine tk 37 (some 57) ?_ ?_ ?_; rotate_left; (focus (intro wS hSw; go_simp; try with_reducible rfl)); (try simp only [Act.put, List.setIfInBounds_toArray, List.set_cons_zero, List.set_cons_succ]))
              (refine tk 38 (some 58) ?_ ?_ ?_; rotate_left; (focus (intro wS hSw; go_simp; try with_reducible rfl)); (try simp only [Act.put, List.setIfInBounds_toArray, List.set_cons_zero, List.set_cons_succ]))
              (refine dk 39 (some 59) ?_; (try simp only [Act.put, List.setIfInBounds_toArray, List.set_cons_zero, List.set_cons_succ]))
              (refine dk 40 (some 60) ?_; (try simp only [Act.put, List.setIfInBounds_toArray, List.set_cons_zero, List.set_cons_succ]))
              (refine dk 41 (some 61) ?_; (try simp only [Act.put, List.setIfInBounds_toArray, List.set_cons_zero, List.set_cons_succ]))
              (refine dk 42 (some 62) ?_; (try simp only [Act.put, List.setIfInBounds_toArray, List.set_cons_zero, List.set_cons_succ]))
              (refine dk 43 (some 63) ?_; (try simp only [Act.put, List.setIfInBounds_toArray, List.set_cons_zero, List.set_cons_succ]))
              (refine dk 44 (some 64) ?_; (try simp only [Act.put, List.setIfInBounds_toArray, List.set_cons_zero, List.set_cons_succ]))
              (refine dk 45 (some 65) ?_; (try simp only [Act.put, List.setIfInBounds_toArray, List.set_cons_zero, List.set_cons_succ]))
              (refine dk 46 (some 66) ?_; (try simp only [Act.put, List.setIfInBounds_toArray, List.set_cons_zero, List.set_cons_succ]))
              (refine dk 47 (some 67) ?_; (try simp only [Act.put, List.setIfInBounds_toArray, List.set_cons_zero, List.set_cons_succ]))
              (refine dk 48 (some 68) ?_; (try simp only [Act.put, List.setIfInBounds_toArray, List.set_cons_zero, List.set_cons_succ]))
              (refine dk 49 (some 69) ?_; (try simp only [Act.put, List.setIfInBounds_toArray, List.set_cons_zero, List.set_cons_succ]))
              (refine dk 50 (some 70) ?_; (try simp only [Act.put, List.setIfInBounds_toArray, List.set_cons_zero, List.set_cons_succ]))
              (refine tk 51 (some 71) ?_ ?_ ?_; rotate_left; (focus (intro wS hSw; go_simp; try with_reducible rfl)); (try simp only [Act.put, List.setIfInBounds_toArray, List.set_cons_zero, List.set_cons_succ]))
              (refine tk 52 (some 72) ?_ ?_ ?_; rotate_left; (focus (intro wS hSw; go_simp; try with_reducible rfl)); (try simp only [Act.put, List.setIfInBounds_toArray, List.set_cons_zero, List.set_cons_succ]))
              (refine dk 53 (some 73) ?_; (try simp only [Act.put, List.setIfInBounds_toArray, List.set_cons_zero, List.set_cons_succ]))
              (refine dk 54 (some 74) ?_; (try simp only [Act.put, List.setIfInBounds_toArray, List.set_cons_zero, List.set_cons_succ]))
              (refine dk 55 (some 75) ?_; (try simp only [Act.put, List.setIfInBounds_toArray, List.set_cons_zero, List.set_cons_succ]))
              (refine dk 56 (some 76) ?_; (try simp only [Act.put, List.setIfInBounds_toArray, List.set_cons_zero, List.set_cons_succ]))
              (refine dk 57 (some 77) ?_; (try simp only [Act.put, List.setIfInBounds_toArray, List.set_cons_zero, List.set_cons_succ]))
              (refine dk 58 (some 78) ?_; (try simp only [Act.put, List.setIfInBounds_toArray, List.set_cons_zero, List.set_cons_succ]))
              (refine dk 59 (some 79) ?_; (try simp only [Act.put, List.setIfInBounds_toArray, List.set_cons_zero, List.set_cons_succ]))
              (refine dk 60 (some 80) ?_; (try simp only [Act.put, List.setIfInBounds_toArray, List.set_cons_zero, List.set_cons_succ]))
              (refine dk 61 (some 81) ?_; (try simp only [Act.put, List.setIfInBounds_toArray, List.set_cons_zero, List.set_cons_succ]))
              (refine dk 62 (some 82) ?_; (try simp only [Act.put, List.setIfInBounds_toArray, List.set_cons_zero, List.set_cons_succ]))
              (refine dk 63 (some 83) ?_; (try simp only [Act.put, List.setIfInBounds_toArray, List.set_cons_zero, List.set_cons_succ]))
              (refine dk 64 (some 84) ?_; (try simp only [Act.put, List.setIfInBounds_toArray, List.set_cons_zero, List.set_cons_succ]))
              (refine dk 65 (some 85) ?_; (try simp only [Act.put, List.setIfInBounds_toArray, List.set_cons_zero, List.set_cons_succ]))
              (refine dk 66 (some 86) ?_; (try simp only [Act.put, List.setIfInBounds_toArray, List.set_cons_zero, List.set_cons_succ]))
              (refine dk 67 (some 87) ?_; (try simp only [Act.put, List.setIfInBounds_toArray, List.set_cons_zero, List.set_cons_succ]))
              (refine dk 68 (some 88) ?_; (try simp only [Act.put, List.setIfInBounds_toArray, List.set_cons_zero, List.set_cons_succ]))
              (refine dk 69 (some 89) ?_; (try simp only [Act.put, List.setIfInBounds_toArray, List.set_cons_zero, List.set_cons_succ]))
              (refine dk 70 (some 90) ?_; (try simp only [Act.put, List.setIfInBounds_toArray, List.set_cons_zero, List.set_cons_succ]))
              (refine dk 71 (some 91) ?_; (try simp only [Act.put, List.setIfInBounds_toArray, List.set_cons_zero, List.set_cons_succ]))
              (refine dk 72 (some 92) ?_; (try simp only [Act.put, List.setIfInBounds_toArray, List.set_cons_zero, List.set_cons_succ]))
              (refine tk 73 (some 93) ?_ ?_ ?_; rotate_left; (focus (intro wS hSw; go_simp; try with_reducible rfl)); (try simp only [Act.put, List.setIfInBounds_toArray, List.set_cons_zero, List.set_cons_succ]))
              refine wpAnyH_ready (rs := [74]) (by kernel_rfl) (by simp) ?_
              refine AllReadyH.cons rfl (fun K hK => ?_) AllReadyH.nil
              go_simp
              go_at_call 38
              refine (show Calls _ _ _ _ _ from note_ok true w0 _ g _ _ _ _ _ _ _ _ _ 6 0 HL.out (by have := HFs.out; omega)).mono ?_
              rintro e z2 ⟨rfl, hL⟩
              clear hHeld
              have hHeld : ∃ fs', AuLk w0 _ g [.int .i64 v.now, .slice sa v.ns sc, .slice ca v.nc cc, .slice pa v.np pc, .slice qa v.nq qc, .int .i64 v.free, .int .i64 v.live, .int .i64 v.gone] fs' := ⟨_, hL⟩
              replace HL := Lib.hid hL
              clear hL
              refine k_now hK hHeld ?_
              clear hK K
              try simp only [Act.put, List.setIfInBounds_toArray, List.set_cons_zero, List.set_cons_succ]
              refine wpAnyH_done (by kernel_rfl) ?_ _
              go_wp2_with fail
              go_end0
              exact ⟨rfl, by rw [HTl.out, HF6.out]; simpa using HL.out⟩
          · skip
            have HF6 := Lib.hid (show v.f6 = true from by simp only [VD.f6, HU.out]; have e1 := beq_iff_eq.1 h1; have e2 := of_decide_eq_false h2; have e3 := of_decide_eq_true h3; simp; omega)
            have e1 := beq_iff_eq.1 h1
            have h1n : ((N : Int) != v.live) = false := by simp only [bne, h1]; rfl
            clear e1
            go_upto_region 7 with fail
            refine wp_region_held_drew (S := fun wx => ∃ fs', AuLk w0 wx g [.int .i64 v.now, .slice sa v.ns sc, .slice ca v.nc cc, .slice pa v.np pc, .slice qa v.nq qc, .int .i64 v.free, .int .i64 v.live, .int .i64 v.gone] fs') (by kernel_rfl) (⟨_, HL.out.step (Fp.refl _ _).drew⟩) (fun hHeld0 => ?_)
            refine any_eq hHeld0 (fun z1 hW hHeld => ?_)
            clear hHeld0
            replace HL := Lib.hid (HL.out.step (noW_drew hW))
            clear hW
            (refine tk 0 (some 20) ?_ ?_ ?_; rotate_left; (focus (intro wS hSw; go_simp; try with_reducible rfl)); (try simp only [Act.put, List.setIfInBounds_toArray, List.set_cons_zero, List.set_cons_succ]))
            (refine tk 1 (some 21) ?_ ?_ ?_; rotate_left; (focus (intro wS hSw; go_simp; try with_reducible rfl)); (try simp only [Act.put, List.setIfInBounds_toArray, List.set_cons_zero, List.set_cons_succ]))
            (refine tk 2 (some 22) ?_ ?_ ?_; rotate_left; (focus (intro wS hSw; go_simp; try with_reducible rfl)); (try simp only [Act.put, List.setIfInBounds_toArray, List.set_cons_zero, List.set_cons_succ]))
            (refine tk 3 (some 23) ?_ ?_ ?_; rotate_left; (focus (intro wS hSw; go_simp; try with_reducible rfl)); (try simp only [Act.put, List.setIfInBounds_toArray, List.set_cons_zero, List.set_cons_succ]))
            (refine tk 4 (some 24) ?_ ?_ ?_; rotate_left; (focus (intro wS hSw; go_simp; try with_reducible rfl)); (try simp only [Act.put, List.setIfInBounds_toArray, List.set_cons_zero, List.set_cons_succ]))
            (refine tk 5 (some 25) ?_ ?_ ?_; rotate_left; (focus (intro wS hSw; go_simp; try with_reducible rfl)); (try simp only [Act.put, List.setIfInBounds_toArray, List.set_cons_zero, List.set_cons_succ]))
            (refine tk 6 (some 26) ?_ ?_ ?_; rotate_left; (focus (intro wS hSw; (have q6 := hSw.elim fun _ hl => hl.cell 6 rfl); (have ql := hSw.elim fun _ hl => hl.lt); go_simp; try with_reducible rfl)); (try simp only [Act.put, List.setIfInBounds_toArray, List.set_cons_zero, List.set_cons_succ]))
            (refine tk 7 (some 27) ?_ ?_ ?_; rotate_left; (focus (intro wS hSw; go_simp; try with_reducible rfl)); (try simp only [Act.put, List.setIfInBounds_toArray, List.set_cons_zero, List.set_cons_succ]))
            (refine tk 8 (some 28) ?_ ?_ ?_; rotate_left; (focus (intro wS hSw; go_simp; try with_reducible rfl)); (try simp only [Act.put, List.setIfInBounds_toArray, List.set_cons_zero, List.set_cons_succ]))
            (refine tk 9 (some 29) ?_ ?_ ?_; rotate_left; (focus (intro wS hSw; go_simp; try with_reducible rfl)); (try simp only [Act.put, List.setIfInBounds_toArray, List.set_cons_zero, List.set_cons_succ]))
            (refine tk 10 (some 30) ?_ ?_ ?_; rotate_left; (focus (intro wS hSw; go_simp; try with_reducible rfl)); (try simp only [Act.put, List.setIfInBounds_toArray, List.set_cons_zero, List.set_cons_succ]))
            (refine tk 11 (some 31) ?_ ?_ ?_; rotate_left; (focus (intro wS hSw; go_simp; try with_reducible rfl)); (try simp only [Act.put, List.setIfInBounds_toArray, List.set_cons_zero, List.set_cons_succ]))
            (refine tk 12 (some 32) ?_ ?_ ?_; rotate_left; (focus (intro wS hSw; go_simp; try with_reducible rfl)); (try simp only [Act.put, List.setIfInBounds_toArray, List.set_cons_zero, List.set_cons_succ]))
            (refine tk 13 (some 33) ?_ ?_ ?_; rotate_left; (focus (intro wS hSw; (have q5 := hSw.elim fun _ hl => hl.cell 5 rfl); (have ql := hSw.elim fun _ hl => hl.lt); go_simp; try with_reducible rfl)); (try simp only [Act.put, List.setIfInBounds_toArray, List.set_cons_zero, List.set_cons_succ]))
            (refine tk 14 (some 34) ?_ ?_ ?_; rotate_left; (focus (intro wS hSw; go_simp; try with_reducible rfl)); (try simp only [Act.put, List.setIfInBounds_toArray, List.set_cons_zero, List.set_cons_succ]))
            (refine tk 15 (some 35) ?_ ?_ ?_; rotate_left; (focus (intro wS hSw; go_simp; try with_reducible rfl)); (try simp only [Act.put, List.setIfInBounds_toArray, List.set_cons_zero, List.set_cons_succ]))
            (refine tk 16 (some 36) ?_ ?_ ?_; rotate_left; (focus (intro wS hSw; go_simp; try with_reducible rfl)); (try simp only [Act.put, List.setIfInBounds_toArray, List.set_cons_zero, List.set_cons_succ]))
            (refine tk 17 (some 37) ?_ ?_ ?_; rotate_left; (focus (intro wS hSw; go_simp; try with_reducible rfl)); (try simp only [Act.put, List.setIfInBounds_toArray, List.set_cons_zero, List.set_cons_succ]))
            (refine tk 18 (some 38) ?_ ?_ ?_; rotate_left; (focus (intro wS hSw; go_simp; try with_reducible rfl)); (try simp only [Act.put, List.setIfInBounds_toArray, List.set_cons_zero, List.set_cons_succ]))
            (refine tk 19 (some 39) ?_ ?_ ?_; rotate_left; (focus (intro wS hSw; go_simp; try with_reducible rfl)); (try simp only [Act.put, List.setIfInBounds_toArray, List.set_cons_zero, List.set_cons_succ]))
            (refine tk 20 (some 40) ?_ ?_ ?_; rotate_left; (focus (intro wS hSw; go_simp; try with_reducible rfl)); (try simp only [Act.put, List.setIfInBounds_toArray, List.set_cons_zero, List.set_cons_succ]))
            (refine tk 21 (some 41) ?_ ?_ ?_; rotate_left; (focus (intro wS hSw; (have q7 := hSw.elim fun _ hl => hl.cell 7 rfl); (have ql := hSw.elim fun _ hl => hl.lt); go_simp; try with_reducible rfl)); (try simp only [Act.put, List.setIfInBounds_toArray, List.set_cons_zero, List.set_cons_succ]))
            (refine tk 22 (some 42) ?_ ?_ ?_; rotate_left; (focus (intro wS hSw; go_simp; try with_reducible rfl)); (try simp only [Act.put, List.setIfInBounds_toArray, List.set_cons_zero, List.set_cons_succ]))
            (refine tk 23 (some 43) ?_ ?_ ?_; rotate_left; (focus (intro wS hSw; go_simp; try with_reducible rfl)); (try simp only [Act.put, List.setIfInBounds_toArray, List.set_cons_zero, List.set_cons_succ]))
            (refine tk 24 (some 44) ?_ ?_ ?_; rotate_left; (focus (intro wS hSw; go_simp; try with_reducible rfl)); (try simp only [Act.put, List.setIfInBounds_toArray, List.set_cons_zero, List.set_cons_succ]))
            (refine dk 25 (some 45) ?_; (try simp only [Act.put, List.setIfInBounds_toArray, List.set_cons_zero, List.set_cons_succ]))
            (refine dk 26 (some 46) ?_; (try simp only [Act.put, List.setIfInBounds_toArray, List.set_cons_zero, List.set_cons_succ]))
            (refine dk 27 (some 47) ?_; (try simp only [Act.put, List.setIfInBounds_toArray, List.set_cons_zero, List.set_cons_succ]))
            (refine dk 28 (some 48) ?_; (try simp only [Act.put, List.setIfInBounds_toArray, List.set_cons_zero, List.set_cons_succ]))
            (refine dk 29 (some 49) ?_; (try simp only [Act.put, List.setIfInBounds_toArray, List.set_cons_zero, List.set_cons_succ]))
            (refine dk 30 (some 50) ?_; (try simp only [Act.put, List.setIfInBounds_toArray, List.set_cons_zero, List.set_cons_succ]))
            (refine dk 31 (some 51) ?_; (try simp only [Act.put, List.setIfInBounds_toArray, List.set_cons_zero, List.set_cons_succ]))
            (refine dk 32 (some 52) ?_; (try simp only [Act.put, List.setIfInBounds_toArray, List.set_cons_zero, List.set_cons_succ]))
            (refine dk 33 (some 53) ?_; (try simp only [Act.put, List.setIfInBounds_toArray, List.set_cons_zero, List.set_cons_succ]))
            (refine dk 34 (some 54) ?_; (try simp only [Act.put, List.setIfInBounds_toArray, List.set_cons_zero, List.set_cons_succ]))
            (refine dk 35 (some 55) ?_; (try simp only [Act.put, List.setIfInBounds_toArray, List.set_cons_zero, List.set_cons_succ]))
            (refine dk 36 (some 56) ?_; (try simp only [Act.put, List.setIfInBounds_toArray, List.set_cons_zero, List.set_cons_succ]))
            (refine tk 37 (some 57) ?_ ?_ ?_; rotate_left; (focus (intro wS hSw; go_simp; try with_reducible rfl)); (try simp only [Act.put, List.setIfInBounds_toArray, List.set_cons_zero, List.set_cons_succ]))
            (refine tk 38 (some 58) ?_ ?_ ?_; rotate_left; (focus (intro wS hSw; go_simp; try with_reducible rfl)); (try simp only [Act.put, List.setIfInBounds_toArray, List.set_cons_zero, List.set_cons_succ]))
            (refine dk 39 (some 59) ?_; (try simp only [Act.put, List.setIfInBounds_toArray, List.set_cons_zero, List.set_cons_succ]))
            (refine dk 40 (some 60) ?_; (try simp only [Act.put, List.setIfInBounds_toArray, List.set_cons_zero, List.set_cons_succ]))
            (refine dk 41 (some 61) ?_; (try simp only [Act.put, List.setIfInBounds_toArray, List.set_cons_zero, List.set_cons_succ]))
            (refine dk 42 (some 62) ?_; (try simp only [Act.put, List.setIfInBounds_toArray, List.set_cons_zero, List.set_cons_succ]))
            (refine dk 43 (some 63) ?_; (try simp only [Act.put, List.setIfInBounds_toArray, List.set_cons_zero, List.set_cons_succ]))
            (refine dk 44 (some 64) ?_; (try simp only [Act.put, List.setIfInBounds_toArray, List.set_cons_zero, List.set_cons_succ]))
            (refine dk 45 (some 65) ?_; (try simp only [Act.put, List.setIfInBounds_toArray, List.set_cons_zero, List.set_cons_succ]))
            (refine dk 46 (some 66) ?_; (try simp only [Act.put, List.setIfInBounds_toArray, List.set_cons_zero, List.set_cons_succ]))
            (refine dk 47 (some 67) ?_; (try simp only [Act.put, List.setIfInBounds_toArray, List.set_cons_zero, List.set_cons_succ]))
            (refine dk 48 (some 68) ?_; (try simp only [Act.put, List.setIfInBounds_toArray, List.set_cons_zero, List.set_cons_succ]))
            (refine dk 49 (some 69) ?_; (try simp only [Act.put, List.setIfInBounds_toArray, List.set_cons_zero, List.set_cons_succ]))
            (refine dk 50 (some 70) ?_; (try simp only [Act.put, List.setIfInBounds_toArray, List.set_cons_zero, List.set_cons_succ]))
            (refine tk 51 (some 71) ?_ ?_ ?_; rotate_left; (focus (intro wS hSw; go_simp; try with_reducible rfl)); (try simp only [Act.put, List.setIfInBounds_toArray, List.set_cons_zero, List.set_cons_succ]))
            (refine tk 52 (some 72) ?_ ?_ ?_; rotate_left; (focus (intro wS hSw; go_simp; try with_reducible rfl)); (try simp only [Act.put, List.setIfInBounds_toArray, List.set_cons_zero, List.set_cons_succ]))
            (refine dk 53 (some 73) ?_; (try simp only [Act.put, List.setIfInBounds_toArray, List.set_cons_zero, List.set_cons_succ]))
            (refine dk 54 (some 74) ?_; (try simp only [Act.put, List.setIfInBounds_toArray, List.set_cons_zero, List.set_cons_succ]))
            (refine dk 55 (some 75) ?_; (try simp only [Act.put, List.setIfInBounds_toArray, List.set_cons_zero, List.set_cons_succ]))
            (refine dk 56 (some 76) ?_; (try simp only [Act.put, List.setIfInBounds_toArray, List.set_cons_zero, List.set_cons_succ]))
            (refine dk 57 (some 77) ?_; (try simp only [Act.put, List.setIfInBounds_toArray, List.set_cons_zero, List.set_cons_succ]))
            (refine dk 58 (some 78) ?_; (try simp only [Act.put, List.setIfInBounds_toArray, List.set_cons_zero, List.set_cons_succ]))
            (refine dk 59 (some 79) ?_; (try simp only [Act.put, List.setIfInBounds_toArray, List.set_cons_zero, List.set_cons_succ]))
            (refine dk 60 (some 80) ?_; (try simp only [Act.put, List.setIfInBounds_toArray, List.set_cons_zero, List.set_cons_succ]))
            (refine dk 61 (some 81) ?_; (try simp only [Act.put, List.setIfInBounds_toArray, List.set_cons_zero, List.set_cons_succ]))
            (refine dk 62 (some 82) ?_; (try simp only [Act.put, List.setIfInBounds_toArray, List.set_cons_zero, List.set_cons_succ]))
            (refine dk 63 (some 83) ?_; (try simp only [Act.put, List.setIfInBounds_toArray, List.set_cons_zero, List.set_cons_succ]))
            (refine dk 64 (some 84) ?_; (try simp only [Act.put, List.setIfInBounds_toArray, List.set_cons_zero, List.set_cons_succ]))
            (refine dk 65 (some 85) ?_; (try simp only [Act.put, List.setIfInBounds_toArray, List.set_cons_zero, List.set_cons_succ]))
            (refine dk 66 (some 86) ?_; (try simp only [Act.put, List.setIfInBounds_toArray, List.set_cons_zero, List.set_cons_succ]))
            (refine dk 67 (some 87) ?_; (try simp only [Act.put, List.setIfInBounds_toArray, List.set_cons_zero, List.set_cons_succ]))
            (refine dk 68 (some 88) ?_; (try simp only [Act.put, List.setIfInBounds_toArray, List.set_cons_zero, List.set_cons_succ]))
            (refine dk 69 (some 89) ?_; (try simp only [Act.put, List.setIfInBounds_toArray, List.set_cons_zero, List.set_cons_succ]))
            (refine dk 70 (some 90) ?_; (try simp only [Act.put, List.setIfInBounds_toArray, List.set_cons_zero, List.set_cons_succ]))
            (refine dk 71 (some 91) ?_; (try simp only [Act.put, List.setIfInBounds_toArray, List.set_cons_zero, List.set_cons_succ]))
            (refine dk 72 (some 92) ?_; (try simp only [Act.put, List.setIfInBounds_toArray, List.set_cons_zero, List.set_cons_succ]))
            (refine tk 73 (some 93) ?_ ?_ ?_; rotate_left; (focus (intro wS hSw; go_simp; try with_reducible rfl)); (try simp only [Act.put, List.setIfInBounds_toArray, List.set_cons_zero, List.set_cons_succ]))
            refine wpAnyH_ready (rs := [74]) (by kernel_rfl) (by simp) ?_
            refine AllReadyH.cons rfl (fun K hK => ?_) AllReadyH.nil
            go_simp
            go_at_call 38
            refine (show Calls _ _ _ _ _ from note_ok true w0 _ g _ _ _ _ _ _ _ _ _ 6 0 HL.out (by have := HFs.out; omega)).mono ?_
            rintro e z2 ⟨rfl, hL⟩
            clear hHeld
            have hHeld : ∃ fs', AuLk w0 _ g [.int .i64 v.now, .slice sa v.ns sc, .slice ca v.nc cc, .slice pa v.np pc, .slice qa v.nq qc, .int .i64 v.free, .int .i64 v.live, .int .i64 v.gone] fs' := ⟨_, hL⟩
            replace HL := Lib.hid hL
            clear hL
            refine k_now hK hHeld ?_
            clear hK K
            try simp only [Act.put, List.setIfInBounds_toArray, List.set_cons_zero, List.set_cons_succ]
            refine wpAnyH_done (by kernel_rfl) ?_ _
            go_wp2_with fail
            go_end0
            exact ⟨rfl, by rw [HTl.out, HF6.out]; simpa using HL.out⟩
        · skip
          have HF6 := Lib.hid (show v.f6 = true from by simp only [VD.f6, HU.out]; have e1 := beq_iff_eq.1 h1;  have e2 := of_decide_eq_true h2; simp; omega)
          have e1 := beq_iff_eq.1 h1
          have h1n : ((N : Int) != v.live) = false := by simp only [bne, h1]; rfl
          clear e1
          go_upto_region 7 with fail
          refine wp_region_held_drew (S := fun wx => ∃ fs', AuLk w0 wx g [.int .i64 v.now, .slice sa v.ns sc, .slice ca v.nc cc, .slice pa v.np pc, .slice qa v.nq qc, .int .i64 v.free, .int .i64 v.live, .int .i64 v.gone] fs') (by kernel_rfl) (⟨_, HL.out.step (Fp.refl _ _).drew⟩) (fun hHeld0 => ?_)
          refine any_eq hHeld0 (fun z1 hW hHeld => ?_)
          clear hHeld0
          replace HL := Lib.hid (HL.out.step (noW_drew hW))
          clear hW
          (refine tk 0 (some 20) ?_ ?_ ?_; rotate_left; (focus (intro wS hSw; go_simp; try with_reducible rfl)); (try simp only [Act.put, List.setIfInBounds_toArray, List.set_cons_zero, List.set_cons_succ]))
          (refine tk 1 (some 21) ?_ ?_ ?_; rotate_left; (focus (intro wS hSw; go_simp; try with_reducible rfl)); (try simp only [Act.put, List.setIfInBounds_toArray, List.set_cons_zero, List.set_cons_succ]))
          (refine tk 2 (some 22) ?_ ?_ ?_; rotate_left; (focus (intro wS hSw; go_simp; try with_reducible rfl)); (try simp only [Act.put, List.setIfInBounds_toArray, List.set_cons_zero, List.set_cons_succ]))
          (refine tk 3 (some 23) ?_ ?_ ?_; rotate_left; (focus (intro wS hSw; go_simp; try with_reducible rfl)); (try simp only [Act.put, List.setIfInBounds_toArray, List.set_cons_zero, List.set_cons_succ]))
          (refine tk 4 (some 24) ?_ ?_ ?_; rotate_left; (focus (intro wS hSw; go_simp; try with_reducible rfl)); (try simp only [Act.put, List.setIfInBounds_toArray, List.set_cons_zero, List.set_cons_succ]))
          (refine tk 5 (some 25) ?_ ?_ ?_; rotate_left; (focus (intro wS hSw; go_simp; try with_reducible rfl)); (try simp only [Act.put, List.setIfInBounds_toArray, List.set_cons_zero, List.set_cons_succ]))
          (refine tk 6 (some 26) ?_ ?_ ?_; rotate_left; (focus (intro wS hSw; (have q6 := hSw.elim fun _ hl => hl.cell 6 rfl); (have ql := hSw.elim fun _ hl => hl.lt); go_simp; try with_reducible rfl)); (try simp only [Act.put, List.setIfInBounds_toArray, List.set_cons_zero, List.set_cons_succ]))
          (refine tk 7 (some 27) ?_ ?_ ?_; rotate_left; (focus (intro wS hSw; go_simp; try with_reducible rfl)); (try simp only [Act.put, List.setIfInBounds_toArray, List.set_cons_zero, List.set_cons_succ]))
          (refine tk 8 (some 28) ?_ ?_ ?_; rotate_left; (focus (intro wS hSw; go_simp; try with_reducible rfl)); (try simp only [Act.put, List.setIfInBounds_toArray, List.set_cons_zero, List.set_cons_succ]))
          (refine tk 9 (some 29) ?_ ?_ ?_; rotate_left; (focus (intro wS hSw; go_simp; try with_reducible rfl)); (try simp only [Act.put, List.setIfInBounds_toArray, List.set_cons_zero, List.set_cons_succ]))
          (refine tk 10 (some 30) ?_ ?_ ?_; rotate_left; (focus (intro wS hSw; go_simp; try with_reducible rfl)); (try simp only [Act.put, List.setIfInBounds_toArray, List.set_cons_zero, List.set_cons_succ]))
          (refine tk 11 (some 31) ?_ ?_ ?_; rotate_left; (focus (intro wS hSw; go_simp; try with_reducible rfl)); (try simp only [Act.put, List.setIfInBounds_toArray, List.set_cons_zero, List.set_cons_succ]))
          (refine tk 12 (some 32) ?_ ?_ ?_; rotate_left; (focus (intro wS hSw; go_simp; try with_reducible rfl)); (try simp only [Act.put, List.setIfInBounds_toArray, List.set_cons_zero, List.set_cons_succ]))
          (refine tk 13 (some 33) ?_ ?_ ?_; rotate_left; (focus (intro wS hSw; (have q5 := hSw.elim fun _ hl => hl.cell 5 rfl); (have ql := hSw.elim fun _ hl => hl.lt); go_simp; try with_reducible rfl)); (try simp only [Act.put, List.setIfInBounds_toArray, List.set_cons_zero, List.set_cons_succ]))
          (refine tk 14 (some 34) ?_ ?_ ?_; rotate_left; (focus (intro wS hSw; go_simp; try with_reducible rfl)); (try simp only [Act.put, List.setIfInBounds_toArray, List.set_cons_zero, List.set_cons_succ]))
          (refine tk 15 (some 35) ?_ ?_ ?_; rotate_left; (focus (intro wS hSw; go_simp; try with_reducible rfl)); (try simp only [Act.put, List.setIfInBounds_toArray, List.set_cons_zero, List.set_cons_succ]))
          (refine tk 16 (some 36) ?_ ?_ ?_; rotate_left; (focus (intro wS hSw; go_simp; try with_reducible rfl)); (try simp only [Act.put, List.setIfInBounds_toArray, List.set_cons_zero, List.set_cons_succ]))
          (refine dk 17 (some 37) ?_; (try simp only [Act.put, List.setIfInBounds_toArray, List.set_cons_zero, List.set_cons_succ]))
          (refine dk 18 (some 38) ?_; (try simp only [Act.put, List.setIfInBounds_toArray, List.set_cons_zero, List.set_cons_succ]))
          (refine dk 19 (some 39) ?_; (try simp only [Act.put, List.setIfInBounds_toArray, List.set_cons_zero, List.set_cons_succ]))
          (refine dk 20 (some 40) ?_; (try simp only [Act.put, List.setIfInBounds_toArray, List.set_cons_zero, List.set_cons_succ]))
          (refine dk 21 (some 41) ?_; (try simp only [Act.put, List.setIfInBounds_toArray, List.set_cons_zero, List.set_cons_succ]))
          (refine dk 22 (some 42) ?_; (try simp only [Act.put, List.setIfInBounds_toArray, List.set_cons_zero, List.set_cons_succ]))
          (refine tk 23 (some 43) ?_ ?_ ?_; rotate_left; (focus (intro wS hSw; go_simp; try with_reducible rfl)); (try simp only [Act.put, List.setIfInBounds_toArray, List.set_cons_zero, List.set_cons_succ]))
          (refine tk 24 (some 44) ?_ ?_ ?_; rotate_left; (focus (intro wS hSw; go_simp; try with_reducible rfl)); (try simp only [Act.put, List.setIfInBounds_toArray, List.set_cons_zero, List.set_cons_succ]))
          (refine dk 25 (some 45) ?_; (try simp only [Act.put, List.setIfInBounds_toArray, List.set_cons_zero, List.set_cons_succ]))
          (refine dk 26 (some 46) ?_; (try simp only [Act.put, List.setIfInBounds_toArray, List.set_cons_zero, List.set_cons_succ]))
          (refine dk 27 (some 47) ?_; (try simp only [Act.put, List.setIfInBounds_toArray, List.set_cons_zero, List.set_cons_succ]))
          (refine dk 28 (some 48) ?_; (try simp only [Act.put, List.setIfInBounds_toArray, List.set_cons_zero, List.set_cons_succ]))
          (refine dk 29 (some 49) ?_; (try simp only [Act.put, List.setIfInBounds_toArray, List.set_cons_zero, List.set_cons_succ]))
          (refine dk 30 (some 50) ?_; (try simp only [Act.put, List.setIfInBounds_toArray, List.set_cons_zero, List.set_cons_succ]))
          (refine dk 31 (some 51) ?_; (try simp only [Act.put, List.setIfInBounds_toArray, List.set_cons_zero, List.set_cons_succ]))
          (refine dk 32 (some 52) ?_; (try simp only [Act.put, List.setIfInBounds_toArray, List.set_cons_zero, List.set_cons_succ]))
          (refine dk 33 (some 53) ?_; (try simp only [Act.put, List.setIfInBounds_toArray, List.set_cons_zero, List.set_cons_succ]))
          (refine dk 34 (some 54) ?_; (try simp only [Act.put, List.setIfInBounds_toArray, List.set_cons_zero, List.set_cons_succ]))
          (refine dk 35 (some 55) ?_; (try simp only [Act.put, List.setIfInBounds_toArray, List.set_cons_zero, List.set_cons_succ]))
          (refine dk 36 (some 56) ?_; (try simp only [Act.put, List.setIfInBounds_toArray, List.set_cons_zero, List.set_cons_succ]))
          (refine tk 37 (some 57) ?_ ?_ ?_; rotate_left; (focus (intro wS hSw; go_simp; try with_reducible rfl)); (try simp only [Act.put, List.setIfInBounds_toArray, List.set_cons_zero, List.set_cons_succ]))
          (refine tk 38 (some 58) ?_ ?_ ?_; rotate_left; (focus (intro wS hSw; go_simp; try with_reducible rfl)); (try simp only [Act.put, List.setIfInBounds_toArray, List.set_cons_zero, List.set_cons_succ]))
          (refine dk 39 (some 59) ?_; (try simp only [Act.put, List.setIfInBounds_toArray, List.set_cons_zero, List.set_cons_succ]))
          (refine dk 40 (some 60) ?_; (try simp only [Act.put, List.setIfInBounds_toArray, List.set_cons_zero, List.set_cons_succ]))
          (refine dk 41 (some 61) ?_; (try simp only [Act.put, List.setIfInBounds_toArray, List.set_cons_zero, List.set_cons_succ]))
          (refine dk 42 (some 62) ?_; (try simp only [Act.put, List.setIfInBounds_toArray, List.set_cons_zero, List.set_cons_succ]))
          (refine dk 43 (some 63) ?_; (try simp only [Act.put, List.setIfInBounds_toArray, List.set_cons_zero, List.set_cons_succ]))
          (refine dk 44 (some 64) ?_; (try simp only [Act.put, List.setIfInBounds_toArray, List.set_cons_zero, List.set_cons_succ]))
          (refine dk 45 (some 65) ?_; (try simp only [Act.put, List.setIfInBounds_toArray, List.set_cons_zero, List.set_cons_succ]))
          (refine dk 46 (some 66) ?_; (try simp only [Act.put, List.setIfInBounds_toArray, List.set_cons_zero, List.set_cons_succ]))
          (refine dk 47 (some 67) ?_; (try simp only [Act.put, List.setIfInBounds_toArray, List.set_cons_zero, List.set_cons_succ]))
          (refine dk 48 (some 68) ?_; (try simp only [Act.put, List.setIfInBounds_toArray, List.set_cons_zero, List.set_cons_succ]))
          (refine dk 49 (some 69) ?_; (try simp only [Act.put, List.setIfInBounds_toArray, List.set_cons_zero, List.set_cons_succ]))
          (refine dk 50 (some 70) ?_; (try simp only [Act.put, List.setIfInBounds_toArray, List.set_cons_zero, List.set_cons_succ]))
          (refine tk 51 (some 71) ?_ ?_ ?_; rotate_left; (focus (intro wS hSw; go_simp; try with_reducible rfl)); (try simp only [Act.put, List.setIfInBounds_toArray, List.set_cons_zero, List.set_cons_succ]))
          (refine tk 52 (some 72) ?_ ?_ ?_; rotate_left; (focus (intro wS hSw; go_simp; try with_reducible rfl)); (try simp only [Act.put, List.setIfInBounds_toArray, List.set_cons_zero, List.set_cons_succ]))
          (refine dk 53 (some 73) ?_; (try simp only [Act.put, List.setIfInBounds_toArray, List.set_cons_zero, List.set_cons_succ]))
          (refine dk 54 (some 74) ?_; (try simp only [Act.put, List.setIfInBounds_toArray, List.set_cons_zero, List.set_cons_succ]))
          (refine dk 55 (some 75) ?_; (try simp only [Act.put, List.setIfInBounds_toArray, List.set_cons_zero, List.set_cons_succ]))
          (refine dk 56 (some 76) ?_; (try simp only [Act.put, List.setIfInBounds_toArray, List.set_cons_zero, List.set_cons_succ]))
          (refine dk 57 (some 77) ?_; (try simp only [Act.put, List.setIfInBounds_toArray, List.set_cons_zero, List.set_cons_succ]))
          (refine dk 58 (some 78) ?_; (try simp only [Act.put, List.setIfInBounds_toArray, List.set_cons_zero, List.set_cons_succ]))
          (refine dk 59 (some 79) ?_; (try simp only [Act.put, List.setIfInBounds_toArray, List.set_cons_zero, List.set_cons_succ]))
          (refine dk 60 (some 80) ?_; (try simp only [Act.put, List.setIfInBounds_toArray, List.set_cons_zero, List.set_cons_succ]))
          (refine dk 61 (some 81) ?_; (try simp only [Act.put, List.setIfInBounds_toArray, List.set_cons_zero, List.set_cons_succ]))
          (refine dk 62 (some 82) ?_; (try simp only [Act.put, List.setIfInBounds_toArray, List.set_cons_zero, List.set_cons_succ]))
          (refine dk 63 (some 83) ?_; (try simp only [Act.put, List.setIfInBounds_toArray, List.set_cons_zero, List.set_cons_succ]))
          (refine dk 64 (some 84) ?_; (try simp only [Act.put, List.setIfInBounds_toArray, List.set_cons_zero, List.set_cons_succ]))
          (refine dk 65 (some 85) ?_; (try simp only [Act.put, List.setIfInBounds_toArray, List.set_cons_zero, List.set_cons_succ]))
          (refine dk 66 (some 86) ?_; (try simp only [Act.put, List.setIfInBounds_toArray, List.set_cons_zero, List.set_cons_succ]))
          (refine dk 67 (some 87) ?_; (try simp only [Act.put, List.setIfInBounds_toArray, List.set_cons_zero, List.set_cons_succ]))
          (refine dk 68 (some 88) ?_; (try simp only [Act.put, List.setIfInBounds_toArray, List.set_cons_zero, List.set_cons_succ]))
          (refine dk 69 (some 89) ?_; (try simp only [Act.put, List.setIfInBounds_toArray, List.set_cons_zero, List.set_cons_succ]))
          (refine dk 70 (some 90) ?_; (try simp only [Act.put, List.setIfInBounds_toArray, List.set_cons_zero, List.set_cons_succ]))
          (refine dk 71 (some 91) ?_; (try simp only [Act.put, List.setIfInBounds_toArray, List.set_cons_zero, List.set_cons_succ]))
          (refine dk 72 (some 92) ?_; (try simp only [Act.put, List.setIfInBounds_toArray, List.set_cons_zero, List.set_cons_succ]))
          (refine tk 73 (some 93) ?_ ?_ ?_; rotate_left; (focus (intro wS hSw; go_simp; try with_reducible rfl)); (try simp only [Act.put, List.setIfInBounds_toArray, List.set_cons_zero, List.set_cons_succ]))
          refine wpAnyH_ready (rs := [74]) (by kernel_rfl) (by simp) ?_
          refine AllReadyH.cons rfl (fun K hK => ?_) AllReadyH.nil
          go_simp
          go_at_call 38
          refine (show Calls _ _ _ _ _ from note_ok true w0 _ g _ _ _ _ _ _ _ _ _ 6 0 HL.out (by have := HFs.out; omega)).mono ?_
          rintro e z2 ⟨rfl, hL⟩
          clear hHeld
          have hHeld : ∃ fs', AuLk w0 _ g [.int .i64 v.now, .slice sa v.ns sc, .slice ca v.nc cc, .slice pa v.np pc, .slice qa v.nq qc, .int .i64 v.free, .int .i64 v.live, .int .i64 v.gone] fs' := ⟨_, hL⟩
          replace HL := Lib.hid hL
          clear hL
          refine k_now hK hHeld ?_
          clear hK K
          try simp only [Act.put, List.setIfInBounds_toArray, List.set_cons_zero, List.set_cons_succ]
          refine wpAnyH_done (by kernel_rfl) ?_ _
          go_wp2_with fail
          go_end0
          exact ⟨rfl, by rw [HTl.out, HF6.out]; simpa using HL.out⟩
end Go.Proofs.YtcimbbllefkdlaaGreatDoor
