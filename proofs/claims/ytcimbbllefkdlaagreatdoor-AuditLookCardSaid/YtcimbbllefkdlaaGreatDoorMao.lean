/- Texts of this proof, merged: AuI. -/
import Derived.Test.YtcimbbllefkdlaaGreatDoorMal
import Derived.Test.YtcimbbllefkdlaaGreatDoorMah
import Derived.Test.YtcimbbllefkdlaaGreatDoorMaa
import Derived.Test.YtcimbbllefkdlaaGreatDoorMab
import Derived.Test.YtcimbbllefkdlaaGreatDoorMac
import Derived.Test.YtcimbbllefkdlaaGreatDoorMad
import Derived.Test.YtcimbbllefkdlaaGreatDoorMae
import Derived.Test.YtcimbbllefkdlaaGreatDoorMaf
import Derived.Test.YtcimbbllefkdlaaGreatDoorMag
import Derived.Test.YtcimbbllefkdlaaGreatDoorMai
import Derived.Test.YtcimbbllefkdlaaGreatDoorMaj
import Derived.Test.YtcimbbllefkdlaaGreatDoorMak
import Derived.Test.YtcimbbllefkdlaaGreatDoorMam
import Derived.Test.YtcimbbllefkdlaaGreatDoorMan
namespace Go.Proofs.YtcimbbllefkdlaaGreatDoor
set_option linter.unusedVariables false
set_option linter.unusedSimpArgs false
open Go.RowKit Go.Lib Go.Sort
set_option maxHeartbeats 8000000 in
set_option maxRecDepth 100000 in
theorem tuples_ok (v : VD) (sa ca pa qa : Option Addr) (sc cc pc qc : Nat) (g : Nat) (fs : List (Int × Int)) (hfs : fs.length ≤ 10000) (hn : v.ns ≤ 100) (w0 w : World) (hS : AtC w0 sa v.ns 16 (fun i => (v.S i).cs)) (h : AuLk w0 w g [.int .i64 v.now, .slice sa v.ns sc, .slice ca v.nc cc, .slice pa v.np pc, .slice qa v.nq qc, .int .i64 v.free, .int .i64 v.live, .int .i64 v.gone] fs) :
    Calls Tryz.prog 15 #[.pointer (some ⟨g, 0, none⟩)] w fun e w' => e = .returned (.tuple #[]) ∧ AuLk w0 w' g [.int .i64 v.now, .slice sa v.ns sc, .slice ca v.nc cc, .slice pa v.np pc, .slice qa v.nq qc, .int .i64 v.free, .int .i64 v.live, .int .i64 v.gone] (fs ++ flt 3 0 v.f3 v.ns) := by
  have HL := Lib.hid h
  have HS := Lib.hid hS
  have HFs := Lib.hid hfs
  clear h hS hfs
  go_enter Tryz.func15, Tryz.ntmps15
  have cg1 := HL.out.cell 1 rfl
  have lg := HL.out.lt
  go_wp2_with fail
  clear cg1 lg
  go_loopg [17] (v.ns + 1) (fun gg iv wx => ∃ (i : Nat), i ≤ v.ns ∧ gg = v.ns + 1 - i ∧ iv = .int .i64 (i : Int) ∧ AuLk w0 wx g [.int .i64 v.now, .slice sa v.ns sc, .slice ca v.nc cc, .slice pa v.np pc, .slice qa v.nq qc, .int .i64 v.free, .int .i64 v.live, .int .i64 v.gone] (fs ++ flt 3 0 v.f3 i))
  case atStart => exact ⟨0, by omega, by omega, rfl, by simpa [flt] using HL.out⟩
  case round =>
    clear HL
    obtain ⟨i, hi, hg, rfl, hL⟩ := hrel
    have Hg := Lib.hid hg
    have HL := Lib.hid hL
    clear hg hL
    by_cases hlt1 : i < v.ns
    · skip
      obtain ⟨b1, o1, hs, lb1, xc⟩ := (HS.out.low HL.out.low) i hlt1
      have x0 : wr.cell? ⟨b1, o1 + i * 16, none⟩ = some (.bool (v.S i).used) := xc 0 _ rfl
      have x1 : wr.cell? ⟨b1, o1 + i * 16 + 1, none⟩ = some (.bool (v.S i).put) := xc 1 _ rfl
      have x2 : wr.cell? ⟨b1, o1 + i * 16 + 2, none⟩ = some (.bool (v.S i).dead) := xc 2 _ rfl
      have x3 : wr.cell? ⟨b1, o1 + i * 16 + 3, none⟩ = some (.int .u8 (v.S i).e.r) := xc 3 _ rfl
      have x4 : wr.cell? ⟨b1, o1 + i * 16 + 4, none⟩ = some (.int .u32 (v.S i).e.a) := xc 4 _ rfl
      have x5 : wr.cell? ⟨b1, o1 + i * 16 + 5, none⟩ = some (.int .u16 (v.S i).e.p) := xc 5 _ rfl
      have x6 : wr.cell? ⟨b1, o1 + i * 16 + 6, none⟩ = some (.int .u32 (v.S i).e.b) := xc 6 _ rfl
      have x7 : wr.cell? ⟨b1, o1 + i * 16 + 7, none⟩ = some (.int .u16 (v.S i).e.q) := xc 7 _ rfl
      have x8 : wr.cell? ⟨b1, o1 + i * 16 + 8, none⟩ = some (.int .u8 (v.S i).e.r2) := xc 8 _ rfl
      have x9 : wr.cell? ⟨b1, o1 + i * 16 + 9, none⟩ = some (.int .u32 (v.S i).e.a2) := xc 9 _ rfl
      have x10 : wr.cell? ⟨b1, o1 + i * 16 + 10, none⟩ = some (.int .u16 (v.S i).e.p2) := xc 10 _ rfl
      have x11 : wr.cell? ⟨b1, o1 + i * 16 + 11, none⟩ = some (.int .u32 (v.S i).e.b2) := xc 11 _ rfl
      have x12 : wr.cell? ⟨b1, o1 + i * 16 + 12, none⟩ = some (.int .u16 (v.S i).e.q2) := xc 12 _ rfl
      have x13 : wr.cell? ⟨b1, o1 + i * 16 + 13, none⟩ = some (.int .i64 (v.S i).e.st) := xc 13 _ rfl
      have x14 : wr.cell? ⟨b1, o1 + i * 16 + 14, none⟩ = some (.int .i64 (v.S i).e.dl) := xc 14 _ rfl
      have x15 : wr.cell? ⟨b1, o1 + i * 16 + 15, none⟩ = some (.slice (v.S i).e.ad (v.S i).e.n (v.S i).e.c) := xc 15 _ rfl
      clear xc
      have pk1 : decide ((i : Int) < (v.ns : Int)) = true := decide_eq_true (by omega)
      have ck1 : (i : Int) < (v.ns : Int) := by omega
      subst hs
      go_upto_region 3 with fail
      clear lb1 x0 x1 x2 x3 x4 x5 x6 x7 x8 x9 x10 x11 x12 x13 x14 x15
      refine wp_gen (fun xw hW => ?_)
      have hp := new_now hW
      have hB := new_blk hW
      clear hW
      replace HL := Lib.hid (HL.out.step hp)
      obtain ⟨gx, hgx⟩ : ∃ gx, gx = wr.heap.size := ⟨_, rfl⟩
      rw [← hgx] at hB ⊢
      have B_x := hB
      clear hB hp hgx
      have e0 := fun W => tup_eq2 (v.S i).e.r (v.S i).e.a (v.S i).e.p (v.S i).e.b (v.S i).e.q (v.S i).e.r2 (v.S i).e.a2 (v.S i).e.p2 (v.S i).e.b2 (v.S i).e.q2 W
      obtain ⟨sm, hsm⟩ : ∃ s, s = decide ((v.S i).e.r = (v.S i).e.r2 ∧ (v.S i).e.a = (v.S i).e.a2 ∧ (v.S i).e.p = (v.S i).e.p2 ∧ (v.S i).e.b = (v.S i).e.b2 ∧ (v.S i).e.q = (v.S i).e.q2) := ⟨_, rfl⟩
      rw [← hsm] at e0
      have HSm := Lib.hid (show VD.same (v.S i).e = sm from hsm.symm)
      clear hsm
      have y3 := cell_at B_x 3 rfl
      have y4 := cell_at B_x 4 rfl
      have y5 := cell_at B_x 5 rfl
      have y6 := cell_at B_x 6 rfl
      have y7 := cell_at B_x 7 rfl
      have y8 := cell_at B_x 8 rfl
      have y9 := cell_at B_x 9 rfl
      have y10 := cell_at B_x 10 rfl
      have y11 := cell_at B_x 11 rfl
      have y12 := cell_at B_x 12 rfl
      have cg1 := HL.out.cell 1 rfl
      have lg := HL.out.lt
      go_wp2_with fail
      clear cg1 lg e0 y3 y4 y5 y6 y7 y8 y9 y10 y11 y12
      go_loopg [35, 4] (v.ns + 1) (fun gg2 kv bv wx => ∃ (k : Nat) (b : Bool), k ≤ v.ns ∧ gg2 = v.ns + 1 - k ∧ kv = .int .i64 (k : Int) ∧ bv = .bool b ∧ b = (VD.same (v.S i).e || anyR k (fun k => !decide (k = i) && (v.liveS k && VD.meets (v.S i).e (v.S k).e))) ∧ NoW xw wx)
      case atStart => exact ⟨0, sm, by omega, by omega, rfl, rfl, by rw [HSm.out]; simp [anyR], Fp.refl _ _⟩
      case round =>
        obtain ⟨k, bad, hk, hg2, rfl, rfl, hA, hN⟩ := hrel
        have Hg2 := Lib.hid hg2
        have HN := Lib.hid hN
        have HA := Lib.hid hA
        have HLr := Lib.hid (HL.out.step hN)
        replace B_x := hid_blk B_x hN
        clear hg2 hN hA
        by_cases hlt2 : k < v.ns
        · skip
          obtain ⟨b2, o2, hs, lb2, xc⟩ := (HS.out.low HLr.out.low) k hlt2
          injection hs with hs
          injection hs with hs1 hs2 _
          subst hs1 hs2
          have x0 : wr.cell? ⟨b1, o1 + k * 16, none⟩ = some (.bool (v.S k).used) := xc 0 _ rfl
          have x1 : wr.cell? ⟨b1, o1 + k * 16 + 1, none⟩ = some (.bool (v.S k).put) := xc 1 _ rfl
          have x2 : wr.cell? ⟨b1, o1 + k * 16 + 2, none⟩ = some (.bool (v.S k).dead) := xc 2 _ rfl
          have x3 : wr.cell? ⟨b1, o1 + k * 16 + 3, none⟩ = some (.int .u8 (v.S k).e.r) := xc 3 _ rfl
          have x4 : wr.cell? ⟨b1, o1 + k * 16 + 4, none⟩ = some (.int .u32 (v.S k).e.a) := xc 4 _ rfl
          have x5 : wr.cell? ⟨b1, o1 + k * 16 + 5, none⟩ = some (.int .u16 (v.S k).e.p) := xc 5 _ rfl
          have x6 : wr.cell? ⟨b1, o1 + k * 16 + 6, none⟩ = some (.int .u32 (v.S k).e.b) := xc 6 _ rfl
          have x7 : wr.cell? ⟨b1, o1 + k * 16 + 7, none⟩ = some (.int .u16 (v.S k).e.q) := xc 7 _ rfl
          have x8 : wr.cell? ⟨b1, o1 + k * 16 + 8, none⟩ = some (.int .u8 (v.S k).e.r2) := xc 8 _ rfl
          have x9 : wr.cell? ⟨b1, o1 + k * 16 + 9, none⟩ = some (.int .u32 (v.S k).e.a2) := xc 9 _ rfl
          have x10 : wr.cell? ⟨b1, o1 + k * 16 + 10, none⟩ = some (.int .u16 (v.S k).e.p2) := xc 10 _ rfl
          have x11 : wr.cell? ⟨b1, o1 + k * 16 + 11, none⟩ = some (.int .u32 (v.S k).e.b2) := xc 11 _ rfl
          have x12 : wr.cell? ⟨b1, o1 + k * 16 + 12, none⟩ = some (.int .u16 (v.S k).e.q2) := xc 12 _ rfl
          have x13 : wr.cell? ⟨b1, o1 + k * 16 + 13, none⟩ = some (.int .i64 (v.S k).e.st) := xc 13 _ rfl
          have x14 : wr.cell? ⟨b1, o1 + k * 16 + 14, none⟩ = some (.int .i64 (v.S k).e.dl) := xc 14 _ rfl
          have x15 : wr.cell? ⟨b1, o1 + k * 16 + 15, none⟩ = some (.slice (v.S k).e.ad (v.S k).e.n (v.S k).e.c) := xc 15 _ rfl
          clear xc
          have pk2 : decide ((k : Int) < (v.ns : Int)) = true := decide_eq_true (by omega)
          have ck2 : (k : Int) < (v.ns : Int) := by omega
          go_upto_region 7 with fail
          clear lb2 x0 x1 x2 x3 x4 x5 x6 x7 x8 x9 x10 x11 x12 x13 x14 x15
          refine wp_gen (fun yw hW => ?_)
          have hp := new_now hW
          have hB := new_blk hW
          clear hW
          replace HLr := Lib.hid (HLr.out.step hp)
          replace HN := hid_now HN hp
          replace B_x := hid_blk B_x hp
          obtain ⟨gy, hgy⟩ : ∃ gy, gy = wr.heap.size := ⟨_, rfl⟩
          rw [← hgy] at hB ⊢
          have B_y := hB
          clear hB hp hgy
          have KL := Lib.hid (fun W (hW : NoW yw W) => live_look v _ _ _ _ _ _ _ _ g _ k hlt2 w0 W HS.out (HLr.out.step hW))
          rcases h1 : ((k : Int) == (i : Int)) with _ | _
          · have hne : k ≠ i := by have := beq_eq_false_iff_ne.1 h1; omega
            have Hne := Lib.hid hne
            clear hne
            rcases hl : v.liveS k with _ | _
            · rw [hl] at KL
              have Hl := Lib.hid hl
              clear hl
              have HE := Lib.hid (show bad = (VD.same (v.S i).e || anyR (k + 1) (fun k => !decide (k = i) && (v.liveS k && VD.meets (v.S i).e (v.S k).e))) from by rw [anyR_succ, HA.out]; rw [Hl.out]; simp)
              go_wp2_with fail
              refine (KL.out _ (Fp.refl _ _)).mono ?_
              rintro e z1 ⟨rfl, hp⟩
              replace HN := hid_now HN hp
              clear hp KL
              go_wp2_with fail
              go_roundg (v.ns - k)
              case measure => have := Hg2.out; omega
              case rel => exact ⟨k + 1, bad, by omega, by omega, by go_num, rfl, HE.out, HN.out⟩
            · rw [hl] at KL
              have Hl := Lib.hid hl
              clear hl
              have K1 := Lib.hid (fun W => match_ok (v.S k).e.r (v.S k).e.a (v.S k).e.p (v.S k).e.b (v.S k).e.q (v.S k).e.r2 (v.S k).e.a2 (v.S k).e.p2 (v.S k).e.b2 (v.S k).e.q2 (v.S i).e.r (v.S i).e.a (v.S i).e.p (v.S i).e.b (v.S i).e.q (v.S k).e.st (v.S k).e.dl (v.S k).e.ad (v.S k).e.n (v.S k).e.c W)
              have K2 := Lib.hid (fun W => match_ok (v.S k).e.r (v.S k).e.a (v.S k).e.p (v.S k).e.b (v.S k).e.q (v.S k).e.r2 (v.S k).e.a2 (v.S k).e.p2 (v.S k).e.b2 (v.S k).e.q2 (v.S i).e.r2 (v.S i).e.a2 (v.S i).e.p2 (v.S i).e.b2 (v.S i).e.q2 (v.S k).e.st (v.S k).e.dl (v.S k).e.ad (v.S k).e.n (v.S k).e.c W)
              have hm : VD.meets (v.S i).e (v.S k).e = ((decide ((v.S i).e.r = (v.S k).e.r ∧ (v.S i).e.a = (v.S k).e.a ∧ (v.S i).e.p = (v.S k).e.p ∧ (v.S i).e.b = (v.S k).e.b ∧ (v.S i).e.q = (v.S k).e.q) || decide ((v.S i).e.r = (v.S k).e.r2 ∧ (v.S i).e.a = (v.S k).e.a2 ∧ (v.S i).e.p = (v.S k).e.p2 ∧ (v.S i).e.b = (v.S k).e.b2 ∧ (v.S i).e.q = (v.S k).e.q2)) || (decide ((v.S i).e.r2 = (v.S k).e.r ∧ (v.S i).e.a2 = (v.S k).e.a ∧ (v.S i).e.p2 = (v.S k).e.p ∧ (v.S i).e.b2 = (v.S k).e.b ∧ (v.S i).e.q2 = (v.S k).e.q) || decide ((v.S i).e.r2 = (v.S k).e.r2 ∧ (v.S i).e.a2 = (v.S k).e.a2 ∧ (v.S i).e.p2 = (v.S k).e.p2 ∧ (v.S i).e.b2 = (v.S k).e.b2 ∧ (v.S i).e.q2 = (v.S k).e.q2))) := rfl
              obtain ⟨m1, hm1⟩ : ∃ s, s = (decide ((v.S i).e.r = (v.S k).e.r ∧ (v.S i).e.a = (v.S k).e.a ∧ (v.S i).e.p = (v.S k).e.p ∧ (v.S i).e.b = (v.S k).e.b ∧ (v.S i).e.q = (v.S k).e.q) || decide ((v.S i).e.r = (v.S k).e.r2 ∧ (v.S i).e.a = (v.S k).e.a2 ∧ (v.S i).e.p = (v.S k).e.p2 ∧ (v.S i).e.b = (v.S k).e.b2 ∧ (v.S i).e.q = (v.S k).e.q2)) := ⟨_, rfl⟩
              obtain ⟨m2, hm2⟩ : ∃ s, s = (decide ((v.S i).e.r2 = (v.S k).e.r ∧ (v.S i).e.a2 = (v.S k).e.a ∧ (v.S i).e.p2 = (v.S k).e.p ∧ (v.S i).e.b2 = (v.S k).e.b ∧ (v.S i).e.q2 = (v.S k).e.q) || decide ((v.S i).e.r2 = (v.S k).e.r2 ∧ (v.S i).e.a2 = (v.S k).e.a2 ∧ (v.S i).e.p2 = (v.S k).e.p2 ∧ (v.S i).e.b2 = (v.S k).e.b2 ∧ (v.S i).e.q2 = (v.S k).e.q2)) := ⟨_, rfl⟩
              rw [← hm1] at hm K1
              rw [← hm2] at hm K2
              have HM := Lib.hid hm
              clear hm hm1 hm2
              go_wp2_with fail
              refine (KL.out _ (Fp.refl _ _)).mono ?_
              rintro e z1 ⟨rfl, hp⟩
              replace HN := hid_now HN hp
              replace HLr := Lib.hid (HLr.out.step hp)
              replace B_x := hid_blk B_x hp
              replace B_y := hid_blk B_y hp
              clear hp KL
              have c0 := cell_at B_x 0 rfl
              have c1 := cell_at B_x 1 rfl
              have c2 := cell_at B_x 2 rfl
              have c3 := cell_at B_x 3 rfl
              have c4 := cell_at B_x 4 rfl
              have c5 := cell_at B_x 5 rfl
              have c6 := cell_at B_x 6 rfl
              have c7 := cell_at B_x 7 rfl
              have c8 := cell_at B_x 8 rfl
              have c9 := cell_at B_x 9 rfl
              have c10 := cell_at B_x 10 rfl
              have c11 := cell_at B_x 11 rfl
              have c12 := cell_at B_x 12 rfl
              have c13 := cell_at B_x 13 rfl
              have c14 := cell_at B_x 14 rfl
              have c15 := cell_at B_x 15 rfl
              have d0 := cell_at B_y 0 rfl
              have d1 := cell_at B_y 1 rfl
              have d2 := cell_at B_y 2 rfl
              have d3 := cell_at B_y 3 rfl
              have d4 := cell_at B_y 4 rfl
              have d5 := cell_at B_y 5 rfl
              have d6 := cell_at B_y 6 rfl
              have d7 := cell_at B_y 7 rfl
              have d8 := cell_at B_y 8 rfl
              have d9 := cell_at B_y 9 rfl
              have d10 := cell_at B_y 10 rfl
              have d11 := cell_at B_y 11 rfl
              have d12 := cell_at B_y 12 rfl
              have d13 := cell_at B_y 13 rfl
              have d14 := cell_at B_y 14 rfl
              have d15 := cell_at B_y 15 rfl
              go_wp2_with fail
              refine (K1.out _).mono ?_
              rintro e z2 ⟨rfl, hp⟩
              replace HN := hid_now HN hp
              replace HLr := Lib.hid (HLr.out.step hp)
              replace B_x := hid_blk B_x hp
              replace B_y := hid_blk B_y hp
              clear hp K1 c0 d0 c1 d1 c2 d2 c3 d3 c4 d4 c5 d5 c6 d6 c7 d7 c8 d8 c9 d9 c10 d10 c11 d11 c12 d12 c13 d13 c14 d14 c15 d15
              have c0 := cell_at B_x 0 rfl
              have c1 := cell_at B_x 1 rfl
              have c2 := cell_at B_x 2 rfl
              have c3 := cell_at B_x 3 rfl
              have c4 := cell_at B_x 4 rfl
              have c5 := cell_at B_x 5 rfl
              have c6 := cell_at B_x 6 rfl
              have c7 := cell_at B_x 7 rfl
              have c8 := cell_at B_x 8 rfl
              have c9 := cell_at B_x 9 rfl
              have c10 := cell_at B_x 10 rfl
              have c11 := cell_at B_x 11 rfl
              have c12 := cell_at B_x 12 rfl
              have c13 := cell_at B_x 13 rfl
              have c14 := cell_at B_x 14 rfl
              have c15 := cell_at B_x 15 rfl
              have d0 := cell_at B_y 0 rfl
              have d1 := cell_at B_y 1 rfl
              have d2 := cell_at B_y 2 rfl
              have d3 := cell_at B_y 3 rfl
              have d4 := cell_at B_y 4 rfl
              have d5 := cell_at B_y 5 rfl
              have d6 := cell_at B_y 6 rfl
              have d7 := cell_at B_y 7 rfl
              have d8 := cell_at B_y 8 rfl
              have d9 := cell_at B_y 9 rfl
              have d10 := cell_at B_y 10 rfl
              have d11 := cell_at B_y 11 rfl
              have d12 := cell_at B_y 12 rfl
              have d13 := cell_at B_y 13 rfl
              have d14 := cell_at B_y 14 rfl
              have d15 := cell_at B_y 15 rfl
              go_wp2_with fail
              refine (K2.out _).mono ?_
              rintro e z3 ⟨rfl, hp⟩
              replace HN := hid_now HN hp
              clear hp K2 c0 d0 c1 d1 c2 d2 c3 d3 c4 d4 c5 d5 c6 d6 c7 d7 c8 d8 c9 d9 c10 d10 c11 d11 c12 d12 c13 d13 c14 d14 c15 d15
              have hstep : ∀ z, z = (bad || (m1 || m2)) → z = (VD.same (v.S i).e || anyR (k + 1) (fun k => !decide (k = i) && (v.liveS k && VD.meets (v.S i).e (v.S k).e))) := fun z hz => by rw [hz, anyR_succ, HA.out, Hl.out, HM.out, decide_eq_false Hne.out]; simp [Bool.or_assoc]
              have HSt := Lib.hid hstep
              clear hstep
              rcases bad with _ | _
              · rcases m1 with _ | _
                · have HE := Lib.hid (HSt.out m2 rfl)
                  clear HSt
                  go_wp2_with fail
                  go_roundg (v.ns - k)
                  case measure => have := Hg2.out; omega
                  case rel => exact ⟨k + 1, m2, by omega, by omega, by go_num, rfl, HE.out, HN.out⟩
                · have HE := Lib.hid (HSt.out true rfl)
                  clear HSt
                  go_wp2_with fail
                  go_roundg (v.ns - k)
                  case measure => have := Hg2.out; omega
                  case rel => exact ⟨k + 1, true, by omega, by omega, by go_num, rfl, HE.out, HN.out⟩
              · have HE := Lib.hid (HSt.out true rfl)
                clear HSt
                go_wp2_with fail
                go_roundg (v.ns - k)
                case measure => have := Hg2.out; omega
                case rel => exact ⟨k + 1, true, by omega, by omega, by go_num, rfl, HE.out, HN.out⟩
          · have heq : k = i := by have := beq_iff_eq.1 h1; omega
            have Heq := Lib.hid heq
            clear heq KL
            have HE := Lib.hid (show bad = (VD.same (v.S i).e || anyR (k + 1) (fun k => !decide (k = i) && (v.liveS k && VD.meets (v.S i).e (v.S k).e))) from by rw [anyR_succ, HA.out]; rw [decide_eq_true Heq.out]; simp)
            go_wp2_with fail
            go_roundg (v.ns - k)
            case measure => have := Hg2.out; omega
            case rel => exact ⟨k + 1, bad, by omega, by omega, by go_num, rfl, HE.out, HN.out⟩
        · obtain rfl : k = v.ns := by omega
          have pk2 : decide ((v.ns : Int) < (v.ns : Int)) = false := decide_eq_false (by omega)
          have hF : v.f3 i = (v.liveS i && bad) := by rw [HA.out]; rfl
          have HF := Lib.hid hF
          clear hF
          go_wp2_with fail
          refine (live_look v _ _ _ _ _ _ _ _ g _ i hlt1 w0 _ HS.out HLr.out).mono ?_
          rintro e z1 ⟨rfl, hp⟩
          replace HLr := Lib.hid (HLr.out.step hp)
          clear hp
          rcases hl : v.liveS i with _ | _
          · rw [hl] at HF
            go_wp2_with fail
            refine (note_ok false w0 _ g _ _ _ _ _ _ _ _ _ 3 i HLr.out (fs_len HFs.out (by omega))).mono ?_
            rintro e z2 ⟨rfl, hL⟩
            replace HLr := Lib.hid hL
            clear hL
            go_wp2_with fail
            go_roundg (v.ns - i)
            case measure => have := Hg.out; omega
            case rel => exact ⟨i + 1, by omega, by omega, by go_num, by have h9 := HLr.out; have h8 := HF.out; rw [flt_no h8]; simpa using h9⟩
          · rw [hl, Bool.true_and] at HF
            go_wp2_with fail
            refine (note_ok bad w0 _ g _ _ _ _ _ _ _ _ _ 3 i HLr.out (fs_len HFs.out (by omega))).mono ?_
            rintro e z2 ⟨rfl, hL⟩
            replace HLr := Lib.hid hL
            clear hL
            go_wp2_with fail
            go_roundg (v.ns - i)
            case measure => have := Hg.out; omega
            case rel => exact ⟨i + 1, by omega, by omega, by go_num, by have h9 := HLr.out; have h8 := HF.out; cases bad; (rw [flt_no h8]; simpa using h9); (rw [flt0_yes h8]; simpa using h9)⟩
    · obtain rfl : i = v.ns := by omega
      have pk : decide ((v.ns : Int) < (v.ns : Int)) = false := decide_eq_false (by omega)
      go_wp2_with fail
      go_end0
      exact ⟨rfl, HL.out⟩
end Go.Proofs.YtcimbbllefkdlaaGreatDoor
