/- Texts of this proof, merged: AuJ. -/
import Derived.Test.YtcimbbllefkdlaaGreatDoorMal
import Derived.Test.YtcimbbllefkdlaaGreatDoorMaa
import Derived.Test.YtcimbbllefkdlaaGreatDoorMab
import Derived.Test.YtcimbbllefkdlaaGreatDoorMac
import Derived.Test.YtcimbbllefkdlaaGreatDoorMad
import Derived.Test.YtcimbbllefkdlaaGreatDoorMae
import Derived.Test.YtcimbbllefkdlaaGreatDoorMaf
import Derived.Test.YtcimbbllefkdlaaGreatDoorMag
import Derived.Test.YtcimbbllefkdlaaGreatDoorMah
import Derived.Test.YtcimbbllefkdlaaGreatDoorMai
import Derived.Test.YtcimbbllefkdlaaGreatDoorMaj
import Derived.Test.YtcimbbllefkdlaaGreatDoorMak
import Derived.Test.YtcimbbllefkdlaaGreatDoorMam
import Derived.Test.YtcimbbllefkdlaaGreatDoorMan
import Derived.Test.YtcimbbllefkdlaaGreatDoorMao
namespace Go.Proofs.YtcimbbllefkdlaaGreatDoor
set_option linter.unusedVariables false
set_option linter.unusedSimpArgs false
open Go.RowKit Go.Lib Go.Sort
set_option maxHeartbeats 8000000 in
set_option maxRecDepth 100000 in
theorem ports_ok (v : VD) (sa ca pa qa : Option Addr) (sc cc pc qc : Nat) (g : Nat) (fs : List (Int × Int)) (hfs : fs.length ≤ 10000) (hn : v.ns ≤ 100) (hnp : v.np ≤ 100) (w0 w : World) (hS : AtC w0 sa v.ns 16 (fun i => (v.S i).cs)) (hP : AtC w0 pa v.np 7 (fun i => (v.P i).cs)) (hH2 : ∀ i, i < v.ns → HoldsIn w0 (v.S i).e.ad (v.S i).e.n (holdsV (v.O i).1 (v.O i).2.1 (v.O i).2.2.1 (v.O i).2.2.2 (v.S i).e.n)) (hhn : ∀ i, (v.S i).e.n ≤ 100) (h : AuLk w0 w g [.int .i64 v.now, .slice sa v.ns sc, .slice ca v.nc cc, .slice pa v.np pc, .slice qa v.nq qc, .int .i64 v.free, .int .i64 v.live, .int .i64 v.gone] fs) :
    Calls Tryz.prog 16 #[.pointer (some ⟨g, 0, none⟩)] w fun e w' => e = .returned (.tuple #[]) ∧ AuLk w0 w' g [.int .i64 v.now, .slice sa v.ns sc, .slice ca v.nc cc, .slice pa v.np pc, .slice qa v.nq qc, .int .i64 v.free, .int .i64 v.live, .int .i64 v.gone] ((fs ++ flt 4 0 v.f4 v.np) ++ flt 4 v.np v.f4b v.ns) := by
  have HL := Lib.hid h
  have HS := Lib.hid hS
  have HP := Lib.hid hP
  have HFs := Lib.hid hfs
  have HHo := Lib.hid hH2
  have HHn := Lib.hid hhn
  have HM := Lib.hid (fun r c => sumR_le (f := fun i => cntR (v.S i).e.n (v.ofRow r i)) (m := 100) (fun i => Nat.le_trans (cntR_le _ _) (hhn i)) c)
  clear h hS hP hfs hH2 hhn
  go_enter Tryz.func16, Tryz.ntmps16
  have cg3 := HL.out.cell 3 rfl
  have lg := HL.out.lt
  go_wp2_with fail
  clear cg3 lg
  go_loopg [21] (v.np + 1) (fun gg iv wx => ∃ (j : Nat), j ≤ v.np ∧ gg = v.np + 1 - j ∧ iv = .int .i64 (j : Int) ∧ AuLk w0 wx g [.int .i64 v.now, .slice sa v.ns sc, .slice ca v.nc cc, .slice pa v.np pc, .slice qa v.nq qc, .int .i64 v.free, .int .i64 v.live, .int .i64 v.gone] (fs ++ flt 4 0 v.f4 j))
  case atStart => exact ⟨0, by omega, by omega, rfl, by simpa [flt] using HL.out⟩
  case round =>
    clear HL
    obtain ⟨j, hj, hg, rfl, hL⟩ := hrel
    have Hg := Lib.hid hg
    have HL := Lib.hid hL
    clear hg hL
    by_cases hlt1 : j < v.np
    · skip
      obtain ⟨b1, o1, hs, lb1, xc⟩ := (HP.out.low HL.out.low) j hlt1
      subst hs
      have x0 : wr.cell? ⟨b1, o1 + j * 7, none⟩ = some (.int .u8 (v.P j).pr) := xc 0 _ rfl
      have x1 : wr.cell? ⟨b1, o1 + j * 7 + 1, none⟩ = some (.int .u32 (v.P j).oa) := xc 1 _ rfl
      have x2 : wr.cell? ⟨b1, o1 + j * 7 + 2, none⟩ = some (.int .u16 (v.P j).op) := xc 2 _ rfl
      have x3 : wr.cell? ⟨b1, o1 + j * 7 + 3, none⟩ = some (.int .u32 (v.P j).ia) := xc 3 _ rfl
      have x4 : wr.cell? ⟨b1, o1 + j * 7 + 4, none⟩ = some (.int .u16 (v.P j).ip) := xc 4 _ rfl
      have x5 : wr.cell? ⟨b1, o1 + j * 7 + 5, none⟩ = some (.int .i64 (v.P j).live) := xc 5 _ rfl
      have x6 : wr.cell? ⟨b1, o1 + j * 7 + 6, none⟩ = some (.int .i64 (v.P j).held) := xc 6 _ rfl
      clear xc
      have pk1 : decide ((j : Int) < (v.np : Int)) = true := decide_eq_true (by omega)
      have ck1 : (j : Int) < (v.np : Int) := by omega
      go_upto_region 3 with fail
      clear lb1 x0 x1 x2 x3 x4 x5 x6
      refine wp_gen (fun xw hW => ?_)
      have hp := new_now hW
      have hB := new_blk hW
      clear hW
      replace HL := Lib.hid (HL.out.step hp)
      obtain ⟨gx, hgx⟩ : ∃ gx, gx = wr.heap.size := ⟨_, rfl⟩
      rw [← hgx] at hB ⊢
      have B_x := hB
      clear hB hp hgx
      have cg1 := HL.out.cell 1 rfl
      have lg := HL.out.lt
      go_wp2_with fail
      clear cg1 lg
      go_loopg [32, 4, 5] (v.ns + 1) (fun gg2 kv nv bv wx => ∃ (i : Nat) (b : Bool) (N : Nat), i ≤ v.ns ∧ gg2 = v.ns + 1 - i ∧ kv = .int .i64 (i : Int) ∧ nv = .int .i64 (N : Int) ∧ bv = .bool b ∧ N = v.nRow (v.P j) i ∧ b = v.oRow (v.P j) i ∧ NoW xw wx)
      case atStart => exact ⟨0, false, 0, by omega, by omega, rfl, rfl, rfl, rfl, rfl, Fp.refl _ _⟩
      case round =>
        obtain ⟨i, b0, N0, hi, hg2, rfl, rfl, rfl, hA, hB, hN⟩ := hrel
        have Hg2 := Lib.hid hg2
        have HN := Lib.hid hN
        have HA := Lib.hid hA
        have HB := Lib.hid hB
        have HLr := Lib.hid (HL.out.step hN)
        replace B_x := hid_blk B_x hN
        have hNl : N0 ≤ 10000 := by have := HM.out (v.P j) i; rw [hA]; exact Nat.le_trans this (by omega)
        clear hg2 hN hA hB
        by_cases hlt2 : i < v.ns
        · skip
          obtain ⟨b2, o2, hs, lb2, xc⟩ := (HS.out.low HLr.out.low) i hlt2
          subst hs
          have x0 : wr.cell? ⟨b2, o2 + i * 16, none⟩ = some (.bool (v.S i).used) := xc 0 _ rfl
          have x1 : wr.cell? ⟨b2, o2 + i * 16 + 1, none⟩ = some (.bool (v.S i).put) := xc 1 _ rfl
          have x2 : wr.cell? ⟨b2, o2 + i * 16 + 2, none⟩ = some (.bool (v.S i).dead) := xc 2 _ rfl
          have x3 : wr.cell? ⟨b2, o2 + i * 16 + 3, none⟩ = some (.int .u8 (v.S i).e.r) := xc 3 _ rfl
          have x4 : wr.cell? ⟨b2, o2 + i * 16 + 4, none⟩ = some (.int .u32 (v.S i).e.a) := xc 4 _ rfl
          have x5 : wr.cell? ⟨b2, o2 + i * 16 + 5, none⟩ = some (.int .u16 (v.S i).e.p) := xc 5 _ rfl
          have x6 : wr.cell? ⟨b2, o2 + i * 16 + 6, none⟩ = some (.int .u32 (v.S i).e.b) := xc 6 _ rfl
          have x7 : wr.cell? ⟨b2, o2 + i * 16 + 7, none⟩ = some (.int .u16 (v.S i).e.q) := xc 7 _ rfl
          have x8 : wr.cell? ⟨b2, o2 + i * 16 + 8, none⟩ = some (.int .u8 (v.S i).e.r2) := xc 8 _ rfl
          have x9 : wr.cell? ⟨b2, o2 + i * 16 + 9, none⟩ = some (.int .u32 (v.S i).e.a2) := xc 9 _ rfl
          have x10 : wr.cell? ⟨b2, o2 + i * 16 + 10, none⟩ = some (.int .u16 (v.S i).e.p2) := xc 10 _ rfl
          have x11 : wr.cell? ⟨b2, o2 + i * 16 + 11, none⟩ = some (.int .u32 (v.S i).e.b2) := xc 11 _ rfl
          have x12 : wr.cell? ⟨b2, o2 + i * 16 + 12, none⟩ = some (.int .u16 (v.S i).e.q2) := xc 12 _ rfl
          have x13 : wr.cell? ⟨b2, o2 + i * 16 + 13, none⟩ = some (.int .i64 (v.S i).e.st) := xc 13 _ rfl
          have x14 : wr.cell? ⟨b2, o2 + i * 16 + 14, none⟩ = some (.int .i64 (v.S i).e.dl) := xc 14 _ rfl
          have x15 : wr.cell? ⟨b2, o2 + i * 16 + 15, none⟩ = some (.slice (v.S i).e.ad (v.S i).e.n (v.S i).e.c) := xc 15 _ rfl
          clear xc
          have pk2 : decide ((i : Int) < (v.ns : Int)) = true := decide_eq_true (by omega)
          have ck2 : (i : Int) < (v.ns : Int) := by omega
          go_upto_region 7 with fail
          clear lb2 x0 x1 x2 x3 x4 x5 x6 x7 x8 x9 x10 x11 x12 x13 x14 x15
          refine wp_gen (fun yw hW => ?_)
          have hp := new_now hW
          have hB := new_blk hW
          clear hW
          replace HLr := Lib.hid (HLr.out.step hp)
          replace HN := hid_now HN hp
          replace B_x := hid_blk B_x hp
          obtain ⟨gy, hgy⟩ : ∃ gy, gy = wr.heap.size := ⟨_, rfl⟩
          rw [← hgy] at hB ⊢
          have B_y := hB
          clear hB hp hgy
          have y15 := cell_at B_y 15 rfl
          go_wp2_with fail
          clear y15
          have HHi := Lib.hid (HHo.out i hlt2)
          have HNi := Lib.hid (HHn.out i)
          obtain ⟨ad, had⟩ : ∃ a, a = (v.S i).e.ad := ⟨_, rfl⟩
          rw [← had] at HHi ⊢
          clear had
          go_loopg [40, 4, 5] ((v.S i).e.n + 1) (fun gg3 kv nv bv wx => ∃ (k : Nat) (b : Bool) (N : Nat), k ≤ (v.S i).e.n ∧ gg3 = (v.S i).e.n + 1 - k ∧ kv = .int .i64 (k : Int) ∧ nv = .int .i64 (N : Int) ∧ bv = .bool b ∧ N = N0 + cntR k (v.ofRow (v.P j) i) ∧ b = (b0 || anyR k (fun k => v.ofRow (v.P j) i k && v.other (v.P j) i k)) ∧ NoW yw wx)
          case atStart => exact ⟨0, b0, N0, by omega, by omega, rfl, rfl, rfl, by simp [cntR], by simp [anyR], Fp.refl _ _⟩
          case round =>
            obtain ⟨k, bb, N, hk, hg3, rfl, rfl, rfl, hA3, hB3, hN3⟩ := hrel
            have Hg3 := Lib.hid hg3
            have HN3 := Lib.hid hN3
            have HA3 := Lib.hid hA3
            have HB3 := Lib.hid hB3
            have HLq := Lib.hid (HLr.out.step hN3)
            replace B_x := hid_blk B_x hN3
            replace B_y := hid_blk B_y hN3
            have bn : (v.S i).e.n ≤ 100 := HNi.out
            have hNl2 : N ≤ 20000 := by have := cntR_le k (v.ofRow (v.P j) i); omega
            clear hg3 hN3 hA3 hB3
            by_cases hlt3 : k < (v.S i).e.n
            · skip
              obtain ⟨hb, ho, rfl, hh⟩ := HHi.out (by omega)
              have hhr := hh.low HLq.out.low
              have h0 : wr.cell? ⟨hb, ho + k * 4, none⟩ = some (.int .u32 ((v.O i).1 k)) := hhr.cell (k * 4 + 0) _ (holdsV_get (v.O i).1 (v.O i).2.1 (v.O i).2.2.1 (v.O i).2.2.2 (v.S i).e.n k 0 hlt3 (by omega))
              have h1 : wr.cell? ⟨hb, ho + k * 4 + 1, none⟩ = some (.int .u16 ((v.O i).2.1 k)) := hhr.cell (k * 4 + 1) _ (holdsV_get (v.O i).1 (v.O i).2.1 (v.O i).2.2.1 (v.O i).2.2.2 (v.S i).e.n k 1 hlt3 (by omega))
              have h2 : wr.cell? ⟨hb, ho + k * 4 + 2, none⟩ = some (.int .u32 ((v.O i).2.2.1 k)) := hhr.cell (k * 4 + 2) _ (holdsV_get (v.O i).1 (v.O i).2.1 (v.O i).2.2.1 (v.O i).2.2.2 (v.S i).e.n k 2 hlt3 (by omega))
              have h3 : wr.cell? ⟨hb, ho + k * 4 + 3, none⟩ = some (.int .u16 ((v.O i).2.2.2 k)) := hhr.cell (k * 4 + 3) _ (holdsV_get (v.O i).1 (v.O i).2.1 (v.O i).2.2.1 (v.O i).2.2.2 (v.S i).e.n k 3 hlt3 (by omega))
              have lhb : hb < wr.heap.size := hhr.lt
              clear hh hhr
              have pk3 : decide ((k : Int) < ((v.S i).e.n : Int)) = true := decide_eq_true (by omega)
              have ck3 : (k : Int) < ((v.S i).e.n : Int) := by omega
              go_upto_region 10 with fail
              clear lhb h0 h1 h2 h3
              refine wp_gen (fun zw hW => ?_)
              have hp := new_now hW
              have hB := new_blk hW
              clear hW
              replace HLq := Lib.hid (HLq.out.step hp)
              replace HN3 := hid_now HN3 hp
              replace B_x := hid_blk B_x hp
              replace B_y := hid_blk B_y hp
              obtain ⟨gz, hgz⟩ : ∃ gz, gz = wr.heap.size := ⟨_, rfl⟩
              rw [← hgz] at hB ⊢
              have B_z := hB
              clear hB hp hgz
              have hst : ∀ p q, v.ofRow (v.P j) i k = p → (p = true → v.other (v.P j) i k = q) → N0 + cntR (k + 1) (v.ofRow (v.P j) i) = (N + if p then 1 else 0) ∧ (b0 || anyR (k + 1) (fun k => v.ofRow (v.P j) i k && v.other (v.P j) i k)) = (bb || (p && q)) := fun p q hp hq => by
                rw [cntR_succ, anyR_succ, hp, HA3.out, HB3.out]
                cases p
                · simp
                · rw [hq rfl]; simp [Nat.add_assoc, Bool.or_assoc]
              have HSt := Lib.hid hst
              clear hst
              have YC : True := trivial
              obtain ⟨pt, hpt⟩ : ∃ b, (v.S i).put = b := ⟨_, rfl⟩
              rcases pt with _ | _
              · rw [hpt] at B_y
                have Hpu := Lib.hid hpt
                clear hpt
                have HE := Lib.hid (show N0 + cntR (k + 1) (v.ofRow (v.P j) i) = N ∧ (b0 || anyR (k + 1) (fun k => v.ofRow (v.P j) i k && v.other (v.P j) i k)) = bb from by have h := HSt.out false false (by unfold VD.ofRow; rw [Hpu.out]; rfl) (fun h => by cases h); simpa using h)
                clear HSt
                have y0 := cell_at B_y 0 rfl
                have y1 := cell_at B_y 1 rfl
                have y2 := cell_at B_y 2 rfl
                have y3 := cell_at B_y 3 rfl
                have y4 := cell_at B_y 4 rfl
                have y5 := cell_at B_y 5 rfl
                have y6 := cell_at B_y 6 rfl
                have y7 := cell_at B_y 7 rfl
                have y8 := cell_at B_y 8 rfl
                have y9 := cell_at B_y 9 rfl
                have y10 := cell_at B_y 10 rfl
                have y11 := cell_at B_y 11 rfl
                have y12 := cell_at B_y 12 rfl
                have y13 := cell_at B_y 13 rfl
                have y14 := cell_at B_y 14 rfl
                have y15 := cell_at B_y 15 rfl
                have x0 := cell_at B_x 0 rfl
                have x1 := cell_at B_x 1 rfl
                have x2 := cell_at B_x 2 rfl
                have x3 := cell_at B_x 3 rfl
                have x4 := cell_at B_x 4 rfl
                have x5 := cell_at B_x 5 rfl
                have x6 := cell_at B_x 6 rfl
                have z0 := cell_at B_z 0 rfl
                have z1 := cell_at B_z 1 rfl
                have z2 := cell_at B_z 2 rfl
                have z3 := cell_at B_z 3 rfl
                go_wp2_with fail
                go_roundg ((v.S i).e.n - k)
                case measure => have := Hg3.out; omega
                case rel => exact ⟨k + 1, bb, N, by omega, by omega, by go_num, rfl, rfl, HE.out.1.symm, HE.out.2.symm, HN3.out⟩
              · rw [hpt] at B_y
                have Hpu := Lib.hid hpt
                clear hpt
                rcases h1 : (((v.S i).e.r : Int) == ((v.P j).pr : Int)) with _ | _
                · skip
                  have HE := Lib.hid (show N0 + cntR (k + 1) (v.ofRow (v.P j) i) = N ∧ (b0 || anyR (k + 1) (fun k => v.ofRow (v.P j) i k && v.other (v.P j) i k)) = bb from by have h := HSt.out false false (by unfold VD.ofRow; rw [decide_eq_false (by have := beq_eq_false_iff_ne.1 h1; omega)]; simp) (fun h => by cases h); simpa using h)
                  clear HSt
                  have y0 := cell_at B_y 0 rfl
                  have y1 := cell_at B_y 1 rfl
                  have y2 := cell_at B_y 2 rfl
                  have y3 := cell_at B_y 3 rfl
                  have y4 := cell_at B_y 4 rfl
                  have y5 := cell_at B_y 5 rfl
                  have y6 := cell_at B_y 6 rfl
                  have y7 := cell_at B_y 7 rfl
                  have y8 := cell_at B_y 8 rfl
                  have y9 := cell_at B_y 9 rfl
                  have y10 := cell_at B_y 10 rfl
                  have y11 := cell_at B_y 11 rfl
                  have y12 := cell_at B_y 12 rfl
                  have y13 := cell_at B_y 13 rfl
                  have y14 := cell_at B_y 14 rfl
                  have y15 := cell_at B_y 15 rfl
                  have x0 := cell_at B_x 0 rfl
                  have x1 := cell_at B_x 1 rfl
                  have x2 := cell_at B_x 2 rfl
                  have x3 := cell_at B_x 3 rfl
                  have x4 := cell_at B_x 4 rfl
                  have x5 := cell_at B_x 5 rfl
                  have x6 := cell_at B_x 6 rfl
                  have z0 := cell_at B_z 0 rfl
                  have z1 := cell_at B_z 1 rfl
                  have z2 := cell_at B_z 2 rfl
                  have z3 := cell_at B_z 3 rfl
                  go_wp2_with fail
                  go_roundg ((v.S i).e.n - k)
                  case measure => have := Hg3.out; omega
                  case rel => exact ⟨k + 1, bb, N, by omega, by omega, by go_num, rfl, rfl, HE.out.1.symm, HE.out.2.symm, HN3.out⟩
                · have e1 : (v.S i).e.r = (v.P j).pr := by have := beq_iff_eq.1 h1; omega
                  rw [e1] at B_y
                  have He1 := Lib.hid e1
                  clear e1 h1
                  rcases h2 : (((v.O i).1 k : Int) == ((v.P j).oa : Int)) with _ | _
                  · skip
                    have HE := Lib.hid (show N0 + cntR (k + 1) (v.ofRow (v.P j) i) = N ∧ (b0 || anyR (k + 1) (fun k => v.ofRow (v.P j) i k && v.other (v.P j) i k)) = bb from by have h := HSt.out false false (by unfold VD.ofRow; have := beq_eq_false_iff_ne.1 h2; have h9 : (v.O i).1 k ≠ (v.P j).oa := (by omega); simp [h9]) (fun h => by cases h); simpa using h)
                    clear HSt
                    have y0 := cell_at B_y 0 rfl
                    have y1 := cell_at B_y 1 rfl
                    have y2 := cell_at B_y 2 rfl
                    have y3 := cell_at B_y 3 rfl
                    have y4 := cell_at B_y 4 rfl
                    have y5 := cell_at B_y 5 rfl
                    have y6 := cell_at B_y 6 rfl
                    have y7 := cell_at B_y 7 rfl
                    have y8 := cell_at B_y 8 rfl
                    have y9 := cell_at B_y 9 rfl
                    have y10 := cell_at B_y 10 rfl
                    have y11 := cell_at B_y 11 rfl
                    have y12 := cell_at B_y 12 rfl
                    have y13 := cell_at B_y 13 rfl
                    have y14 := cell_at B_y 14 rfl
                    have y15 := cell_at B_y 15 rfl
                    have x0 := cell_at B_x 0 rfl
                    have x1 := cell_at B_x 1 rfl
                    have x2 := cell_at B_x 2 rfl
                    have x3 := cell_at B_x 3 rfl
                    have x4 := cell_at B_x 4 rfl
                    have x5 := cell_at B_x 5 rfl
                    have x6 := cell_at B_x 6 rfl
                    have z0 := cell_at B_z 0 rfl
                    have z1 := cell_at B_z 1 rfl
                    have z2 := cell_at B_z 2 rfl
                    have z3 := cell_at B_z 3 rfl
                    go_wp2_with fail
                    go_roundg ((v.S i).e.n - k)
                    case measure => have := Hg3.out; omega
                    case rel => exact ⟨k + 1, bb, N, by omega, by omega, by go_num, rfl, rfl, HE.out.1.symm, HE.out.2.symm, HN3.out⟩
                  · have e2 : (v.O i).1 k = (v.P j).oa := by have := beq_iff_eq.1 h2; omega
                    rw [e2] at B_z
                    have He2 := Lib.hid e2
                    clear e2 h2
                    rcases h3 : (((v.O i).2.1 k : Int) == ((v.P j).op : Int)) with _ | _
                    · skip
                      have HE := Lib.hid (show N0 + cntR (k + 1) (v.ofRow (v.P j) i) = N ∧ (b0 || anyR (k + 1) (fun k => v.ofRow (v.P j) i k && v.other (v.P j) i k)) = bb from by have h := HSt.out false false (by unfold VD.ofRow; have := beq_eq_false_iff_ne.1 h3; have h9 : (v.O i).2.1 k ≠ (v.P j).op := (by omega); simp [h9]) (fun h => by cases h); simpa using h)
                      clear HSt
                      have y0 := cell_at B_y 0 rfl
                      have y1 := cell_at B_y 1 rfl
                      have y2 := cell_at B_y 2 rfl
                      have y3 := cell_at B_y 3 rfl
                      have y4 := cell_at B_y 4 rfl
                      have y5 := cell_at B_y 5 rfl
                      have y6 := cell_at B_y 6 rfl
                      have y7 := cell_at B_y 7 rfl
                      have y8 := cell_at B_y 8 rfl
                      have y9 := cell_at B_y 9 rfl
                      have y10 := cell_at B_y 10 rfl
                      have y11 := cell_at B_y 11 rfl
                      have y12 := cell_at B_y 12 rfl
                      have y13 := cell_at B_y 13 rfl
                      have y14 := cell_at B_y 14 rfl
                      have y15 := cell_at B_y 15 rfl
                      have x0 := cell_at B_x 0 rfl
                      have x1 := cell_at B_x 1 rfl
                      have x2 := cell_at B_x 2 rfl
                      have x3 := cell_at B_x 3 rfl
                      have x4 := cell_at B_x 4 rfl
                      have x5 := cell_at B_x 5 rfl
                      have x6 := cell_at B_x 6 rfl
                      have z0 := cell_at B_z 0 rfl
                      have z1 := cell_at B_z 1 rfl
                      have z2 := cell_at B_z 2 rfl
                      have z3 := cell_at B_z 3 rfl
                      go_wp2_with fail
                      go_roundg ((v.S i).e.n - k)
                      case measure => have := Hg3.out; omega
                      case rel => exact ⟨k + 1, bb, N, by omega, by omega, by go_num, rfl, rfl, HE.out.1.symm, HE.out.2.symm, HN3.out⟩
                    · have e3 : (v.O i).2.1 k = (v.P j).op := by have := beq_iff_eq.1 h3; omega
                      rw [e3] at B_z
                      have He3 := Lib.hid e3
                      clear e3 h3
                      have HP1 := Lib.hid (show v.ofRow (v.P j) i k = true from by unfold VD.ofRow; rw [Hpu.out, He1.out, He2.out, He3.out]; simp)
                      cases bb with
                      | true =>
                        have HE := Lib.hid (show N0 + cntR (k + 1) (v.ofRow (v.P j) i) = N + 1 ∧ (b0 || anyR (k + 1) (fun k => v.ofRow (v.P j) i k && v.other (v.P j) i k)) = true from by have h := HSt.out true _ HP1.out (fun _ => rfl); simpa using h)
                        clear HSt
                        have y0 := cell_at B_y 0 rfl
                        have y1 := cell_at B_y 1 rfl
                        have y2 := cell_at B_y 2 rfl
                        have y3 := cell_at B_y 3 rfl
                        have y4 := cell_at B_y 4 rfl
                        have y5 := cell_at B_y 5 rfl
                        have y6 := cell_at B_y 6 rfl
                        have y7 := cell_at B_y 7 rfl
                        have y8 := cell_at B_y 8 rfl
                        have y9 := cell_at B_y 9 rfl
                        have y10 := cell_at B_y 10 rfl
                        have y11 := cell_at B_y 11 rfl
                        have y12 := cell_at B_y 12 rfl
                        have y13 := cell_at B_y 13 rfl
                        have y14 := cell_at B_y 14 rfl
                        have y15 := cell_at B_y 15 rfl
                        have x0 := cell_at B_x 0 rfl
                        have x1 := cell_at B_x 1 rfl
                        have x2 := cell_at B_x 2 rfl
                        have x3 := cell_at B_x 3 rfl
                        have x4 := cell_at B_x 4 rfl
                        have x5 := cell_at B_x 5 rfl
                        have x6 := cell_at B_x 6 rfl
                        have z0 := cell_at B_z 0 rfl
                        have z1 := cell_at B_z 1 rfl
                        have z2 := cell_at B_z 2 rfl
                        have z3 := cell_at B_z 3 rfl
                        go_wp2_with fail
                        go_roundg ((v.S i).e.n - k)
                        case measure => have := Hg3.out; omega
                        case rel => exact ⟨k + 1, true, (N + 1), by omega, by omega, by go_num, by go_num, rfl, HE.out.1.symm, HE.out.2.symm, HN3.out⟩
                      | false =>
                        rcases h4 : (((v.O i).2.2.1 k : Int) == ((v.P j).ia : Int)) with _ | _
                        · skip
                          have HE := Lib.hid (show N0 + cntR (k + 1) (v.ofRow (v.P j) i) = N + 1 ∧ (b0 || anyR (k + 1) (fun k => v.ofRow (v.P j) i k && v.other (v.P j) i k)) = true from by have h := HSt.out true true HP1.out (fun _ => by unfold VD.other; have := beq_eq_false_iff_ne.1 h4; have h9 : (v.O i).2.2.1 k ≠ (v.P j).ia := (by omega); simp [h9]); simpa using h)
                          clear HSt
                          have y0 := cell_at B_y 0 rfl
                          have y1 := cell_at B_y 1 rfl
                          have y2 := cell_at B_y 2 rfl
                          have y3 := cell_at B_y 3 rfl
                          have y4 := cell_at B_y 4 rfl
                          have y5 := cell_at B_y 5 rfl
                          have y6 := cell_at B_y 6 rfl
                          have y7 := cell_at B_y 7 rfl
                          have y8 := cell_at B_y 8 rfl
                          have y9 := cell_at B_y 9 rfl
                          have y10 := cell_at B_y 10 rfl
                          have y11 := cell_at B_y 11 rfl
                          have y12 := cell_at B_y 12 rfl
                          have y13 := cell_at B_y 13 rfl
                          have y14 := cell_at B_y 14 rfl
                          have y15 := cell_at B_y 15 rfl
                          have x0 := cell_at B_x 0 rfl
                          have x1 := cell_at B_x 1 rfl
                          have x2 := cell_at B_x 2 rfl
                          have x3 := cell_at B_x 3 rfl
                          have x4 := cell_at B_x 4 rfl
                          have x5 := cell_at B_x 5 rfl
                          have x6 := cell_at B_x 6 rfl
                          have z0 := cell_at B_z 0 rfl
                          have z1 := cell_at B_z 1 rfl
                          have z2 := cell_at B_z 2 rfl
                          have z3 := cell_at B_z 3 rfl
                          go_wp2_with fail
                          go_roundg ((v.S i).e.n - k)
                          case measure => have := Hg3.out; omega
                          case rel => exact ⟨k + 1, true, (N + 1), by omega, by omega, by go_num, by go_num, rfl, HE.out.1.symm, HE.out.2.symm, HN3.out⟩
                        · have e4 : (v.O i).2.2.1 k = (v.P j).ia := by have := beq_iff_eq.1 h4; omega
                          rw [e4] at B_z
                          have He4 := Lib.hid e4
                          clear e4 h4
                          rcases h5 : (((v.O i).2.2.2 k : Int) == ((v.P j).ip : Int)) with _ | _
                          · skip
                            have HE := Lib.hid (show N0 + cntR (k + 1) (v.ofRow (v.P j) i) = N + 1 ∧ (b0 || anyR (k + 1) (fun k => v.ofRow (v.P j) i k && v.other (v.P j) i k)) = true from by have h := HSt.out true true HP1.out (fun _ => by unfold VD.other; have := beq_eq_false_iff_ne.1 h5; have h9 : (v.O i).2.2.2 k ≠ (v.P j).ip := (by omega); simp [h9]); simpa using h)
                            clear HSt
                            have y0 := cell_at B_y 0 rfl
                            have y1 := cell_at B_y 1 rfl
                            have y2 := cell_at B_y 2 rfl
                            have y3 := cell_at B_y 3 rfl
                            have y4 := cell_at B_y 4 rfl
                            have y5 := cell_at B_y 5 rfl
                            have y6 := cell_at B_y 6 rfl
                            have y7 := cell_at B_y 7 rfl
                            have y8 := cell_at B_y 8 rfl
                            have y9 := cell_at B_y 9 rfl
                            have y10 := cell_at B_y 10 rfl
                            have y11 := cell_at B_y 11 rfl
                            have y12 := cell_at B_y 12 rfl
                            have y13 := cell_at B_y 13 rfl
                            have y14 := cell_at B_y 14 rfl
                            have y15 := cell_at B_y 15 rfl
                            have x0 := cell_at B_x 0 rfl
                            have x1 := cell_at B_x 1 rfl
                            have x2 := cell_at B_x 2 rfl
                            have x3 := cell_at B_x 3 rfl
                            have x4 := cell_at B_x 4 rfl
                            have x5 := cell_at B_x 5 rfl
                            have x6 := cell_at B_x 6 rfl
                            have z0 := cell_at B_z 0 rfl
                            have z1 := cell_at B_z 1 rfl
                            have z2 := cell_at B_z 2 rfl
                            have z3 := cell_at B_z 3 rfl
                            go_wp2_with fail
                            go_roundg ((v.S i).e.n - k)
                            case measure => have := Hg3.out; omega
                            case rel => exact ⟨k + 1, true, (N + 1), by omega, by omega, by go_num, by go_num, rfl, HE.out.1.symm, HE.out.2.symm, HN3.out⟩
                          · have e5 : (v.O i).2.2.2 k = (v.P j).ip := by have := beq_iff_eq.1 h5; omega
                            rw [e5] at B_z
                            have He5 := Lib.hid e5
                            clear e5 h5
                            have HE := Lib.hid (show N0 + cntR (k + 1) (v.ofRow (v.P j) i) = N + 1 ∧ (b0 || anyR (k + 1) (fun k => v.ofRow (v.P j) i k && v.other (v.P j) i k)) = false from by have h := HSt.out true false HP1.out (fun _ => by unfold VD.other; rw [He4.out, He5.out]; simp); simpa using h)
                            clear HSt
                            have y0 := cell_at B_y 0 rfl
                            have y1 := cell_at B_y 1 rfl
                            have y2 := cell_at B_y 2 rfl
                            have y3 := cell_at B_y 3 rfl
                            have y4 := cell_at B_y 4 rfl
                            have y5 := cell_at B_y 5 rfl
                            have y6 := cell_at B_y 6 rfl
                            have y7 := cell_at B_y 7 rfl
                            have y8 := cell_at B_y 8 rfl
                            have y9 := cell_at B_y 9 rfl
                            have y10 := cell_at B_y 10 rfl
                            have y11 := cell_at B_y 11 rfl
                            have y12 := cell_at B_y 12 rfl
                            have y13 := cell_at B_y 13 rfl
                            have y14 := cell_at B_y 14 rfl
                            have y15 := cell_at B_y 15 rfl
                            have x0 := cell_at B_x 0 rfl
                            have x1 := cell_at B_x 1 rfl
                            have x2 := cell_at B_x 2 rfl
                            have x3 := cell_at B_x 3 rfl
                            have x4 := cell_at B_x 4 rfl
                            have x5 := cell_at B_x 5 rfl
                            have x6 := cell_at B_x 6 rfl
                            have z0 := cell_at B_z 0 rfl
                            have z1 := cell_at B_z 1 rfl
                            have z2 := cell_at B_z 2 rfl
                            have z3 := cell_at B_z 3 rfl
                            go_wp2_with fail
                            go_roundg ((v.S i).e.n - k)
                            case measure => have := Hg3.out; omega
                            case rel => exact ⟨k + 1, false, (N + 1), by omega, by omega, by go_num, by go_num, rfl, HE.out.1.symm, HE.out.2.symm, HN3.out⟩
            · obtain rfl : k = (v.S i).e.n := by omega
              have pk3 : decide (((v.S i).e.n : Int) < ((v.S i).e.n : Int)) = false := decide_eq_false (by omega)
              have hA4 : N = v.nRow (v.P j) (i + 1) := by rw [HA3.out, HA.out]; rfl
              have hB4 : bb = v.oRow (v.P j) (i + 1) := by rw [HB3.out, HB.out]; unfold VD.oRow; rw [anyR_succ]
              have HA4 := Lib.hid hA4
              have HB4 := Lib.hid hB4
              replace HN := hid_now HN HN3.out
              clear hA4 hB4
              go_wp2_with fail
              go_roundg (v.ns - i)
              case measure => have := Hg2.out; omega
              case rel => exact ⟨i + 1, bb, N, by omega, by omega, by go_num, rfl, rfl, HA4.out, HB4.out, HN.out⟩
        · obtain rfl : i = v.ns := by omega
          have pk2 : decide ((v.ns : Int) < (v.ns : Int)) = false := decide_eq_false (by omega)
          have hF : v.f4 j = (b0 || (decide ((N0 : Int) ≠ (v.P j).live) || decide ((v.P j).held < 0))) := by rw [HA.out, HB.out]; rfl
          have HF := Lib.hid hF
          clear hF
          have x5 := cell_at B_x 5 rfl
          have x6 := cell_at B_x 6 rfl
          cases b0 with
          | true =>
            have HF4 := Lib.hid (show v.f4 j = true from by rw [HF.out]; simp)
            go_wp2_with fail
            refine (note_ok true w0 _ g _ _ _ _ _ _ _ _ _ 4 j HLr.out (fs_len HFs.out (by omega))).mono ?_
            rintro e z2 ⟨rfl, hL⟩
            replace HLr := Lib.hid hL
            clear hL x5 x6
            go_wp2_with fail
            go_roundg (v.np - j)
            case measure => have := Hg.out; omega
            case rel => exact ⟨j + 1, by omega, by omega, by go_num, by have h9 := HLr.out; have h8 := HF4.out; rw [flt0_yes h8]; simpa using h9⟩
          | false =>
            rcases h1 : ((N0 : Int) == (v.P j).live) with _ | _
            · have h1n : ((N0 : Int) != (v.P j).live) = true := by simp only [bne, h1]; rfl
              have HF4 := Lib.hid (show v.f4 j = true from by rw [HF.out]; have := beq_eq_false_iff_ne.1 h1; simp [this])
              go_wp2_with fail
              refine (note_ok true w0 _ g _ _ _ _ _ _ _ _ _ 4 j HLr.out (fs_len HFs.out (by omega))).mono ?_
              rintro e z2 ⟨rfl, hL⟩
              replace HLr := Lib.hid hL
              clear hL x5 x6
              go_wp2_with fail
              go_roundg (v.np - j)
              case measure => have := Hg.out; omega
              case rel => exact ⟨j + 1, by omega, by omega, by go_num, by have h9 := HLr.out; have h8 := HF4.out; rw [flt0_yes h8]; simpa using h9⟩
            · have h1n : ((N0 : Int) != (v.P j).live) = false := by simp only [bne, h1]; rfl
              rcases h2 : decide ((v.P j).held < 0) with _ | _
              · skip
                have HF4 := Lib.hid (show v.f4 j = false from by rw [HF.out]; have e1 := beq_iff_eq.1 h1; have e2 := of_decide_eq_false h2; simp [e1]; omega)
                go_wp2_with fail
                refine (note_ok false w0 _ g _ _ _ _ _ _ _ _ _ 4 j HLr.out (fs_len HFs.out (by omega))).mono ?_
                rintro e z2 ⟨rfl, hL⟩
                replace HLr := Lib.hid hL
                clear hL x5 x6
                go_wp2_with fail
                go_roundg (v.np - j)
                case measure => have := Hg.out; omega
                case rel => exact ⟨j + 1, by omega, by omega, by go_num, by have h9 := HLr.out; have h8 := HF4.out; rw [flt_no h8]; simpa using h9⟩
              · skip
                have HF4 := Lib.hid (show v.f4 j = true from by rw [HF.out]; have e2 := of_decide_eq_true h2; simp [e2])
                go_wp2_with fail
                refine (note_ok true w0 _ g _ _ _ _ _ _ _ _ _ 4 j HLr.out (fs_len HFs.out (by omega))).mono ?_
                rintro e z2 ⟨rfl, hL⟩
                replace HLr := Lib.hid hL
                clear hL x5 x6
                go_wp2_with fail
                go_roundg (v.np - j)
                case measure => have := Hg.out; omega
                case rel => exact ⟨j + 1, by omega, by omega, by go_num, by have h9 := HLr.out; have h8 := HF4.out; rw [flt0_yes h8]; simpa using h9⟩
    · obtain rfl : j = v.np := by omega
      have pk : decide ((v.np : Int) < (v.np : Int)) = false := decide_eq_false (by omega)
      have cg1 := HL.out.cell 1 rfl
      have lg := HL.out.lt
      go_wp2_with fail
      clear cg1 lg
      clear Hg
      go_loopg [96] (v.ns + 1) (fun gg iv wx => ∃ (i : Nat), i ≤ v.ns ∧ gg = v.ns + 1 - i ∧ iv = .int .i64 (i : Int) ∧ AuLk w0 wx g [.int .i64 v.now, .slice sa v.ns sc, .slice ca v.nc cc, .slice pa v.np pc, .slice qa v.nq qc, .int .i64 v.free, .int .i64 v.live, .int .i64 v.gone] ((fs ++ flt 4 0 v.f4 v.np) ++ flt 4 v.np v.f4b i))
      case atStart => exact ⟨0, by omega, by omega, rfl, by simpa [flt] using HL.out⟩
      case round =>
        clear HL
        obtain ⟨i, hi, hg, rfl, hL⟩ := hrel
        have Hg := Lib.hid hg
        have HL := Lib.hid hL
        clear hg hL
        by_cases hlt2 : i < v.ns
        · skip
          obtain ⟨b2, o2, hs, lb2, xc⟩ := (HS.out.low HL.out.low) i hlt2
          subst hs
          have x0 : wr.cell? ⟨b2, o2 + i * 16, none⟩ = some (.bool (v.S i).used) := xc 0 _ rfl
          have x1 : wr.cell? ⟨b2, o2 + i * 16 + 1, none⟩ = some (.bool (v.S i).put) := xc 1 _ rfl
          have x2 : wr.cell? ⟨b2, o2 + i * 16 + 2, none⟩ = some (.bool (v.S i).dead) := xc 2 _ rfl
          have x3 : wr.cell? ⟨b2, o2 + i * 16 + 3, none⟩ = some (.int .u8 (v.S i).e.r) := xc 3 _ rfl
          have x4 : wr.cell? ⟨b2, o2 + i * 16 + 4, none⟩ = some (.int .u32 (v.S i).e.a) := xc 4 _ rfl
          have x5 : wr.cell? ⟨b2, o2 + i * 16 + 5, none⟩ = some (.int .u16 (v.S i).e.p) := xc 5 _ rfl
          have x6 : wr.cell? ⟨b2, o2 + i * 16 + 6, none⟩ = some (.int .u32 (v.S i).e.b) := xc 6 _ rfl
          have x7 : wr.cell? ⟨b2, o2 + i * 16 + 7, none⟩ = some (.int .u16 (v.S i).e.q) := xc 7 _ rfl
          have x8 : wr.cell? ⟨b2, o2 + i * 16 + 8, none⟩ = some (.int .u8 (v.S i).e.r2) := xc 8 _ rfl
          have x9 : wr.cell? ⟨b2, o2 + i * 16 + 9, none⟩ = some (.int .u32 (v.S i).e.a2) := xc 9 _ rfl
          have x10 : wr.cell? ⟨b2, o2 + i * 16 + 10, none⟩ = some (.int .u16 (v.S i).e.p2) := xc 10 _ rfl
          have x11 : wr.cell? ⟨b2, o2 + i * 16 + 11, none⟩ = some (.int .u32 (v.S i).e.b2) := xc 11 _ rfl
          have x12 : wr.cell? ⟨b2, o2 + i * 16 + 12, none⟩ = some (.int .u16 (v.S i).e.q2) := xc 12 _ rfl
          have x13 : wr.cell? ⟨b2, o2 + i * 16 + 13, none⟩ = some (.int .i64 (v.S i).e.st) := xc 13 _ rfl
          have x14 : wr.cell? ⟨b2, o2 + i * 16 + 14, none⟩ = some (.int .i64 (v.S i).e.dl) := xc 14 _ rfl
          have x15 : wr.cell? ⟨b2, o2 + i * 16 + 15, none⟩ = some (.slice (v.S i).e.ad (v.S i).e.n (v.S i).e.c) := xc 15 _ rfl
          clear xc
          have pk2 : decide ((i : Int) < (v.ns : Int)) = true := decide_eq_true (by omega)
          have ck2 : (i : Int) < (v.ns : Int) := by omega
          go_upto_region 20 with fail
          clear lb2 x0 x1 x2 x3 x4 x5 x6 x7 x8 x9 x10 x11 x12 x13 x14 x15
          refine wp_gen (fun yw hW => ?_)
          have hp := new_now hW
          have hB := new_blk hW
          clear hW
          replace HL := Lib.hid (HL.out.step hp)
          obtain ⟨gy, hgy⟩ : ∃ gy, gy = wr.heap.size := ⟨_, rfl⟩
          rw [← hgy] at hB ⊢
          have B_y := hB
          clear hB hp hgy
          have y15 := cell_at B_y 15 rfl
          go_wp2_with fail
          clear y15
          have HHi := Lib.hid (HHo.out i hlt2)
          have HNi := Lib.hid (HHn.out i)
          obtain ⟨ad, had⟩ : ∃ a, a = (v.S i).e.ad := ⟨_, rfl⟩
          rw [← had] at HHi ⊢
          clear had
          go_loopg [105, 12] ((v.S i).e.n + 1) (fun gg3 kv bv wx => ∃ (k : Nat) (b : Bool), k ≤ (v.S i).e.n ∧ gg3 = (v.S i).e.n + 1 - k ∧ kv = .int .i64 (k : Int) ∧ bv = .bool b ∧ b = anyR k (fun k => (v.S i).put && !v.resv (v.S i).e.r ((v.O i).1 k) ((v.O i).2.1 k)) ∧ NoW yw wx)
          case atStart => exact ⟨0, false, by omega, by omega, rfl, rfl, rfl, Fp.refl _ _⟩
          case round =>
            obtain ⟨k, bb, hk, hg3, rfl, rfl, hB3, hN3⟩ := hrel
            have Hg3 := Lib.hid hg3
            have HN3 := Lib.hid hN3
            have HB3 := Lib.hid hB3
            have HLq := Lib.hid (HL.out.step hN3)
            replace B_y := hid_blk B_y hN3
            have bn : (v.S i).e.n ≤ 100 := HNi.out
            clear hg3 hN3 hB3
            by_cases hlt3 : k < (v.S i).e.n
            · skip
              obtain ⟨hb, ho, rfl, hh⟩ := HHi.out (by omega)
              have hhr := hh.low HLq.out.low
              have h0 : wr.cell? ⟨hb, ho + k * 4, none⟩ = some (.int .u32 ((v.O i).1 k)) := hhr.cell (k * 4 + 0) _ (holdsV_get (v.O i).1 (v.O i).2.1 (v.O i).2.2.1 (v.O i).2.2.2 (v.S i).e.n k 0 hlt3 (by omega))
              have h1 : wr.cell? ⟨hb, ho + k * 4 + 1, none⟩ = some (.int .u16 ((v.O i).2.1 k)) := hhr.cell (k * 4 + 1) _ (holdsV_get (v.O i).1 (v.O i).2.1 (v.O i).2.2.1 (v.O i).2.2.2 (v.S i).e.n k 1 hlt3 (by omega))
              have h2 : wr.cell? ⟨hb, ho + k * 4 + 2, none⟩ = some (.int .u32 ((v.O i).2.2.1 k)) := hhr.cell (k * 4 + 2) _ (holdsV_get (v.O i).1 (v.O i).2.1 (v.O i).2.2.1 (v.O i).2.2.2 (v.S i).e.n k 2 hlt3 (by omega))
              have h3 : wr.cell? ⟨hb, ho + k * 4 + 3, none⟩ = some (.int .u16 ((v.O i).2.2.2 k)) := hhr.cell (k * 4 + 3) _ (holdsV_get (v.O i).1 (v.O i).2.1 (v.O i).2.2.1 (v.O i).2.2.2 (v.S i).e.n k 3 hlt3 (by omega))
              have lhb : hb < wr.heap.size := hhr.lt
              clear hh hhr
              have pk3 : decide ((k : Int) < ((v.S i).e.n : Int)) = true := decide_eq_true (by omega)
              have ck3 : (k : Int) < ((v.S i).e.n : Int) := by omega
              go_upto_region 24 with fail
              clear lhb h0 h1 h2 h3
              refine wp_gen (fun zw hW => ?_)
              have hp := new_now hW
              have hB := new_blk hW
              clear hW
              replace HLq := Lib.hid (HLq.out.step hp)
              replace HN3 := hid_now HN3 hp
              replace B_y := hid_blk B_y hp
              obtain ⟨gz, hgz⟩ : ∃ gz, gz = wr.heap.size := ⟨_, rfl⟩
              rw [← hgz] at hB ⊢
              have B_z := hB
              clear hB hp hgz
              have KR := Lib.hid (fun W (hW : NoW zw W) => reserved_ok v _ _ _ _ _ _ _ _ g _ (v.S i).e.r ((v.O i).1 k) ((v.O i).2.1 k) hnp w0 W HP.out (HLq.out.step hW))
              obtain ⟨rs, hrs⟩ : ∃ s, s = v.resv (v.S i).e.r ((v.O i).1 k) ((v.O i).2.1 k) := ⟨_, rfl⟩
              rw [← hrs] at KR
              have hst : anyR (k + 1) (fun k => (v.S i).put && !v.resv (v.S i).e.r ((v.O i).1 k) ((v.O i).2.1 k)) = (bb || ((v.S i).put && !rs)) := by rw [anyR_succ, HB3.out, hrs]
              have HSt := Lib.hid hst
              clear hst hrs
              cases bb with
              | true =>
                have HE := Lib.hid (show true = anyR (k + 1) (fun k => (v.S i).put && !v.resv (v.S i).e.r ((v.O i).1 k) ((v.O i).2.1 k)) from by rw [HSt.out]; rfl)
                have y0 := cell_at B_y 0 rfl
                have y1 := cell_at B_y 1 rfl
                have y2 := cell_at B_y 2 rfl
                have y3 := cell_at B_y 3 rfl
                have y4 := cell_at B_y 4 rfl
                have y5 := cell_at B_y 5 rfl
                have y6 := cell_at B_y 6 rfl
                have y7 := cell_at B_y 7 rfl
                have y8 := cell_at B_y 8 rfl
                have y9 := cell_at B_y 9 rfl
                have y10 := cell_at B_y 10 rfl
                have y11 := cell_at B_y 11 rfl
                have y12 := cell_at B_y 12 rfl
                have y13 := cell_at B_y 13 rfl
                have y14 := cell_at B_y 14 rfl
                have y15 := cell_at B_y 15 rfl
                have z0 := cell_at B_z 0 rfl
                have z1 := cell_at B_z 1 rfl
                have z2 := cell_at B_z 2 rfl
                have z3 := cell_at B_z 3 rfl
                go_wp2_with fail
                go_roundg ((v.S i).e.n - k)
                case measure => have := Hg3.out; omega
                case rel => exact ⟨k + 1, true, by omega, by omega, by go_num, rfl, HE.out, HN3.out⟩
              | false =>
                obtain ⟨pt, hpu⟩ : ∃ b, (v.S i).put = b := ⟨_, rfl⟩
                rcases pt with _ | _
                · rw [hpu] at B_y
                  have HE := Lib.hid (show false = anyR (k + 1) (fun k => (v.S i).put && !v.resv (v.S i).e.r ((v.O i).1 k) ((v.O i).2.1 k)) from by rw [HSt.out, hpu]; rfl)
                  clear hpu
                  have y0 := cell_at B_y 0 rfl
                  have y1 := cell_at B_y 1 rfl
                  have y2 := cell_at B_y 2 rfl
                  have y3 := cell_at B_y 3 rfl
                  have y4 := cell_at B_y 4 rfl
                  have y5 := cell_at B_y 5 rfl
                  have y6 := cell_at B_y 6 rfl
                  have y7 := cell_at B_y 7 rfl
                  have y8 := cell_at B_y 8 rfl
                  have y9 := cell_at B_y 9 rfl
                  have y10 := cell_at B_y 10 rfl
                  have y11 := cell_at B_y 11 rfl
                  have y12 := cell_at B_y 12 rfl
                  have y13 := cell_at B_y 13 rfl
                  have y14 := cell_at B_y 14 rfl
                  have y15 := cell_at B_y 15 rfl
                  have z0 := cell_at B_z 0 rfl
                  have z1 := cell_at B_z 1 rfl
                  have z2 := cell_at B_z 2 rfl
                  have z3 := cell_at B_z 3 rfl
                  go_wp2_with fail
                  go_roundg ((v.S i).e.n - k)
                  case measure => have := Hg3.out; omega
                  case rel => exact ⟨k + 1, false, by omega, by omega, by go_num, rfl, HE.out, HN3.out⟩
                · rw [hpu] at B_y
                  have HE := Lib.hid (show (!rs) = anyR (k + 1) (fun k => (v.S i).put && !v.resv (v.S i).e.r ((v.O i).1 k) ((v.O i).2.1 k)) from by rw [HSt.out, hpu]; simp)
                  clear hpu
                  have y0 := cell_at B_y 0 rfl
                  have y1 := cell_at B_y 1 rfl
                  have y2 := cell_at B_y 2 rfl
                  have y3 := cell_at B_y 3 rfl
                  have y4 := cell_at B_y 4 rfl
                  have y5 := cell_at B_y 5 rfl
                  have y6 := cell_at B_y 6 rfl
                  have y7 := cell_at B_y 7 rfl
                  have y8 := cell_at B_y 8 rfl
                  have y9 := cell_at B_y 9 rfl
                  have y10 := cell_at B_y 10 rfl
                  have y11 := cell_at B_y 11 rfl
                  have y12 := cell_at B_y 12 rfl
                  have y13 := cell_at B_y 13 rfl
                  have y14 := cell_at B_y 14 rfl
                  have y15 := cell_at B_y 15 rfl
                  have z0 := cell_at B_z 0 rfl
                  have z1 := cell_at B_z 1 rfl
                  have z2 := cell_at B_z 2 rfl
                  have z3 := cell_at B_z 3 rfl
                  go_wp2_with fail
                  refine (KR.out _ (Fp.refl _ _)).mono ?_
                  rintro e z9 ⟨rfl, hp⟩
                  replace HN3 := hid_now HN3 hp
                  clear hp KR y0 y1 y2 y3 y4 y5 y6 y7 y8 y9 y10 y11 y12 y13 y14 y15 z0 z1 z2 z3
                  go_wp2_with fail
                  go_roundg ((v.S i).e.n - k)
                  case measure => have := Hg3.out; omega
                  case rel => exact ⟨k + 1, (!rs), by omega, by omega, by go_num, rfl, HE.out, HN3.out⟩
            · obtain rfl : k = (v.S i).e.n := by omega
              have pk3 : decide (((v.S i).e.n : Int) < ((v.S i).e.n : Int)) = false := decide_eq_false (by omega)
              have HF := Lib.hid (show v.f4b i = bb from HB3.out.symm)
              have cg3 := HLq.out.cell 3 rfl
              have lg := HLq.out.lt
              go_wp2_with fail
              refine (note_ok bb w0 _ g _ _ _ _ _ _ _ _ _ 4 _ HLq.out (by have h1 := HFs.out; have h2 := flt_len 4 0 v.f4 v.np; have h3 := flt_len 4 (v.np : Int) v.f4b i; simp only [List.length_append]; omega)).mono ?_
              rintro e z2 ⟨rfl, hL⟩
              replace HLq := Lib.hid hL
              clear hL cg3 lg
              go_wp2_with fail
              go_roundg (v.ns - i)
              case measure => have := Hg.out; omega
              case rel => exact ⟨i + 1, by omega, by omega, by go_num, by have h9 := HLq.out; have h8 := HF.out; cases bb; (rw [flt_no h8]; simpa using h9); (rw [flt_yes h8]; simpa using h9)⟩
        · obtain rfl : i = v.ns := by omega
          have pk : decide ((v.ns : Int) < (v.ns : Int)) = false := decide_eq_false (by omega)
          go_wp2_with fail
          go_end0
          exact ⟨rfl, HL.out⟩
end Go.Proofs.YtcimbbllefkdlaaGreatDoor
