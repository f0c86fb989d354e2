/- Texts of this proof, merged: AuT AuV. -/
import Derived.Test.YtcimbbllefkdlaaGreatDoorMas
import Derived.Test.YtcimbbllefkdlaaGreatDoorMag
import Derived.Test.YtcimbbllefkdlaaGreatDoorMaa
import Derived.Test.YtcimbbllefkdlaaGreatDoorMab
import Derived.Test.YtcimbbllefkdlaaGreatDoorMac
import Derived.Test.YtcimbbllefkdlaaGreatDoorMad
import Derived.Test.YtcimbbllefkdlaaGreatDoorMae
import Derived.Test.YtcimbbllefkdlaaGreatDoorMaf
import Derived.Test.YtcimbbllefkdlaaGreatDoorMah
import Derived.Test.YtcimbbllefkdlaaGreatDoorMai
import Derived.Test.YtcimbbllefkdlaaGreatDoorMaj
import Derived.Test.YtcimbbllefkdlaaGreatDoorMak
import Derived.Test.YtcimbbllefkdlaaGreatDoorMal
import Derived.Test.YtcimbbllefkdlaaGreatDoorMam
import Derived.Test.YtcimbbllefkdlaaGreatDoorMan
import Derived.Test.YtcimbbllefkdlaaGreatDoorMao
import Derived.Test.YtcimbbllefkdlaaGreatDoorMap
import Derived.Test.YtcimbbllefkdlaaGreatDoorMaq
import Derived.Test.YtcimbbllefkdlaaGreatDoorMar
namespace Go.Proofs.YtcimbbllefkdlaaGreatDoor
set_option linter.unusedVariables false
set_option linter.unusedSimpArgs false
open Go.RowKit Go.Lib Go.Sort
set_option maxHeartbeats 8000000 in
set_option maxRecDepth 100000 in
theorem rrow_ok (v : VD) (sa ca pa qa : Option Addr) (sc cc pc qc : Nat) (hs : Nat → Int) (hg : Nat → Nat) (r : RowD) (hns : v.ns ≤ 100) (hhn : ∀ i, (v.S i).e.n ≤ 100) (w0 W : World) (hS : AtC w0 sa v.ns 18 (fun i => (v.S i).cs ++ [.int .i64 (hs i), .int .u32 (hg i)])) (hH2 : ∀ i, i < v.ns → HoldsIn w0 (v.S i).e.ad (v.S i).e.n (holdsV (v.O i).1 (v.O i).2.1 (v.O i).2.2.1 (v.O i).2.2.2 (v.S i).e.n)) (hW0 : NoW w0 W) :
    Calls Tryz.prog 23 #[.agg #[.int .i64 v.now, .slice sa v.ns sc, .slice ca v.nc cc, .slice pa v.np pc, .slice qa v.nq qc, .int .i64 v.free, .int .i64 v.live, .int .i64 v.gone], .agg #[.int .u8 r.pr, .int .u32 r.oa, .int .u16 r.op, .int .u32 r.ia, .int .u16 r.ip, .int .i64 r.live, .int .i64 r.held]] W (Ret1 (.bool (v.oRow r v.ns || (decide ((v.nRow r v.ns : Int) ≠ r.live) || decide (r.held < 0)))) W) := by
  have HW0 := Lib.hid hW0
  clear hW0
  have HS := Lib.hid hS
  have HHo := Lib.hid hH2
  have HHn := Lib.hid hhn
  have HM := Lib.hid (fun r c => sumR_le (f := fun i => cntR (v.S i).e.n (v.ofRow r i)) (m := 100) (fun i => Nat.le_trans (cntR_le _ _) (hhn i)) c)
  clear hS hH2 hhn
  obtain ⟨res, hr⟩ : ∃ b, b = (v.oRow r v.ns || (decide ((v.nRow r v.ns : Int) ≠ r.live) || decide (r.held < 0))) := ⟨_, rfl⟩
  rw [← hr]
  have HR := Lib.hid hr
  clear hr
  go_enter Tryz.func23, Tryz.ntmps23
  have HN := Lib.hid (Fp.refl (fun _ => False) W)
  go_upto_region 1 with fail
  refine wp_gen (fun Vw hW => ?_)
  obtain ⟨B_V, B_R, hp⟩ := new2_blk hW
  clear hW
  replace HN := hid_now HN hp
  clear hp
  obtain ⟨gR, hgR⟩ : ∃ g, g = W.heap.size + 1 := ⟨_, rfl⟩
  obtain ⟨gV, hgV⟩ : ∃ g, g = W.heap.size := ⟨_, rfl⟩
  rw [← hgR] at B_R ⊢
  rw [← hgV] at B_V ⊢
  clear hgV hgR
  have c1 := cell_at B_V 1 rfl
  have lV := hid_lt B_V
  go_wp2_with fail
  clear c1 lV
  have HX := Lib.hid (Fp.refl (fun _ => False) Vw)
  go_loopg [6, 5] (v.ns + 1) (fun gg iv nv wx => ∃ (i N : Nat), i ≤ v.ns ∧ gg = v.ns + 1 - i ∧ iv = .int .i64 (i : Int) ∧ nv = .int .i64 (N : Int) ∧ N = v.nRow r i ∧ v.oRow r i = false ∧ NoW Vw wx)
  case atStart => exact ⟨0, 0, by omega, by omega, rfl, rfl, rfl, rfl, HX.out⟩
  case round =>
    clear HX
    obtain ⟨i, N0, hi, hg, rfl, rfl, hA, hB, hN⟩ := hrel
    have Hg := Lib.hid hg
    replace HN := hid_now HN hN
    have HX := Lib.hid hN
    have HA := Lib.hid hA
    have HB := Lib.hid hB
    replace B_V := hid_blk B_V hN
    replace B_R := hid_blk B_R hN
    have hNl : N0 ≤ 10000 := by have := HM.out r i; rw [hA]; exact Nat.le_trans this (by omega)
    clear hg hN hA hB
    by_cases hlt1 : i < v.ns
    · skip
      obtain ⟨b1, o1, hs1, lb1, xc⟩ := (HS.out.low (HW0.out.trans HN.out (fun _ _ h => h))) i hlt1
      subst hs1
      have XC1 := Lib.hid xc
      clear xc
      have pk1 : decide ((i : Int) < (v.ns : Int)) = true := decide_eq_true (by omega)
      have ck1 : (i : Int) < (v.ns : Int) := by omega
      have c1 := cell_at B_V 1 rfl
      have lV := hid_lt B_V
      go_upto_region 6 with (first | (refine wpList_load_at (o := ⟨some 20, _, _, _, _, _⟩) rfl _ _ rfl b1 (o1 + i * 18) (by kernel_rfl) #[.bool (v.S i).used, .bool (v.S i).put, .bool (v.S i).dead, .int .u8 (v.S i).e.r, .int .u32 (v.S i).e.a, .int .u16 (v.S i).e.p, .int .u32 (v.S i).e.b, .int .u16 (v.S i).e.q, .int .u8 (v.S i).e.r2, .int .u32 (v.S i).e.a2, .int .u16 (v.S i).e.p2, .int .u32 (v.S i).e.b2, .int .u16 (v.S i).e.q2, .int .i64 (v.S i).e.st, .int .i64 (v.S i).e.dl, .slice (v.S i).e.ad (v.S i).e.n (v.S i).e.c, .int .i64 (hs i), .int .u32 (hg i)] _ XC1.out Tryz.underlying73 rfl (by kernel_rfl) ?_) | (refine wpList_store_new (o := ⟨none, .store 73 _ _, _, _, _, _⟩) rfl _ _ _ rfl rfl _ #[.bool (v.S i).used, .bool (v.S i).put, .bool (v.S i).dead, .int .u8 (v.S i).e.r, .int .u32 (v.S i).e.a, .int .u16 (v.S i).e.p, .int .u32 (v.S i).e.b, .int .u16 (v.S i).e.q, .int .u8 (v.S i).e.r2, .int .u32 (v.S i).e.a2, .int .u16 (v.S i).e.p2, .int .u32 (v.S i).e.b2, .int .u16 (v.S i).e.q2, .int .i64 (v.S i).e.st, .int .i64 (v.S i).e.dl, .slice (v.S i).e.ad (v.S i).e.n (v.S i).e.c, .int .i64 (hs i), .int .u32 (hg i)] (by kernel_rfl) (by kernel_rfl) (by kernel_rfl) (by kernel_rfl) (by kernel_rfl) ?_))
      clear c1 lV lb1 XC1
      refine wp_gen (fun Xw hW => ?_)
      have hp := new_now hW
      have hB := new_blk hW
      clear hW
      replace HN := hid_now HN hp
      replace B_V := hid_blk B_V hp
      replace B_R := hid_blk B_R hp
      replace HX := hid_now HX hp
      obtain ⟨gX, hgX⟩ : ∃ gX, gX = wr.heap.size := ⟨_, rfl⟩
      rw [← hgX] at hB ⊢
      have B_X := hB
      clear hB hp hgX
      have d15 := cell_at B_X 15 rfl
      go_wp2_with fail
      clear d15
      have HHi := Lib.hid (HHo.out i hlt1)
      have HNi := Lib.hid (HHn.out i)
      have HY := Lib.hid (Fp.refl (fun _ => False) Xw)
      go_loopg [8, 5] ((v.S i).e.n + 1) (fun gg2 kv nv wx => ∃ (k N : Nat), k ≤ (v.S i).e.n ∧ gg2 = (v.S i).e.n + 1 - k ∧ kv = .int .i64 (k : Int) ∧ nv = .int .i64 (N : Int) ∧ N = N0 + cntR k (v.ofRow r i) ∧ anyR k (fun k => v.ofRow r i k && v.other r i k) = false ∧ NoW Xw wx)
      case atStart => exact ⟨0, N0, by omega, by omega, rfl, rfl, by simp [cntR], rfl, HY.out⟩
      case round =>
        clear HY
        obtain ⟨k, N, hk, hg2, rfl, rfl, hA3, hB3, hN⟩ := hrel
        have Hg2 := Lib.hid hg2
        replace HN := hid_now HN hN
        replace HX := hid_now HX hN
        have HY := Lib.hid hN
        have HA3 := Lib.hid hA3
        have HB3 := Lib.hid hB3
        replace B_V := hid_blk B_V hN
        replace B_R := hid_blk B_R hN
        replace B_X := hid_blk B_X hN
        have bn : (v.S i).e.n ≤ 100 := HNi.out
        have hNl2 : N ≤ 20000 := by have := cntR_le k (v.ofRow r i); omega
        clear hg2 hN hA3 hB3
        by_cases hlt3 : k < (v.S i).e.n
        · skip
          obtain ⟨hb, ho, had, hh⟩ := HHi.out (by omega)
          have hhr := hh.low (HW0.out.trans HN.out (fun _ _ h => h))
          rw [had] at B_X
          have h0 : wr.cell? ⟨hb, ho + k * 4, none⟩ = some (.int .u32 ((v.O i).1 k)) := hhr.cell (k * 4 + 0) _ (holdsV_get (v.O i).1 (v.O i).2.1 (v.O i).2.2.1 (v.O i).2.2.2 (v.S i).e.n k 0 hlt3 (by omega))
          have h1 : wr.cell? ⟨hb, ho + k * 4 + 1, none⟩ = some (.int .u16 ((v.O i).2.1 k)) := hhr.cell (k * 4 + 1) _ (holdsV_get (v.O i).1 (v.O i).2.1 (v.O i).2.2.1 (v.O i).2.2.2 (v.S i).e.n k 1 hlt3 (by omega))
          have h2 : wr.cell? ⟨hb, ho + k * 4 + 2, none⟩ = some (.int .u32 ((v.O i).2.2.1 k)) := hhr.cell (k * 4 + 2) _ (holdsV_get (v.O i).1 (v.O i).2.1 (v.O i).2.2.1 (v.O i).2.2.2 (v.S i).e.n k 2 hlt3 (by omega))
          have h3 : wr.cell? ⟨hb, ho + k * 4 + 3, none⟩ = some (.int .u16 ((v.O i).2.2.2 k)) := hhr.cell (k * 4 + 3) _ (holdsV_get (v.O i).1 (v.O i).2.1 (v.O i).2.2.1 (v.O i).2.2.2 (v.S i).e.n k 3 hlt3 (by omega))
          have lhb : hb < wr.heap.size := hhr.lt
          clear hh hhr had
          have pk3 : decide ((k : Int) < ((v.S i).e.n : Int)) = true := decide_eq_true (by omega)
          have ck3 : (k : Int) < ((v.S i).e.n : Int) := by omega
          have hst : ∀ p q, v.ofRow r i k = p → (p = true → v.other r i k = q) → N0 + cntR (k + 1) (v.ofRow r i) = (N + if p then 1 else 0) ∧ anyR (k + 1) (fun k => v.ofRow r i k && v.other r i k) = (p && q) := fun p q hp hq => by
            rw [cntR_succ, anyR_succ, hp, HA3.out, HB3.out]
            cases p
            · simp
            · rw [hq rfl]; simp [Nat.add_assoc]
          have HSt := Lib.hid hst
          clear hst
          obtain ⟨pt, hpt⟩ : ∃ b, (v.S i).put = b := ⟨_, rfl⟩
          have HPt := Lib.hid hpt
          rw [hpt] at B_X
          clear hpt
          rcases pt with _ | _
          · skip
            have d1 := cell_at B_X 1 rfl
            have d3 := cell_at B_X 3 rfl
            have d15 := cell_at B_X 15 rfl
            have lX := hid_lt B_X
            have r0 := cell_at B_R 0 rfl
            have r1 := cell_at B_R 1 rfl
            have r2 := cell_at B_R 2 rfl
            have r3 := cell_at B_R 3 rfl
            have r4 := cell_at B_R 4 rfl
            have r5 := cell_at B_R 5 rfl
            have r6 := cell_at B_R 6 rfl
            have lR := hid_lt B_R
            go_upto_region 9 with fail
            go_quiet (fail)
            generalize hW : World.drewN wr _ = kw1
            have hHeld : NoW wr kw1 := by rw [← hW]; exact (Fp.refl _ _).drewN _
            clear hW
            replace HN := hid_now HN hHeld
            replace HX := hid_now HX hHeld
            replace HY := hid_now HY hHeld
            clear lX lR d1 d3 d15 r0 r1 r2 r3 r4 r5 r6
            clear hHeld lhb h0 h1 h2 h3
            have HE := Lib.hid (show N0 + cntR (k + 1) (v.ofRow r i) = N ∧ anyR (k + 1) (fun k => v.ofRow r i k && v.other r i k) = false from by have h := HSt.out false false (by unfold VD.ofRow; rw [HPt.out]; rfl) (fun h => by cases h); simpa using h)
            clear HSt
            go_wp2_with fail
            go_roundg ((v.S i).e.n - k)
            case measure => have := Hg2.out; omega
            case rel => exact ⟨k + 1, N, by omega, by omega, by go_num, rfl, HE.out.1.symm, HE.out.2, HY.out⟩
          · rcases hq1 : (((v.S i).e.r : Int) == (r.pr : Int)) with _ | _
            · have hq1n : (((v.S i).e.r : Int) != (r.pr : Int)) = true := by simp only [bne, hq1]; rfl
              have d1 := cell_at B_X 1 rfl
              have d3 := cell_at B_X 3 rfl
              have d15 := cell_at B_X 15 rfl
              have lX := hid_lt B_X
              have r0 := cell_at B_R 0 rfl
              have r1 := cell_at B_R 1 rfl
              have r2 := cell_at B_R 2 rfl
              have r3 := cell_at B_R 3 rfl
              have r4 := cell_at B_R 4 rfl
              have r5 := cell_at B_R 5 rfl
              have r6 := cell_at B_R 6 rfl
              have lR := hid_lt B_R
              go_upto_region 9 with fail
              go_quiet (fail)
              generalize hW : World.drewN wr _ = kw1
              have hHeld : NoW wr kw1 := by rw [← hW]; exact (Fp.refl _ _).drewN _
              clear hW
              replace HN := hid_now HN hHeld
              replace HX := hid_now HX hHeld
              replace HY := hid_now HY hHeld
              clear lX lR d1 d3 d15 r0 r1 r2 r3 r4 r5 r6
              clear hHeld lhb h0 h1 h2 h3
              have HE := Lib.hid (show N0 + cntR (k + 1) (v.ofRow r i) = N ∧ anyR (k + 1) (fun k => v.ofRow r i k && v.other r i k) = false from by have h := HSt.out false false (by unfold VD.ofRow; rw [decide_eq_false (by have := beq_eq_false_iff_ne.1 hq1; omega)]; simp) (fun h => by cases h); simpa using h)
              clear HSt
              go_wp2_with fail
              go_roundg ((v.S i).e.n - k)
              case measure => have := Hg2.out; omega
              case rel => exact ⟨k + 1, N, by omega, by omega, by go_num, rfl, HE.out.1.symm, HE.out.2, HY.out⟩
            · have z1 : (v.S i).e.r = r.pr := by have := beq_iff_eq.1 hq1; omega
              rw [z1] at B_X
              have Hz1 := Lib.hid z1
              clear z1 hq1
              rcases hq2 : (((v.O i).1 k : Int) == (r.oa : Int)) with _ | _
              · have hq2n : (((v.O i).1 k : Int) != (r.oa : Int)) = true := by simp only [bne, hq2]; rfl
                have d1 := cell_at B_X 1 rfl
                have d3 := cell_at B_X 3 rfl
                have d15 := cell_at B_X 15 rfl
                have lX := hid_lt B_X
                have r0 := cell_at B_R 0 rfl
                have r1 := cell_at B_R 1 rfl
                have r2 := cell_at B_R 2 rfl
                have r3 := cell_at B_R 3 rfl
                have r4 := cell_at B_R 4 rfl
                have r5 := cell_at B_R 5 rfl
                have r6 := cell_at B_R 6 rfl
                have lR := hid_lt B_R
                go_upto_region 9 with fail
                go_quiet (fail)
                generalize hW : World.drewN wr _ = kw1
                have hHeld : NoW wr kw1 := by rw [← hW]; exact (Fp.refl _ _).drewN _
                clear hW
                replace HN := hid_now HN hHeld
                replace HX := hid_now HX hHeld
                replace HY := hid_now HY hHeld
                clear lX lR d1 d3 d15 r0 r1 r2 r3 r4 r5 r6
                clear hHeld lhb h0 h1 h2 h3
                have HE := Lib.hid (show N0 + cntR (k + 1) (v.ofRow r i) = N ∧ anyR (k + 1) (fun k => v.ofRow r i k && v.other r i k) = false from by have h := HSt.out false false (by unfold VD.ofRow; have := beq_eq_false_iff_ne.1 hq2; have h9 : (v.O i).1 k ≠ r.oa := (by omega); simp [h9]) (fun h => by cases h); simpa using h)
                clear HSt
                go_wp2_with fail
                go_roundg ((v.S i).e.n - k)
                case measure => have := Hg2.out; omega
                case rel => exact ⟨k + 1, N, by omega, by omega, by go_num, rfl, HE.out.1.symm, HE.out.2, HY.out⟩
              · have z2 : (v.O i).1 k = r.oa := by have := beq_iff_eq.1 hq2; omega
                rw [z2] at h0
                have Hz2 := Lib.hid z2
                clear z2 hq2
                rcases hq3 : (((v.O i).2.1 k : Int) == (r.op : Int)) with _ | _
                · have hq3n : (((v.O i).2.1 k : Int) != (r.op : Int)) = true := by simp only [bne, hq3]; rfl
                  have d1 := cell_at B_X 1 rfl
                  have d3 := cell_at B_X 3 rfl
                  have d15 := cell_at B_X 15 rfl
                  have lX := hid_lt B_X
                  have r0 := cell_at B_R 0 rfl
                  have r1 := cell_at B_R 1 rfl
                  have r2 := cell_at B_R 2 rfl
                  have r3 := cell_at B_R 3 rfl
                  have r4 := cell_at B_R 4 rfl
                  have r5 := cell_at B_R 5 rfl
                  have r6 := cell_at B_R 6 rfl
                  have lR := hid_lt B_R
                  go_upto_region 9 with fail
                  go_quiet (fail)
                  generalize hW : World.drewN wr _ = kw1
                  have hHeld : NoW wr kw1 := by rw [← hW]; exact (Fp.refl _ _).drewN _
                  clear hW
                  replace HN := hid_now HN hHeld
                  replace HX := hid_now HX hHeld
                  replace HY := hid_now HY hHeld
                  clear lX lR d1 d3 d15 r0 r1 r2 r3 r4 r5 r6
                  clear hHeld lhb h0 h1 h2 h3
                  have HE := Lib.hid (show N0 + cntR (k + 1) (v.ofRow r i) = N ∧ anyR (k + 1) (fun k => v.ofRow r i k && v.other r i k) = false from by have h := HSt.out false false (by unfold VD.ofRow; have := beq_eq_false_iff_ne.1 hq3; have h9 : (v.O i).2.1 k ≠ r.op := (by omega); simp [h9]) (fun h => by cases h); simpa using h)
                  clear HSt
                  go_wp2_with fail
                  go_roundg ((v.S i).e.n - k)
                  case measure => have := Hg2.out; omega
                  case rel => exact ⟨k + 1, N, by omega, by omega, by go_num, rfl, HE.out.1.symm, HE.out.2, HY.out⟩
                · have z3 : (v.O i).2.1 k = r.op := by have := beq_iff_eq.1 hq3; omega
                  rw [z3] at h1
                  have Hz3 := Lib.hid z3
                  clear z3 hq3
                  have HP1 := Lib.hid (show v.ofRow r i k = true from by unfold VD.ofRow; rw [HPt.out, Hz1.out, Hz2.out, Hz3.out]; simp)
                  have d1 := cell_at B_X 1 rfl
                  have d3 := cell_at B_X 3 rfl
                  have d15 := cell_at B_X 15 rfl
                  have lX := hid_lt B_X
                  have r0 := cell_at B_R 0 rfl
                  have r1 := cell_at B_R 1 rfl
                  have r2 := cell_at B_R 2 rfl
                  have r3 := cell_at B_R 3 rfl
                  have r4 := cell_at B_R 4 rfl
                  have r5 := cell_at B_R 5 rfl
                  have r6 := cell_at B_R 6 rfl
                  have lR := hid_lt B_R
                  go_upto_region 9 with fail
                  go_quiet (fail)
                  generalize hW : World.drewN wr _ = kw1
                  have hHeld : NoW wr kw1 := by rw [← hW]; exact (Fp.refl _ _).drewN _
                  clear hW
                  replace HN := hid_now HN hHeld
                  replace HX := hid_now HX hHeld
                  replace HY := hid_now HY hHeld
                  clear lX lR d1 d3 d15 r0 r1 r2 r3 r4 r5 r6
                  replace h0 := (hHeld.cell (p := ⟨hb, ho + k * 4, none⟩) lhb id).trans h0
                  replace h1 := (hHeld.cell (p := ⟨hb, ho + k * 4 + 1, none⟩) lhb id).trans h1
                  replace h2 := (hHeld.cell (p := ⟨hb, ho + k * 4 + 2, none⟩) lhb id).trans h2
                  replace h3 := (hHeld.cell (p := ⟨hb, ho + k * 4 + 3, none⟩) lhb id).trans h3
                  replace lhb := Nat.lt_of_lt_of_le lhb hHeld.size
                  replace B_X := hid_blk B_X hHeld
                  replace B_R := hid_blk B_R hHeld
                  clear hHeld
                  rcases hq4 : (((v.O i).2.2.1 k : Int) == (r.ia : Int)) with _ | _
                  · have hq4n : (((v.O i).2.2.1 k : Int) != (r.ia : Int)) = true := by simp only [bne, hq4]; rfl
                    obtain rfl : res = true := HR.out.trans (by have h9 : v.oRow r v.ns = true := anyR_yes hlt1 (anyR_yes hlt3 (by simp only [HP1.out]; unfold VD.other; have := beq_eq_false_iff_ne.1 hq4; have h9 : (v.O i).2.2.1 k ≠ r.ia := (by omega); simp [h9])); rw [h9]; rfl)
                    have d1 := cell_at B_X 1 rfl
                    have d3 := cell_at B_X 3 rfl
                    have d15 := cell_at B_X 15 rfl
                    have lX := hid_lt B_X
                    have r0 := cell_at B_R 0 rfl
                    have r1 := cell_at B_R 1 rfl
                    have r2 := cell_at B_R 2 rfl
                    have r3 := cell_at B_R 3 rfl
                    have r4 := cell_at B_R 4 rfl
                    have r5 := cell_at B_R 5 rfl
                    have r6 := cell_at B_R 6 rfl
                    have lR := hid_lt B_R
                    go_upto_region 10 with fail
                    go_quiet (fail)
                    generalize hW : World.drewN kw1 _ = mw1
                    have hHeld : NoW kw1 mw1 := by rw [← hW]; exact (Fp.refl _ _).drewN _
                    clear hW
                    replace HN := hid_now HN hHeld
                    replace HX := hid_now HX hHeld
                    replace HY := hid_now HY hHeld
                    clear lX lR d1 d3 d15 r0 r1 r2 r3 r4 r5 r6
                    clear hHeld lhb h0 h1 h2 h3
                    go_wp2_with fail
                    go_ret
                    exact ⟨rfl, HN.out⟩
                  · have z4 : (v.O i).2.2.1 k = r.ia := by have := beq_iff_eq.1 hq4; omega
                    rw [z4] at h2
                    have Hz4 := Lib.hid z4
                    clear z4 hq4
                    rcases hq5 : (((v.O i).2.2.2 k : Int) == (r.ip : Int)) with _ | _
                    · have hq5n : (((v.O i).2.2.2 k : Int) != (r.ip : Int)) = true := by simp only [bne, hq5]; rfl
                      obtain rfl : res = true := HR.out.trans (by have h9 : v.oRow r v.ns = true := anyR_yes hlt1 (anyR_yes hlt3 (by simp only [HP1.out]; unfold VD.other; have := beq_eq_false_iff_ne.1 hq5; have h9 : (v.O i).2.2.2 k ≠ r.ip := (by omega); simp [h9])); rw [h9]; rfl)
                      have d1 := cell_at B_X 1 rfl
                      have d3 := cell_at B_X 3 rfl
                      have d15 := cell_at B_X 15 rfl
                      have lX := hid_lt B_X
                      have r0 := cell_at B_R 0 rfl
                      have r1 := cell_at B_R 1 rfl
                      have r2 := cell_at B_R 2 rfl
                      have r3 := cell_at B_R 3 rfl
                      have r4 := cell_at B_R 4 rfl
                      have r5 := cell_at B_R 5 rfl
                      have r6 := cell_at B_R 6 rfl
                      have lR := hid_lt B_R
                      go_upto_region 10 with fail
                      go_quiet (fail)
                      generalize hW : World.drewN kw1 _ = mw1
                      have hHeld : NoW kw1 mw1 := by rw [← hW]; exact (Fp.refl _ _).drewN _
                      clear hW
                      replace HN := hid_now HN hHeld
                      replace HX := hid_now HX hHeld
                      replace HY := hid_now HY hHeld
                      clear lX lR d1 d3 d15 r0 r1 r2 r3 r4 r5 r6
                      clear hHeld lhb h0 h1 h2 h3
                      go_wp2_with fail
                      go_ret
                      exact ⟨rfl, HN.out⟩
                    · have z5 : (v.O i).2.2.2 k = r.ip := by have := beq_iff_eq.1 hq5; omega
                      rw [z5] at h3
                      have Hz5 := Lib.hid z5
                      clear z5 hq5
                      have HE := Lib.hid (show N0 + cntR (k + 1) (v.ofRow r i) = N + 1 ∧ anyR (k + 1) (fun k => v.ofRow r i k && v.other r i k) = false from by have h := HSt.out true false HP1.out (fun _ => by unfold VD.other; rw [Hz4.out, Hz5.out]; simp); simpa using h)
                      clear HSt
                      have d1 := cell_at B_X 1 rfl
                      have d3 := cell_at B_X 3 rfl
                      have d15 := cell_at B_X 15 rfl
                      have lX := hid_lt B_X
                      have r0 := cell_at B_R 0 rfl
                      have r1 := cell_at B_R 1 rfl
                      have r2 := cell_at B_R 2 rfl
                      have r3 := cell_at B_R 3 rfl
                      have r4 := cell_at B_R 4 rfl
                      have r5 := cell_at B_R 5 rfl
                      have r6 := cell_at B_R 6 rfl
                      have lR := hid_lt B_R
                      go_upto_region 10 with fail
                      go_quiet (fail)
                      generalize hW : World.drewN kw1 _ = mw1
                      have hHeld : NoW kw1 mw1 := by rw [← hW]; exact (Fp.refl _ _).drewN _
                      clear hW
                      replace HN := hid_now HN hHeld
                      replace HX := hid_now HX hHeld
                      replace HY := hid_now HY hHeld
                      clear lX lR d1 d3 d15 r0 r1 r2 r3 r4 r5 r6
                      clear hHeld lhb h0 h1 h2 h3
                      go_wp2_with fail
                      go_roundg ((v.S i).e.n - k)
                      case measure => have := Hg2.out; omega
                      case rel => exact ⟨k + 1, N + 1, by omega, by omega, by go_num, by go_num, HE.out.1.symm, HE.out.2, HY.out⟩
        · obtain rfl : k = (v.S i).e.n := by omega
          have pk3 : decide (((v.S i).e.n : Int) < ((v.S i).e.n : Int)) = false := decide_eq_false (by omega)
          have HA4 := Lib.hid (show N = v.nRow r (i + 1) from by rw [HA3.out, HA.out]; rfl)
          have HB4 := Lib.hid (show v.oRow r (i + 1) = false from anyR_false HB.out HB3.out)
          have d15 := cell_at B_X 15 rfl
          have lX := hid_lt B_X
          go_wp2_with fail
          go_roundg (v.ns - i)
          case measure => have := Hg.out; omega
          case rel => exact ⟨i + 1, N, by omega, by omega, by go_num, rfl, HA4.out, HB4.out, HX.out⟩
    · obtain rfl : i = v.ns := by omega
      have pk : decide ((v.ns : Int) < (v.ns : Int)) = false := decide_eq_false (by omega)
      have c1 := cell_at B_V 1 rfl
      have lV := hid_lt B_V
      have r5 := cell_at B_R 5 rfl
      have r6 := cell_at B_R 6 rfl
      rcases hq1 : ((N0 : Int) == r.live) with _ | _
      · have hq1n : ((N0 : Int) != r.live) = true := by simp only [bne, hq1]; rfl
        obtain rfl : res = true := HR.out.trans (by rw [HB.out, ← HA.out]; have := beq_eq_false_iff_ne.1 hq1; simp [this])
        go_wp2_with fail
        go_ret
        exact ⟨rfl, HN.out⟩
      · have hq1n : ((N0 : Int) != r.live) = false := by simp only [bne, hq1]; rfl
        obtain rfl : res = decide (r.held < 0) := HR.out.trans (by rw [HB.out, ← HA.out]; have := beq_iff_eq.1 hq1; simp [this])
        go_wp2_with fail
        go_ret
        exact ⟨rfl, HN.out⟩
end Go.Proofs.YtcimbbllefkdlaaGreatDoor

namespace Go.Proofs.YtcimbbllefkdlaaGreatDoor
set_option linter.unusedVariables false
set_option linter.unusedSimpArgs false
open Go.RowKit Go.Lib Go.Sort
set_option maxHeartbeats 8000000 in
set_option maxRecDepth 100000 in
theorem rlacks_ok (v : VD) (sa ca pa qa : Option Addr) (sc cc pc qc : Nat) (hs : Nat → Int) (hg : Nat → Nat) (n : Nat) (hlt1 : n < v.ns) (hnp : v.np ≤ 100) (hhn : ∀ i, (v.S i).e.n ≤ 100) (w0 W : World) (hS : AtC w0 sa v.ns 18 (fun i => (v.S i).cs ++ [.int .i64 (hs i), .int .u32 (hg i)])) (hP : AtC w0 pa v.np 7 (fun i => (v.P i).cs)) (hH2 : ∀ i, i < v.ns → HoldsIn w0 (v.S i).e.ad (v.S i).e.n (holdsV (v.O i).1 (v.O i).2.1 (v.O i).2.2.1 (v.O i).2.2.2 (v.S i).e.n)) (hW0 : NoW w0 W) :
    Calls Tryz.prog 24 #[.agg #[.int .i64 v.now, .slice sa v.ns sc, .slice ca v.nc cc, .slice pa v.np pc, .slice qa v.nq qc, .int .i64 v.free, .int .i64 v.live, .int .i64 v.gone], .int .i64 (n : Int)] W (Ret1 (.bool (v.f4b n)) W) := by
  have HW0 := Lib.hid hW0
  clear hW0
  have HS := Lib.hid hS
  have HP := Lib.hid hP
  have HHi := Lib.hid (hH2 n hlt1)
  have HNi := Lib.hid (hhn n)
  clear hS hP hH2 hhn
  obtain ⟨res, hr⟩ : ∃ b, b = v.f4b n := ⟨_, rfl⟩
  rw [← hr]
  have HR := Lib.hid hr
  clear hr
  go_enter Tryz.func24, Tryz.ntmps24
  have HN := Lib.hid (Fp.refl (fun _ => False) W)
  go_upto_region 1 with fail
  refine wp_gen (fun Vw hW => ?_)
  have hp := new_now hW
  have hB := new_blk hW
  clear hW
  replace HN := hid_now HN hp
  obtain ⟨gV, hgV⟩ : ∃ gV, gV = W.heap.size := ⟨_, rfl⟩
  rw [← hgV] at hB ⊢
  have B_V := hB
  clear hB hp hgV
  obtain ⟨b1, o1, hs1, lb1, xc⟩ := (HS.out.low (HW0.out.trans HN.out (fun _ _ h => h))) n hlt1
  subst hs1
  have XC1 := Lib.hid xc
  clear xc
  have pk1 : decide ((n : Int) < (v.ns : Int)) = true := decide_eq_true (by omega)
  have ck1 : (n : Int) < (v.ns : Int) := by omega
  have c1 := cell_at B_V 1 rfl
  have lV := hid_lt B_V
  go_upto_region 2 with (first | (refine wpList_load_at (o := ⟨some 13, _, _, _, _, _⟩) rfl _ _ rfl b1 (o1 + n * 18) (by kernel_rfl) #[.bool (v.S n).used, .bool (v.S n).put, .bool (v.S n).dead, .int .u8 (v.S n).e.r, .int .u32 (v.S n).e.a, .int .u16 (v.S n).e.p, .int .u32 (v.S n).e.b, .int .u16 (v.S n).e.q, .int .u8 (v.S n).e.r2, .int .u32 (v.S n).e.a2, .int .u16 (v.S n).e.p2, .int .u32 (v.S n).e.b2, .int .u16 (v.S n).e.q2, .int .i64 (v.S n).e.st, .int .i64 (v.S n).e.dl, .slice (v.S n).e.ad (v.S n).e.n (v.S n).e.c, .int .i64 (hs n), .int .u32 (hg n)] _ XC1.out Tryz.underlying73 rfl (by kernel_rfl) ?_) | (refine wpList_store_new (o := ⟨none, .store 73 _ _, _, _, _, _⟩) rfl _ _ _ rfl rfl _ #[.bool (v.S n).used, .bool (v.S n).put, .bool (v.S n).dead, .int .u8 (v.S n).e.r, .int .u32 (v.S n).e.a, .int .u16 (v.S n).e.p, .int .u32 (v.S n).e.b, .int .u16 (v.S n).e.q, .int .u8 (v.S n).e.r2, .int .u32 (v.S n).e.a2, .int .u16 (v.S n).e.p2, .int .u32 (v.S n).e.b2, .int .u16 (v.S n).e.q2, .int .i64 (v.S n).e.st, .int .i64 (v.S n).e.dl, .slice (v.S n).e.ad (v.S n).e.n (v.S n).e.c, .int .i64 (hs n), .int .u32 (hg n)] (by kernel_rfl) (by kernel_rfl) (by kernel_rfl) (by kernel_rfl) (by kernel_rfl) ?_))
  clear c1 lV lb1 XC1
  refine wp_gen (fun Xw hW => ?_)
  have hp := new_now hW
  have hB := new_blk hW
  clear hW
  replace HN := hid_now HN hp
  replace B_V := hid_blk B_V hp
  obtain ⟨gX, hgX⟩ : ∃ gX, gX = Vw.heap.size := ⟨_, rfl⟩
  rw [← hgX] at hB ⊢
  have B_X := hB
  clear hB hp hgX
  obtain ⟨pt, hpt⟩ : ∃ b, (v.S n).put = b := ⟨_, rfl⟩
  have HPt := Lib.hid hpt
  rw [hpt] at B_X
  clear hpt
  have d1 := cell_at B_X 1 rfl
  have d15 := cell_at B_X 15 rfl
  have lX := hid_lt B_X
  go_wp2_with fail
  clear d1 d15 lX
  have HX := Lib.hid (Fp.refl (fun _ => False) Xw)
  go_loopg [6] ((v.S n).e.n + 1) (fun gg iv wx => ∃ (i : Nat), i ≤ (v.S n).e.n ∧ gg = (v.S n).e.n + 1 - i ∧ iv = .int .i64 (i : Int) ∧ anyR i (fun k => (v.S n).put && !v.resv (v.S n).e.r ((v.O n).1 k) ((v.O n).2.1 k)) = false ∧ NoW Xw wx)
  case atStart => exact ⟨0, by omega, by omega, rfl, rfl, HX.out⟩
  case round =>
    clear HX
    obtain ⟨i, hi, hg, rfl, hA, hN⟩ := hrel
    have Hg := Lib.hid hg
    replace HN := hid_now HN hN
    have HX := Lib.hid hN
    have HA := Lib.hid hA
    replace B_V := hid_blk B_V hN
    replace B_X := hid_blk B_X hN
    have bn : (v.S n).e.n ≤ 100 := HNi.out
    clear hg hN hA
    by_cases hlt3 : i < (v.S n).e.n
    · skip
      have pk3 : decide ((i : Int) < ((v.S n).e.n : Int)) = true := decide_eq_true (by omega)
      have ck3 : (i : Int) < ((v.S n).e.n : Int) := by omega
      rcases pt with _ | _
      · obtain rfl : res = false := HR.out.trans (anyR_no (fun k hk => by simp only [HPt.out]; rfl))
        have d1 := cell_at B_X 1 rfl
        have d15 := cell_at B_X 15 rfl
        have lX := hid_lt B_X
        go_wp2_with fail
        go_ret
        exact ⟨rfl, HN.out⟩
      · skip
        have d1 := cell_at B_X 1 rfl
        have d15 := cell_at B_X 15 rfl
        have lX := hid_lt B_X
        have c3 := cell_at B_V 3 rfl
        have lV := hid_lt B_V
        go_wp2_with fail
        clear d1 d15 lX c3 lV
        have HY := Lib.hid (Fp.refl (fun _ => False) wr)
        go_loopg [8, 7] (v.np + 1) (fun gg2 kv bv wx => ∃ (k : Nat) (b : Bool), k ≤ v.np ∧ gg2 = v.np + 1 - k ∧ kv = .int .i64 (k : Int) ∧ bv = .bool b ∧ b = anyR k (fun k => decide ((v.P k).pr = (v.S n).e.r) && decide ((v.P k).oa = (v.O n).1 i ∧ (v.P k).op = (v.O n).2.1 i)) ∧ NoW wr wx)
        case atStart => exact ⟨0, false, by omega, by omega, rfl, rfl, rfl, HY.out⟩
        case round =>
          clear HY
          obtain ⟨k, bb, hk, hg2, rfl, rfl, hB3, hN⟩ := hrel
          have Hg2 := Lib.hid hg2
          replace HN := hid_now HN hN
          replace HX := hid_now HX hN
          have HY := Lib.hid hN
          have HB3 := Lib.hid hB3
          replace B_V := hid_blk B_V hN
          replace B_X := hid_blk B_X hN
          clear hg2 hN hB3
          by_cases hlt2 : k < v.np
          · skip
            obtain ⟨b2, o2, hs2, lb2, xc⟩ := (HP.out.low (HW0.out.trans HN.out (fun _ _ h => h))) k hlt2
            subst hs2
            have y0 : wr.cell? ⟨b2, o2 + k * 7, none⟩ = some (.int .u8 (v.P k).pr) := xc 0 _ rfl
            have y1 : wr.cell? ⟨b2, o2 + k * 7 + 1, none⟩ = some (.int .u32 (v.P k).oa) := xc 1 _ rfl
            have y2 : wr.cell? ⟨b2, o2 + k * 7 + 2, none⟩ = some (.int .u16 (v.P k).op) := xc 2 _ rfl
            have y3 : wr.cell? ⟨b2, o2 + k * 7 + 3, none⟩ = some (.int .u32 (v.P k).ia) := xc 3 _ rfl
            have y4 : wr.cell? ⟨b2, o2 + k * 7 + 4, none⟩ = some (.int .u16 (v.P k).ip) := xc 4 _ rfl
            have y5 : wr.cell? ⟨b2, o2 + k * 7 + 5, none⟩ = some (.int .i64 (v.P k).live) := xc 5 _ rfl
            have y6 : wr.cell? ⟨b2, o2 + k * 7 + 6, none⟩ = some (.int .i64 (v.P k).held) := xc 6 _ rfl
            clear xc
            have pk2 : decide ((k : Int) < (v.np : Int)) = true := decide_eq_true (by omega)
            have ck2 : (k : Int) < (v.np : Int) := by omega
            clear y3 y4 y5 y6
            obtain ⟨hb, ho, had, hh⟩ := HHi.out (by omega)
            have hhr := hh.low (HW0.out.trans HN.out (fun _ _ h => h))
            rw [had] at B_X
            have h0 : wr.cell? ⟨hb, ho + i * 4, none⟩ = some (.int .u32 ((v.O n).1 i)) := hhr.cell (i * 4 + 0) _ (holdsV_get (v.O n).1 (v.O n).2.1 (v.O n).2.2.1 (v.O n).2.2.2 (v.S n).e.n i 0 hlt3 (by omega))
            have h1 : wr.cell? ⟨hb, ho + i * 4 + 1, none⟩ = some (.int .u16 ((v.O n).2.1 i)) := hhr.cell (i * 4 + 1) _ (holdsV_get (v.O n).1 (v.O n).2.1 (v.O n).2.2.1 (v.O n).2.2.2 (v.S n).e.n i 1 hlt3 (by omega))
            have lhb : hb < wr.heap.size := hhr.lt
            clear hh hhr had
            have hst : ∀ z, ((bb || (decide ((v.P k).pr = (v.S n).e.r) && decide ((v.P k).oa = (v.O n).1 i ∧ (v.P k).op = (v.O n).2.1 i))) = z) → z = anyR (k + 1) (fun k => decide ((v.P k).pr = (v.S n).e.r) && decide ((v.P k).oa = (v.O n).1 i ∧ (v.P k).op = (v.O n).2.1 i)) := fun z hz => by rw [← hz, anyR_succ, HB3.out]
            have HSt := Lib.hid hst
            clear hst
            cases bb with
            | true =>
              have HE := Lib.hid (HSt.out true rfl)
              clear HSt
              have d3 := cell_at B_X 3 rfl
              have d15 := cell_at B_X 15 rfl
              have lX := hid_lt B_X
              have c3 := cell_at B_V 3 rfl
              have lV := hid_lt B_V
              go_upto_region 9 with fail
              go_quiet (fail)
              generalize hW : World.drewN wr _ = kw1
              have hHeld : NoW wr kw1 := by rw [← hW]; exact (Fp.refl _ _).drewN _
              clear hW
              replace HN := hid_now HN hHeld
              replace HX := hid_now HX hHeld
              replace HY := hid_now HY hHeld
              clear hHeld
              clear d3 d15 lX c3 lV y0 y1 y2 lb2 h0 h1 lhb
              go_wp2_with fail
              go_roundg (v.np - k)
              case measure => have := Hg2.out; omega
              case rel => exact ⟨k + 1, true, by omega, by omega, by go_num, rfl, HE.out, HY.out⟩
            | false =>
              rcases hq1 : (((v.P k).pr : Int) == ((v.S n).e.r : Int)) with _ | _
              · have HE := Lib.hid (HSt.out false (by rw [decide_eq_false (by have := beq_eq_false_iff_ne.1 hq1; omega)]; rfl))
                clear HSt
                have d3 := cell_at B_X 3 rfl
                have d15 := cell_at B_X 15 rfl
                have lX := hid_lt B_X
                have c3 := cell_at B_V 3 rfl
                have lV := hid_lt B_V
                go_upto_region 9 with fail
                go_quiet (fail)
                generalize hW : World.drewN wr _ = kw1
                have hHeld : NoW wr kw1 := by rw [← hW]; exact (Fp.refl _ _).drewN _
                clear hW
                replace HN := hid_now HN hHeld
                replace HX := hid_now HX hHeld
                replace HY := hid_now HY hHeld
                clear hHeld
                clear d3 d15 lX c3 lV y0 y1 y2 lb2 h0 h1 lhb
                go_wp2_with fail
                go_roundg (v.np - k)
                case measure => have := Hg2.out; omega
                case rel => exact ⟨k + 1, false, by omega, by omega, by go_num, rfl, HE.out, HY.out⟩
              · have z1 : (v.P k).pr = (v.S n).e.r := by have := beq_iff_eq.1 hq1; omega
                rw [z1] at y0
                have Hz1 := Lib.hid z1
                clear z1 hq1
                rcases hq2 : (((v.P k).oa : Int) == ((v.O n).1 i : Int)) with _ | _
                · have HE := Lib.hid (HSt.out false (by have := beq_eq_false_iff_ne.1 hq2; have h9 : (v.P k).oa ≠ (v.O n).1 i := (by omega); simp [h9]))
                  clear HSt
                  have d3 := cell_at B_X 3 rfl
                  have d15 := cell_at B_X 15 rfl
                  have lX := hid_lt B_X
                  have c3 := cell_at B_V 3 rfl
                  have lV := hid_lt B_V
                  go_upto_region 9 with fail
                  go_quiet (fail)
                  generalize hW : World.drewN wr _ = kw1
                  have hHeld : NoW wr kw1 := by rw [← hW]; exact (Fp.refl _ _).drewN _
                  clear hW
                  replace HN := hid_now HN hHeld
                  replace HX := hid_now HX hHeld
                  replace HY := hid_now HY hHeld
                  clear hHeld
                  clear d3 d15 lX c3 lV y0 y1 y2 lb2 h0 h1 lhb
                  go_wp2_with fail
                  go_roundg (v.np - k)
                  case measure => have := Hg2.out; omega
                  case rel => exact ⟨k + 1, false, by omega, by omega, by go_num, rfl, HE.out, HY.out⟩
                · have z2 : (v.P k).oa = (v.O n).1 i := by have := beq_iff_eq.1 hq2; omega
                  rw [z2] at y1
                  have Hz2 := Lib.hid z2
                  clear z2 hq2
                  rcases hq3 : (((v.P k).op : Int) == ((v.O n).2.1 i : Int)) with _ | _
                  · have HE := Lib.hid (HSt.out false (by have := beq_eq_false_iff_ne.1 hq3; have h9 : (v.P k).op ≠ (v.O n).2.1 i := (by omega); simp [h9]))
                    clear HSt
                    have d3 := cell_at B_X 3 rfl
                    have d15 := cell_at B_X 15 rfl
                    have lX := hid_lt B_X
                    have c3 := cell_at B_V 3 rfl
                    have lV := hid_lt B_V
                    go_upto_region 9 with fail
                    go_quiet (fail)
                    generalize hW : World.drewN wr _ = kw1
                    have hHeld : NoW wr kw1 := by rw [← hW]; exact (Fp.refl _ _).drewN _
                    clear hW
                    replace HN := hid_now HN hHeld
                    replace HX := hid_now HX hHeld
                    replace HY := hid_now HY hHeld
                    clear hHeld
                    clear d3 d15 lX c3 lV y0 y1 y2 lb2 h0 h1 lhb
                    go_wp2_with fail
                    go_roundg (v.np - k)
                    case measure => have := Hg2.out; omega
                    case rel => exact ⟨k + 1, false, by omega, by omega, by go_num, rfl, HE.out, HY.out⟩
                  · have z3 : (v.P k).op = (v.O n).2.1 i := by have := beq_iff_eq.1 hq3; omega
                    rw [z3] at y2
                    have Hz3 := Lib.hid z3
                    clear z3 hq3
                    have HE := Lib.hid (HSt.out true (by rw [Hz1.out, Hz2.out, Hz3.out]; simp))
                    clear HSt
                    have d3 := cell_at B_X 3 rfl
                    have d15 := cell_at B_X 15 rfl
                    have lX := hid_lt B_X
                    have c3 := cell_at B_V 3 rfl
                    have lV := hid_lt B_V
                    go_upto_region 9 with fail
                    go_quiet (fail)
                    generalize hW : World.drewN wr _ = kw1
                    have hHeld : NoW wr kw1 := by rw [← hW]; exact (Fp.refl _ _).drewN _
                    clear hW
                    replace HN := hid_now HN hHeld
                    replace HX := hid_now HX hHeld
                    replace HY := hid_now HY hHeld
                    clear hHeld
                    clear d3 d15 lX c3 lV y0 y1 y2 lb2 h0 h1 lhb
                    go_wp2_with fail
                    go_roundg (v.np - k)
                    case measure => have := Hg2.out; omega
                    case rel => exact ⟨k + 1, true, by omega, by omega, by go_num, rfl, HE.out, HY.out⟩
          · obtain rfl : k = v.np := by omega
            have pk2 : decide ((v.np : Int) < (v.np : Int)) = false := decide_eq_false (by omega)
            have c3 := cell_at B_V 3 rfl
            have lV := hid_lt B_V
            have hRs : v.resv (v.S n).e.r ((v.O n).1 i) ((v.O n).2.1 i) = bb := HB3.out.symm
            have HRs := Lib.hid hRs
            clear hRs
            cases bb with
            | false =>
              obtain rfl : res = true := HR.out.trans (anyR_yes hlt3 (by simp only [HPt.out, HRs.out]; rfl))
              go_wp2_with fail
              go_ret
              exact ⟨rfl, HN.out⟩
            | true =>
              have HE := Lib.hid (show anyR (i + 1) (fun k => (v.S n).put && !v.resv (v.S n).e.r ((v.O n).1 k) ((v.O n).2.1 k)) = false from anyR_false HA.out (by simp only [HRs.out]; simp))
              go_wp2_with fail
              go_roundg ((v.S n).e.n - i)
              case measure => have := Hg.out; omega
              case rel => exact ⟨i + 1, by omega, by omega, by go_num, HE.out, HX.out⟩
    · obtain rfl : i = (v.S n).e.n := by omega
      have pk3 : decide (((v.S n).e.n : Int) < ((v.S n).e.n : Int)) = false := decide_eq_false (by omega)
      obtain rfl : res = false := HR.out.trans HA.out
      have d1 := cell_at B_X 1 rfl
      have d15 := cell_at B_X 15 rfl
      have lX := hid_lt B_X
      go_wp2_with fail
      go_ret
      exact ⟨rfl, HN.out⟩
end Go.Proofs.YtcimbbllefkdlaaGreatDoor
