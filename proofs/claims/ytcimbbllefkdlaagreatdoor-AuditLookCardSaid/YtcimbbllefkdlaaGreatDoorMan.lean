/- Texts of this proof, merged: AuH. -/
import Derived.Test.YtcimbbllefkdlaaGreatDoorMal
import Derived.Test.YtcimbbllefkdlaaGreatDoorMaa
import Derived.Test.YtcimbbllefkdlaaGreatDoorMab
import Derived.Test.YtcimbbllefkdlaaGreatDoorMac
import Derived.Test.YtcimbbllefkdlaaGreatDoorMad
import Derived.Test.YtcimbbllefkdlaaGreatDoorMae
import Derived.Test.YtcimbbllefkdlaaGreatDoorMaf
import Derived.Test.YtcimbbllefkdlaaGreatDoorMag
import Derived.Test.YtcimbbllefkdlaaGreatDoorMah
import Derived.Test.YtcimbbllefkdlaaGreatDoorMai
import Derived.Test.YtcimbbllefkdlaaGreatDoorMaj
import Derived.Test.YtcimbbllefkdlaaGreatDoorMak
import Derived.Test.YtcimbbllefkdlaaGreatDoorMam
namespace Go.Proofs.YtcimbbllefkdlaaGreatDoor
set_option linter.unusedVariables false
set_option linter.unusedSimpArgs false
open Go.RowKit Go.Lib Go.Sort
/-- The chain of a tuple, told by the program. -/
def HashOk : Prop := ∀ (r a p b q : Nat) (n : Nat) (W : World), r < 256 → a < 4294967296 → p < 65536 → b < 4294967296 → q < 65536 → n ≤ 100 → Calls Tryz.prog 41 #[.agg #[.int .u8 r, .int .u32 a, .int .u16 p, .int .u32 b, .int .u16 q], .int .i64 (n : Int)] W (Ret1 (.int .i64 (hashOf r a p b q n)) W)
theorem anyR_false {n : Nat} {p : Nat → Bool} (h : anyR n p = false) (hn : p n = false) : anyR (n + 1) p = false := by rw [anyR_succ, h, hn]; rfl
theorem anyR_true {n : Nat} {p : Nat → Bool} (h : anyR n p = true) : anyR (n + 1) p = true := by rw [anyR_succ, h]; rfl
theorem anyR_last {n : Nat} {p : Nat → Bool} (h : p n = true) : anyR (n + 1) p = true := by rw [anyR_succ, h]; simp
set_option maxHeartbeats 8000000 in
set_option maxRecDepth 100000 in
theorem links_ok (v : VD) (sa ca pa qa : Option Addr) (sc cc pc qc : Nat) (cad : Nat → Option Addr) (cc' : Nat → Nat) (g : Nat) (fs : List (Int × Int)) (hfs : fs.length ≤ 10000) (hn : v.ns ≤ 100) (hnc : v.nc ≤ 100) (hcn : ∀ c, v.cn c ≤ 100) (w0 w : World) (hH : HashOk) (hS : AtC w0 sa v.ns 16 (fun i => (v.S i).cs)) (hok : ∀ i, i < v.ns → (v.S i).e.Ok) (hC : AtC w0 ca v.nc 1 (fun c => [.slice (cad c) (v.cn c) (cc' c)])) (hK : ∀ c, c < v.nc → AtC w0 (cad c) (v.cn c) 3 (fun k => (v.C c k).cs)) (h : AuLk w0 w g [.int .i64 v.now, .slice sa v.ns sc, .slice ca v.nc cc, .slice pa v.np pc, .slice qa v.nq qc, .int .i64 v.free, .int .i64 v.live, .int .i64 v.gone] fs) :
    Calls Tryz.prog 14 #[.pointer (some ⟨g, 0, none⟩)] w fun e w' => e = .returned (.tuple #[]) ∧ AuLk w0 w' g [.int .i64 v.now, .slice sa v.ns sc, .slice ca v.nc cc, .slice pa v.np pc, .slice qa v.nq qc, .int .i64 v.free, .int .i64 v.live, .int .i64 v.gone] ((fs ++ flt 2 0 v.f2 v.nc) ++ flt 2 v.nc v.f2b v.ns) := by
  have HL := Lib.hid h
  have HS := Lib.hid hS
  have HC := Lib.hid hC
  have HK := Lib.hid hK
  have HFs := Lib.hid hfs
  have HH := Lib.hid hH
  have Hok := Lib.hid hok
  have HCn := Lib.hid hcn
  clear h hS hC hK hfs hH hok hcn
  go_enter Tryz.func14, Tryz.ntmps14
  have cg2 := HL.out.cell 2 rfl
  have lg := HL.out.lt
  go_wp2_with fail
  clear cg2 lg
  go_loopg [14] (v.nc + 1) (fun gg iv wx => ∃ (c : Nat), c ≤ v.nc ∧ gg = v.nc + 1 - c ∧ iv = .int .i64 (c : Int) ∧ AuLk w0 wx g [.int .i64 v.now, .slice sa v.ns sc, .slice ca v.nc cc, .slice pa v.np pc, .slice qa v.nq qc, .int .i64 v.free, .int .i64 v.live, .int .i64 v.gone] (fs ++ flt 2 0 v.f2 c))
  case atStart => exact ⟨0, by omega, by omega, rfl, by simpa [flt] using HL.out⟩
  case round =>
    clear HL
    obtain ⟨c, hc, hg, rfl, hL⟩ := hrel
    have Hg := Lib.hid hg
    have HL := Lib.hid hL
    clear hg hL
    by_cases hlt1 : c < v.nc
    · skip
      obtain ⟨b1, o1, hs, lb1, xc⟩ := (HC.out.low HL.out.low) c hlt1
      subst hs
      have x0 : wr.cell? ⟨b1, o1 + c, none⟩ = some (.slice (cad c) (v.cn c) (cc' c)) := by have := xc 0 _ rfl; simpa using this
      clear xc
      have pk1 : decide ((c : Int) < (v.nc : Int)) = true := decide_eq_true (by omega)
      have ck1 : (c : Int) < (v.nc : Int) := by omega
      go_wp2_with fail
      clear x0 lb1
      have HCc := Lib.hid (HK.out c hlt1)
      have HNc := Lib.hid (HCn.out c)
      obtain ⟨ad, had⟩ : ∃ a, a = cad c := ⟨_, rfl⟩
      rw [← had] at HCc ⊢
      clear had
      go_loopg [21, 4] (v.cn c + 1) (fun gg2 kv bv wx => ∃ (k : Nat) (b : Bool), k ≤ v.cn c ∧ gg2 = v.cn c + 1 - k ∧ kv = .int .i64 (k : Int) ∧ bv = .bool b ∧ b = anyR k (v.badL c) ∧ NoW wr wx)
      case atStart => exact ⟨0, false, by omega, by omega, rfl, rfl, rfl, Fp.refl _ _⟩
      case round =>
        obtain ⟨k, bad, hk, hg2, rfl, rfl, hA, hN⟩ := hrel
        have Hg2 := Lib.hid hg2
        have HN := Lib.hid hN
        have HA := Lib.hid hA
        have HL := Lib.hid (HL.out.step hN)
        clear hg2 hN hA
        have bn : v.cn c ≤ 100 := HNc.out
        by_cases hlt2 : k < v.cn c
        · skip
          obtain ⟨b2, o2, hs, lb2, xc⟩ := (HCc.out.low HL.out.low) k hlt2
          subst hs
          have x0 : wr.cell? ⟨b2, o2 + k * 3, none⟩ = some (.int .i64 (v.C c k).slot) := xc 0 _ rfl
          have x1 : wr.cell? ⟨b2, o2 + k * 3 + 1, none⟩ = some (.int .u32 (v.C c k).gen) := xc 1 _ rfl
          have x2 : wr.cell? ⟨b2, o2 + k * 3 + 2, none⟩ = some (.bool (v.C c k).back) := xc 2 _ rfl
          clear xc
          have pk2 : decide ((k : Int) < (v.cn c : Int)) = true := decide_eq_true (by omega)
          have ck2 : (k : Int) < (v.cn c : Int) := by omega
          go_upto_region 7 with fail
          clear x0 x1 x2 lb2
          refine wp_gen (fun yw hW => ?_)
          have hp := new_now hW
          have hB := new_blk hW
          clear hW
          replace HL := Lib.hid (HL.out.step hp)
          replace HN := hid_now HN hp
          obtain ⟨gy, hgy⟩ : ∃ gy, gy = wr.heap.size := ⟨_, rfl⟩
          rw [← hgy] at hB ⊢
          have B_y := hB
          clear hB hp hgy
          obtain ⟨L0, hL0⟩ : ∃ l, l = v.C c k := ⟨_, rfl⟩
          rw [← hL0] at B_y
          obtain ⟨sl, gn, bk⟩ := L0
          have HL0 := Lib.hid hL0
          clear hL0
          dsimp only at B_y ⊢
          cases bad with
          | true =>
            have HE := Lib.hid (show true = anyR (k + 1) (v.badL c) from (anyR_true HA.out.symm).symm)
            have y0 := cell_at B_y 0 rfl
            have y1 := cell_at B_y 1 rfl
            have y2 := cell_at B_y 2 rfl
            have ly := hid_lt B_y
            have cg2 := HL.out.cell 2 rfl
            have lg := HL.out.lt
            refine wp_region_held_drew (S := fun wx => NoW yw wx) (by kernel_rfl) (Fp.drew (Fp.refl _ _)) (fun hHeld0 => ?_)
            refine any_eq hHeld0 (fun z1 hW hHeld => ?_)
            clear hHeld0
            clear hW
            (refine tk 0 (some 25) ?_ ?_ ?_; rotate_left; (focus (intro wS hSw; go_simp; try with_reducible rfl)); (try simp only [Act.put, List.setIfInBounds_toArray, List.set_cons_zero, List.set_cons_succ]))
            (refine tk 1 (some 26) ?_ ?_ ?_; rotate_left; (focus (intro wS hSw; go_simp; try with_reducible rfl)); (try simp only [Act.put, List.setIfInBounds_toArray, List.set_cons_zero, List.set_cons_succ]))
            (refine dk 2 (some 27) ?_; (try simp only [Act.put, List.setIfInBounds_toArray, List.set_cons_zero, List.set_cons_succ]))
            (refine dk 3 (some 28) ?_; (try simp only [Act.put, List.setIfInBounds_toArray, List.set_cons_zero, List.set_cons_succ]))
            (refine dk 4 (some 29) ?_; (try simp only [Act.put, List.setIfInBounds_toArray, List.set_cons_zero, List.set_cons_succ]))
            (refine dk 5 (some 30) ?_; (try simp only [Act.put, List.setIfInBounds_toArray, List.set_cons_zero, List.set_cons_succ]))
            (refine dk 6 (some 31) ?_; (try simp only [Act.put, List.setIfInBounds_toArray, List.set_cons_zero, List.set_cons_succ]))
            (refine dk 7 (some 32) ?_; (try simp only [Act.put, List.setIfInBounds_toArray, List.set_cons_zero, List.set_cons_succ]))
            (refine tk 8 (some 33) ?_ ?_ ?_; rotate_left; (focus (intro wS hSw; go_simp; try with_reducible rfl)); (try simp only [Act.put, List.setIfInBounds_toArray, List.set_cons_zero, List.set_cons_succ]))
            (refine tk 9 (some 34) ?_ ?_ ?_; rotate_left; (focus (intro wS hSw; go_simp; try with_reducible rfl)); (try simp only [Act.put, List.setIfInBounds_toArray, List.set_cons_zero, List.set_cons_succ]))
            (refine dk 10 (some 35) ?_; (try simp only [Act.put, List.setIfInBounds_toArray, List.set_cons_zero, List.set_cons_succ]))
            (refine dk 11 (some 36) ?_; (try simp only [Act.put, List.setIfInBounds_toArray, List.set_cons_zero, List.set_cons_succ]))
            (refine dk 12 (some 37) ?_; (try simp only [Act.put, List.setIfInBounds_toArray, List.set_cons_zero, List.set_cons_succ]))
            (refine dk 13 (some 38) ?_; (try simp only [Act.put, List.setIfInBounds_toArray, List.set_cons_zero, List.set_cons_succ]))
            (refine dk 14 (some 39) ?_; (try simp only [Act.put, List.setIfInBounds_toArray, List.set_cons_zero, List.set_cons_succ]))
            (refine dk 15 (some 40) ?_; (try simp only [Act.put, List.setIfInBounds_toArray, List.set_cons_zero, List.set_cons_succ]))
            (refine dk 16 (some 41) ?_; (try simp only [Act.put, List.setIfInBounds_toArray, List.set_cons_zero, List.set_cons_succ]))
            (refine dk 17 (some 42) ?_; (try simp only [Act.put, List.setIfInBounds_toArray, List.set_cons_zero, List.set_cons_succ]))
            (refine dk 18 (some 43) ?_; (try simp only [Act.put, List.setIfInBounds_toArray, List.set_cons_zero, List.set_cons_succ]))
            (refine dk 19 (some 44) ?_; (try simp only [Act.put, List.setIfInBounds_toArray, List.set_cons_zero, List.set_cons_succ]))
            (refine dk 20 (some 45) ?_; (try simp only [Act.put, List.setIfInBounds_toArray, List.set_cons_zero, List.set_cons_succ]))
            (refine dk 21 (some 46) ?_; (try simp only [Act.put, List.setIfInBounds_toArray, List.set_cons_zero, List.set_cons_succ]))
            (refine tk 22 (some 47) ?_ ?_ ?_; rotate_left; (focus (intro wS hSw; go_simp; try with_reducible rfl)); (try simp only [Act.put, List.setIfInBounds_toArray, List.set_cons_zero, List.set_cons_succ]))
            (refine tk 23 (some 4) ?_ ?_ ?_; rotate_left; (focus (intro wS hSw; go_simp; try with_reducible rfl)); (try simp only [Act.put, List.setIfInBounds_toArray, List.set_cons_zero, List.set_cons_succ]))
            refine wpAnyH_done (by kernel_rfl) ?_ _
            clear y0 y1 y2 ly cg2 lg
            replace HN := hid_now HN hHeld
            clear hHeld
            go_wp2_with fail
            go_roundg (v.cn c - k)
            case measure => have := Hg2.out; omega
            case rel => exact ⟨k + 1, true, by omega, by omega, by go_num, rfl, HE.out, HN.out⟩
          | false =>
            rcases hpu : v.putS sl with _ | _
            · have HPut := Lib.hid hpu
              have HE := Lib.hid (show true = anyR (k + 1) (v.badL c) from (anyR_last (by unfold VD.badL; rw [← HL0.out]; simp only [hpu]; rfl)).symm)
              clear hpu
              have y0 := cell_at B_y 0 rfl
              have y1 := cell_at B_y 1 rfl
              have y2 := cell_at B_y 2 rfl
              have ly := hid_lt B_y
              have cg2 := HL.out.cell 2 rfl
              have lg := HL.out.lt
              refine wp_region_held_drew (S := fun wx => NoW yw wx) (by kernel_rfl) (Fp.drew (Fp.refl _ _)) (fun hHeld0 => ?_)
              refine any_eq hHeld0 (fun z1 hW hHeld => ?_)
              clear hHeld0
              clear hW
              (refine tk 0 (some 25) ?_ ?_ ?_; rotate_left; (focus (intro wS hSw; go_simp; try with_reducible rfl)); (try simp only [Act.put, List.setIfInBounds_toArray, List.set_cons_zero, List.set_cons_succ]))
              (refine tk 1 (some 26) ?_ ?_ ?_; rotate_left; (focus (intro wS hSw; go_simp; try with_reducible rfl)); (try simp only [Act.put, List.setIfInBounds_toArray, List.set_cons_zero, List.set_cons_succ]))
              (refine tk 2 (some 27) ?_ ?_ ?_; rotate_left; (focus (intro wS hSw; go_simp; try with_reducible rfl)); (try simp only [Act.put, List.setIfInBounds_toArray, List.set_cons_zero, List.set_cons_succ]))
              (refine tk 3 (some 28) ?_ ?_ ?_; rotate_left; (focus (intro wS hSw; go_simp; try with_reducible rfl)); (try simp only [Act.put, List.setIfInBounds_toArray, List.set_cons_zero, List.set_cons_succ]))
              (refine tk 4 (some 29) ?_ ?_ ?_; rotate_left; (focus (intro wS hSw; go_simp; try with_reducible rfl)); (try simp only [Act.put, List.setIfInBounds_toArray, List.set_cons_zero, List.set_cons_succ]))
              (refine tk 5 (some 30) ?_ ?_ ?_; rotate_left; (focus (intro wS hSw; (have p0 := (hSw.cell (p := ⟨gy, 0, none⟩) ly id).trans y0); (have p1 := (hSw.cell (p := ⟨gy, 1, none⟩) ly id).trans y1); (have p2 := (hSw.cell (p := ⟨gy, 2, none⟩) ly id).trans y2); go_simp; try with_reducible rfl)); (try simp only [Act.put, List.setIfInBounds_toArray, List.set_cons_zero, List.set_cons_succ]))
              refine wpAnyH_ready (rs := [6]) (by kernel_rfl) (by simp) ?_
              refine AllReadyH.cons rfl (fun K hK => ?_) AllReadyH.nil
              go_simp
              go_at_call 40
              refine (show Calls _ _ _ _ _ from aput_ok v _ _ _ _ _ _ _ _ g _ _ w0 _ HS.out (HL.out.step hHeld)).mono ?_
              rintro e z2 ⟨rfl, hp⟩
              try rw [HPut.out]
              have hn := Fp.trans hHeld hp (fun _ _ h => h.elim)
              refine k_now hK hn ?_
              clear hK K hp hHeld
              have hHeld := hn
              clear hn
              try simp only [Act.put, List.setIfInBounds_toArray, List.set_cons_zero, List.set_cons_succ]
              (refine tk 7 (some 32) ?_ ?_ ?_; rotate_left; (focus (intro wS hSw; go_simp; try with_reducible rfl)); (try simp only [Act.put, List.setIfInBounds_toArray, List.set_cons_zero, List.set_cons_succ]))
              (refine tk 8 (some 33) ?_ ?_ ?_; rotate_left; (focus (intro wS hSw; go_simp; try with_reducible rfl)); (try simp only [Act.put, List.setIfInBounds_toArray, List.set_cons_zero, List.set_cons_succ]))
              (refine tk 9 (some 34) ?_ ?_ ?_; rotate_left; (focus (intro wS hSw; go_simp; try with_reducible rfl)); (try simp only [Act.put, List.setIfInBounds_toArray, List.set_cons_zero, List.set_cons_succ]))
              (refine dk 10 (some 35) ?_; (try simp only [Act.put, List.setIfInBounds_toArray, List.set_cons_zero, List.set_cons_succ]))
              (refine dk 11 (some 36) ?_; (try simp only [Act.put, List.setIfInBounds_toArray, List.set_cons_zero, List.set_cons_succ]))
              (refine dk 12 (some 37) ?_; (try simp only [Act.put, List.setIfInBounds_toArray, List.set_cons_zero, List.set_cons_succ]))
              (refine dk 13 (some 38) ?_; (try simp only [Act.put, List.setIfInBounds_toArray, List.set_cons_zero, List.set_cons_succ]))
              (refine dk 14 (some 39) ?_; (try simp only [Act.put, List.setIfInBounds_toArray, List.set_cons_zero, List.set_cons_succ]))
              (refine dk 15 (some 40) ?_; (try simp only [Act.put, List.setIfInBounds_toArray, List.set_cons_zero, List.set_cons_succ]))
              (refine dk 16 (some 41) ?_; (try simp only [Act.put, List.setIfInBounds_toArray, List.set_cons_zero, List.set_cons_succ]))
              (refine dk 17 (some 42) ?_; (try simp only [Act.put, List.setIfInBounds_toArray, List.set_cons_zero, List.set_cons_succ]))
              (refine dk 18 (some 43) ?_; (try simp only [Act.put, List.setIfInBounds_toArray, List.set_cons_zero, List.set_cons_succ]))
              (refine dk 19 (some 44) ?_; (try simp only [Act.put, List.setIfInBounds_toArray, List.set_cons_zero, List.set_cons_succ]))
              (refine dk 20 (some 45) ?_; (try simp only [Act.put, List.setIfInBounds_toArray, List.set_cons_zero, List.set_cons_succ]))
              (refine dk 21 (some 46) ?_; (try simp only [Act.put, List.setIfInBounds_toArray, List.set_cons_zero, List.set_cons_succ]))
              (refine tk 22 (some 47) ?_ ?_ ?_; rotate_left; (focus (intro wS hSw; go_simp; try with_reducible rfl)); (try simp only [Act.put, List.setIfInBounds_toArray, List.set_cons_zero, List.set_cons_succ]))
              (refine tk 23 (some 4) ?_ ?_ ?_; rotate_left; (focus (intro wS hSw; go_simp; try with_reducible rfl)); (try simp only [Act.put, List.setIfInBounds_toArray, List.set_cons_zero, List.set_cons_succ]))
              refine wpAnyH_done (by kernel_rfl) ?_ _
              clear y0 y1 y2 ly cg2 lg
              replace HN := hid_now HN hHeld
              clear hHeld
              go_wp2_with fail
              go_roundg (v.cn c - k)
              case measure => have := Hg2.out; omega
              case rel => exact ⟨k + 1, true, by omega, by omega, by go_num, rfl, HE.out, HN.out⟩
            · have HPut := Lib.hid hpu
              obtain ⟨i, rfl⟩ : ∃ i : Nat, sl = (i : Int) := ⟨sl.toNat, by unfold VD.putS at hpu; rcases h0 : decide (0 ≤ sl) with _ | _; (rw [h0] at hpu; cases hpu); have := of_decide_eq_true h0; omega⟩
              have hi : i < v.ns := by unfold VD.putS at hpu; rcases h0 : decide ((i : Int) < (v.ns : Int)) with _ | _; (rw [h0] at hpu; simp at hpu); have := of_decide_eq_true h0; omega
              have hbad : ∀ (bk' : Bool) (z : Int), bk = bk' → v.hash (v.S i).e bk' = z → v.badL c k = decide (z ≠ (c : Int)) := fun bk' z e1 e2 => by unfold VD.badL; rw [← HL0.out]; subst e1 e2; simp only [hpu, Int.toNat_natCast]; rfl
              have HBad := Lib.hid hbad
              clear hpu hbad
              cases bk with
              | false =>
                obtain ⟨z, hz⟩ : ∃ z, z = hashOf (v.S i).e.r (v.S i).e.a (v.S i).e.p (v.S i).e.b (v.S i).e.q v.nc := ⟨_, rfl⟩
                have HHs := Lib.hid hz.symm
                have HB2 := Lib.hid (HBad.out false z rfl (show hashOf (v.S i).e.r (v.S i).e.a (v.S i).e.p (v.S i).e.b (v.S i).e.q v.nc = z from hz.symm))
                clear hz
                rcases h1 : (z == (c : Int)) with _ | _
                · have HE := Lib.hid (show true = anyR (k + 1) (v.badL c) from (anyR_last (by rw [HB2.out]; exact decide_eq_true (beq_eq_false_iff_ne.1 h1))).symm)
                  have h1n : (z != (c : Int)) = true := by simp only [bne, h1]; rfl
                  have y0 := cell_at B_y 0 rfl
                  have y1 := cell_at B_y 1 rfl
                  have y2 := cell_at B_y 2 rfl
                  have ly := hid_lt B_y
                  have cg2 := HL.out.cell 2 rfl
                  have lg := HL.out.lt
                  refine wp_region_held_drew (S := fun wx => NoW yw wx) (by kernel_rfl) (Fp.drew (Fp.refl _ _)) (fun hHeld0 => ?_)
                  refine any_eq hHeld0 (fun z1 hW hHeld => ?_)
                  clear hHeld0
                  clear hW
                  (refine tk 0 (some 25) ?_ ?_ ?_; rotate_left; (focus (intro wS hSw; go_simp; try with_reducible rfl)); (try simp only [Act.put, List.setIfInBounds_toArray, List.set_cons_zero, List.set_cons_succ]))
                  (refine tk 1 (some 26) ?_ ?_ ?_; rotate_left; (focus (intro wS hSw; go_simp; try with_reducible rfl)); (try simp only [Act.put, List.setIfInBounds_toArray, List.set_cons_zero, List.set_cons_succ]))
                  (refine tk 2 (some 27) ?_ ?_ ?_; rotate_left; (focus (intro wS hSw; go_simp; try with_reducible rfl)); (try simp only [Act.put, List.setIfInBounds_toArray, List.set_cons_zero, List.set_cons_succ]))
                  (refine tk 3 (some 28) ?_ ?_ ?_; rotate_left; (focus (intro wS hSw; go_simp; try with_reducible rfl)); (try simp only [Act.put, List.setIfInBounds_toArray, List.set_cons_zero, List.set_cons_succ]))
                  (refine tk 4 (some 29) ?_ ?_ ?_; rotate_left; (focus (intro wS hSw; go_simp; try with_reducible rfl)); (try simp only [Act.put, List.setIfInBounds_toArray, List.set_cons_zero, List.set_cons_succ]))
                  (refine tk 5 (some 30) ?_ ?_ ?_; rotate_left; (focus (intro wS hSw; (have p0 := (hSw.cell (p := ⟨gy, 0, none⟩) ly id).trans y0); (have p1 := (hSw.cell (p := ⟨gy, 1, none⟩) ly id).trans y1); (have p2 := (hSw.cell (p := ⟨gy, 2, none⟩) ly id).trans y2); go_simp; try with_reducible rfl)); (try simp only [Act.put, List.setIfInBounds_toArray, List.set_cons_zero, List.set_cons_succ]))
                  refine wpAnyH_ready (rs := [6]) (by kernel_rfl) (by simp) ?_
                  refine AllReadyH.cons rfl (fun K hK => ?_) AllReadyH.nil
                  go_simp
                  go_at_call 40
                  refine (show Calls _ _ _ _ _ from aput_ok v _ _ _ _ _ _ _ _ g _ _ w0 _ HS.out (HL.out.step hHeld)).mono ?_
                  rintro e z2 ⟨rfl, hp⟩
                  try rw [HPut.out]
                  have hn := Fp.trans hHeld hp (fun _ _ h => h.elim)
                  refine k_now hK hn ?_
                  clear hK K hp hHeld
                  have hHeld := hn
                  clear hn
                  try simp only [Act.put, List.setIfInBounds_toArray, List.set_cons_zero, List.set_cons_succ]
                  (refine tk 7 (some 32) ?_ ?_ ?_; rotate_left; (focus (intro wS hSw; go_simp; try with_reducible rfl)); (try simp only [Act.put, List.setIfInBounds_toArray, List.set_cons_zero, List.set_cons_succ]))
                  (refine tk 8 (some 33) ?_ ?_ ?_; rotate_left; (focus (intro wS hSw; go_simp; try with_reducible rfl)); (try simp only [Act.put, List.setIfInBounds_toArray, List.set_cons_zero, List.set_cons_succ]))
                  (refine tk 9 (some 34) ?_ ?_ ?_; rotate_left; (focus (intro wS hSw; go_simp; try with_reducible rfl)); (try simp only [Act.put, List.setIfInBounds_toArray, List.set_cons_zero, List.set_cons_succ]))
                  (refine tk 10 (some 35) ?_ ?_ ?_; rotate_left; (focus (intro wS hSw; go_simp; try with_reducible rfl)); (try simp only [Act.put, List.setIfInBounds_toArray, List.set_cons_zero, List.set_cons_succ]))
                  (refine tk 11 (some 36) ?_ ?_ ?_; rotate_left; (focus (intro wS hSw; (have p0 := (hSw.cell (p := ⟨gy, 0, none⟩) ly id).trans y0); (have p1 := (hSw.cell (p := ⟨gy, 1, none⟩) ly id).trans y1); (have p2 := (hSw.cell (p := ⟨gy, 2, none⟩) ly id).trans y2); go_simp; try with_reducible rfl)); (try simp only [Act.put, List.setIfInBounds_toArray, List.set_cons_zero, List.set_cons_succ]))
                  (refine tk 13 (some 38) ?_ ?_ ?_; rotate_left; (focus (intro wS hSw; go_simp; try with_reducible rfl)); (try simp only [Act.put, List.setIfInBounds_toArray, List.set_cons_zero, List.set_cons_succ]))
                  (refine tk 14 (some 39) ?_ ?_ ?_; rotate_left; (focus (intro wS hSw; go_simp; try with_reducible rfl)); (try simp only [Act.put, List.setIfInBounds_toArray, List.set_cons_zero, List.set_cons_succ]))
                  (refine tk 15 (some 40) ?_ ?_ ?_; rotate_left; (focus (intro wS hSw; go_simp; try with_reducible rfl)); (try simp only [Act.put, List.setIfInBounds_toArray, List.set_cons_zero, List.set_cons_succ]))
                  (refine tk 16 (some 41) ?_ ?_ ?_; rotate_left; (focus (intro wS hSw; go_simp; try with_reducible rfl)); (try simp only [Act.put, List.setIfInBounds_toArray, List.set_cons_zero, List.set_cons_succ]))
                  (refine tk 17 (some 42) ?_ ?_ ?_; rotate_left; (focus (intro wS hSw; (have q2 := (hSw.cell (p := ⟨g, 2, none⟩) lg id).trans cg2); go_simp; try with_reducible rfl)); (try simp only [Act.put, List.setIfInBounds_toArray, List.set_cons_zero, List.set_cons_succ]))
                  (refine tk 18 (some 43) ?_ ?_ ?_; rotate_left; (focus (intro wS hSw; go_simp; try with_reducible rfl)); (try simp only [Act.put, List.setIfInBounds_toArray, List.set_cons_zero, List.set_cons_succ]))
                  (refine tk 20 (some 45) ?_ ?_ ?_; rotate_left; (focus (intro wS hSw; go_simp; try with_reducible rfl)); (try simp only [Act.put, List.setIfInBounds_toArray, List.set_cons_zero, List.set_cons_succ]))
                  refine wpAnyH_ready (rs := [12]) (by kernel_rfl) (by simp) ?_
                  refine AllReadyH.cons rfl (fun K hK => ?_) AllReadyH.nil
                  go_simp
                  go_at_call 42
                  refine (show Calls _ _ _ _ _ from side_f v _ _ _ _ _ _ _ _ g _ i gn hi w0 _ HS.out (HL.out.step hHeld)).mono ?_
                  rintro e z3 ⟨rfl, hp⟩
                  have hn := Fp.trans hHeld hp (fun _ _ h => h.elim)
                  refine k_now hK hn ?_
                  clear hK K hp hHeld
                  have hHeld := hn
                  clear hn
                  try simp only [Act.put, List.setIfInBounds_toArray, List.set_cons_zero, List.set_cons_succ]
                  refine wpAnyH_ready (rs := [19]) (by kernel_rfl) (by simp) ?_
                  refine AllReadyH.cons rfl (fun K hK => ?_) AllReadyH.nil
                  go_simp
                  go_at_call 41
                  refine (show Calls _ _ _ _ _ from HH.out (v.S i).e.r (v.S i).e.a (v.S i).e.p (v.S i).e.b (v.S i).e.q v.nc _ (Hok.out i hi).r (Hok.out i hi).a (Hok.out i hi).p (Hok.out i hi).b (Hok.out i hi).q hnc).mono ?_
                  rintro e z4 ⟨rfl, hp⟩
                  rw [HHs.out]
                  have hn := Fp.trans hHeld hp (fun _ _ h => h.elim)
                  refine k_now hK hn ?_
                  clear hK K hp hHeld
                  have hHeld := hn
                  clear hn
                  try simp only [Act.put, List.setIfInBounds_toArray, List.set_cons_zero, List.set_cons_succ]
                  (refine tk 21 (some 46) ?_ ?_ ?_; rotate_left; (focus (intro wS hSw; go_simp; try with_reducible rfl)); (try simp only [Act.put, List.setIfInBounds_toArray, List.set_cons_zero, List.set_cons_succ]))
                  (refine tk 22 (some 47) ?_ ?_ ?_; rotate_left; (focus (intro wS hSw; go_simp; try with_reducible rfl)); (try simp only [Act.put, List.setIfInBounds_toArray, List.set_cons_zero, List.set_cons_succ]))
                  (refine tk 23 (some 4) ?_ ?_ ?_; rotate_left; (focus (intro wS hSw; go_simp; try with_reducible rfl)); (try simp only [Act.put, List.setIfInBounds_toArray, List.set_cons_zero, List.set_cons_succ]))
                  refine wpAnyH_done (by kernel_rfl) ?_ _
                  clear y0 y1 y2 ly cg2 lg
                  replace HN := hid_now HN hHeld
                  clear hHeld
                  go_wp2_with fail
                  go_roundg (v.cn c - k)
                  case measure => have := Hg2.out; omega
                  case rel => exact ⟨k + 1, true, by omega, by omega, by go_num, rfl, HE.out, HN.out⟩
                · have HE := Lib.hid (show false = anyR (k + 1) (v.badL c) from (anyR_false HA.out.symm (by rw [HB2.out]; exact decide_eq_false (fun h => h (beq_iff_eq.1 h1)))).symm)
                  have h1n : (z != (c : Int)) = false := by simp only [bne, h1]; rfl
                  have y0 := cell_at B_y 0 rfl
                  have y1 := cell_at B_y 1 rfl
                  have y2 := cell_at B_y 2 rfl
                  have ly := hid_lt B_y
                  have cg2 := HL.out.cell 2 rfl
                  have lg := HL.out.lt
                  refine wp_region_held_drew (S := fun wx => NoW yw wx) (by kernel_rfl) (Fp.drew (Fp.refl _ _)) (fun hHeld0 => ?_)
                  refine any_eq hHeld0 (fun z1 hW hHeld => ?_)
                  clear hHeld0
                  clear hW
                  (refine tk 0 (some 25) ?_ ?_ ?_; rotate_left; (focus (intro wS hSw; go_simp; try with_reducible rfl)); (try simp only [Act.put, List.setIfInBounds_toArray, List.set_cons_zero, List.set_cons_succ]))
                  (refine tk 1 (some 26) ?_ ?_ ?_; rotate_left; (focus (intro wS hSw; go_simp; try with_reducible rfl)); (try simp only [Act.put, List.setIfInBounds_toArray, List.set_cons_zero, List.set_cons_succ]))
                  (refine tk 2 (some 27) ?_ ?_ ?_; rotate_left; (focus (intro wS hSw; go_simp; try with_reducible rfl)); (try simp only [Act.put, List.setIfInBounds_toArray, List.set_cons_zero, List.set_cons_succ]))
                  (refine tk 3 (some 28) ?_ ?_ ?_; rotate_left; (focus (intro wS hSw; go_simp; try with_reducible rfl)); (try simp only [Act.put, List.setIfInBounds_toArray, List.set_cons_zero, List.set_cons_succ]))
                  (refine tk 4 (some 29) ?_ ?_ ?_; rotate_left; (focus (intro wS hSw; go_simp; try with_reducible rfl)); (try simp only [Act.put, List.setIfInBounds_toArray, List.set_cons_zero, List.set_cons_succ]))
                  (refine tk 5 (some 30) ?_ ?_ ?_; rotate_left; (focus (intro wS hSw; (have p0 := (hSw.cell (p := ⟨gy, 0, none⟩) ly id).trans y0); (have p1 := (hSw.cell (p := ⟨gy, 1, none⟩) ly id).trans y1); (have p2 := (hSw.cell (p := ⟨gy, 2, none⟩) ly id).trans y2); go_simp; try with_reducible rfl)); (try simp only [Act.put, List.setIfInBounds_toArray, List.set_cons_zero, List.set_cons_succ]))
                  refine wpAnyH_ready (rs := [6]) (by kernel_rfl) (by simp) ?_
                  refine AllReadyH.cons rfl (fun K hK => ?_) AllReadyH.nil
                  go_simp
                  go_at_call 40
                  refine (show Calls _ _ _ _ _ from aput_ok v _ _ _ _ _ _ _ _ g _ _ w0 _ HS.out (HL.out.step hHeld)).mono ?_
                  rintro e z2 ⟨rfl, hp⟩
                  try rw [HPut.out]
                  have hn := Fp.trans hHeld hp (fun _ _ h => h.elim)
                  refine k_now hK hn ?_
                  clear hK K hp hHeld
                  have hHeld := hn
                  clear hn
                  try simp only [Act.put, List.setIfInBounds_toArray, List.set_cons_zero, List.set_cons_succ]
                  (refine tk 7 (some 32) ?_ ?_ ?_; rotate_left; (focus (intro wS hSw; go_simp; try with_reducible rfl)); (try simp only [Act.put, List.setIfInBounds_toArray, List.set_cons_zero, List.set_cons_succ]))
                  (refine tk 8 (some 33) ?_ ?_ ?_; rotate_left; (focus (intro wS hSw; go_simp; try with_reducible rfl)); (try simp only [Act.put, List.setIfInBounds_toArray, List.set_cons_zero, List.set_cons_succ]))
                  (refine tk 9 (some 34) ?_ ?_ ?_; rotate_left; (focus (intro wS hSw; go_simp; try with_reducible rfl)); (try simp only [Act.put, List.setIfInBounds_toArray, List.set_cons_zero, List.set_cons_succ]))
                  (refine tk 10 (some 35) ?_ ?_ ?_; rotate_left; (focus (intro wS hSw; go_simp; try with_reducible rfl)); (try simp only [Act.put, List.setIfInBounds_toArray, List.set_cons_zero, List.set_cons_succ]))
                  (refine tk 11 (some 36) ?_ ?_ ?_; rotate_left; (focus (intro wS hSw; (have p0 := (hSw.cell (p := ⟨gy, 0, none⟩) ly id).trans y0); (have p1 := (hSw.cell (p := ⟨gy, 1, none⟩) ly id).trans y1); (have p2 := (hSw.cell (p := ⟨gy, 2, none⟩) ly id).trans y2); go_simp; try with_reducible rfl)); (try simp only [Act.put, List.setIfInBounds_toArray, List.set_cons_zero, List.set_cons_succ]))
                  (refine tk 13 (some 38) ?_ ?_ ?_; rotate_left; (focus (intro wS hSw; go_simp; try with_reducible rfl)); (try simp only [Act.put, List.setIfInBounds_toArray, List.set_cons_zero, List.set_cons_succ]))
                  (refine tk 14 (some 39) ?_ ?_ ?_; rotate_left; (focus (intro wS hSw; go_simp; try with_reducible rfl)); (try simp only [Act.put, List.setIfInBounds_toArray, List.set_cons_zero, List.set_cons_succ]))
                  (refine tk 15 (some 40) ?_ ?_ ?_; rotate_left; (focus (intro wS hSw; go_simp; try with_reducible rfl)); (try simp only [Act.put, List.setIfInBounds_toArray, List.set_cons_zero, List.set_cons_succ]))
                  (refine tk 16 (some 41) ?_ ?_ ?_; rotate_left; (focus (intro wS hSw; go_simp; try with_reducible rfl)); (try simp only [Act.put, List.setIfInBounds_toArray, List.set_cons_zero, List.set_cons_succ]))
                  (refine tk 17 (some 42) ?_ ?_ ?_; rotate_left; (focus (intro wS hSw; (have q2 := (hSw.cell (p := ⟨g, 2, none⟩) lg id).trans cg2); go_simp; try with_reducible rfl)); (try simp only [Act.put, List.setIfInBounds_toArray, List.set_cons_zero, List.set_cons_succ]))
                  (refine tk 18 (some 43) ?_ ?_ ?_; rotate_left; (focus (intro wS hSw; go_simp; try with_reducible rfl)); (try simp only [Act.put, List.setIfInBounds_toArray, List.set_cons_zero, List.set_cons_succ]))
                  (refine tk 20 (some 45) ?_ ?_ ?_; rotate_left; (focus (intro wS hSw; go_simp; try with_reducible rfl)); (try simp only [Act.put, List.setIfInBounds_toArray, List.set_cons_zero, List.set_cons_succ]))
                  refine wpAnyH_ready (rs := [12]) (by kernel_rfl) (by simp) ?_
                  refine AllReadyH.cons rfl (fun K hK => ?_) AllReadyH.nil
                  go_simp
                  go_at_call 42
                  refine (show Calls _ _ _ _ _ from side_f v _ _ _ _ _ _ _ _ g _ i gn hi w0 _ HS.out (HL.out.step hHeld)).mono ?_
                  rintro e z3 ⟨rfl, hp⟩
                  have hn := Fp.trans hHeld hp (fun _ _ h => h.elim)
                  refine k_now hK hn ?_
                  clear hK K hp hHeld
                  have hHeld := hn
                  clear hn
                  try simp only [Act.put, List.setIfInBounds_toArray, List.set_cons_zero, List.set_cons_succ]
                  refine wpAnyH_ready (rs := [19]) (by kernel_rfl) (by simp) ?_
                  refine AllReadyH.cons rfl (fun K hK => ?_) AllReadyH.nil
                  go_simp
                  go_at_call 41
                  refine (show Calls _ _ _ _ _ from HH.out (v.S i).e.r (v.S i).e.a (v.S i).e.p (v.S i).e.b (v.S i).e.q v.nc _ (Hok.out i hi).r (Hok.out i hi).a (Hok.out i hi).p (Hok.out i hi).b (Hok.out i hi).q hnc).mono ?_
                  rintro e z4 ⟨rfl, hp⟩
                  rw [HHs.out]
                  have hn := Fp.trans hHeld hp (fun _ _ h => h.elim)
                  refine k_now hK hn ?_
                  clear hK K hp hHeld
                  have hHeld := hn
                  clear hn
                  try simp only [Act.put, List.setIfInBounds_toArray, List.set_cons_zero, List.set_cons_succ]
                  (refine tk 21 (some 46) ?_ ?_ ?_; rotate_left; (focus (intro wS hSw; go_simp; try with_reducible rfl)); (try simp only [Act.put, List.setIfInBounds_toArray, List.set_cons_zero, List.set_cons_succ]))
                  (refine tk 22 (some 47) ?_ ?_ ?_; rotate_left; (focus (intro wS hSw; go_simp; try with_reducible rfl)); (try simp only [Act.put, List.setIfInBounds_toArray, List.set_cons_zero, List.set_cons_succ]))
                  (refine tk 23 (some 4) ?_ ?_ ?_; rotate_left; (focus (intro wS hSw; go_simp; try with_reducible rfl)); (try simp only [Act.put, List.setIfInBounds_toArray, List.set_cons_zero, List.set_cons_succ]))
                  refine wpAnyH_done (by kernel_rfl) ?_ _
                  clear y0 y1 y2 ly cg2 lg
                  replace HN := hid_now HN hHeld
                  clear hHeld
                  go_wp2_with fail
                  go_roundg (v.cn c - k)
                  case measure => have := Hg2.out; omega
                  case rel => exact ⟨k + 1, false, by omega, by omega, by go_num, rfl, HE.out, HN.out⟩
              | true =>
                obtain ⟨z, hz⟩ : ∃ z, z = hashOf (v.S i).e.r2 (v.S i).e.a2 (v.S i).e.p2 (v.S i).e.b2 (v.S i).e.q2 v.nc := ⟨_, rfl⟩
                have HHs := Lib.hid hz.symm
                have HB2 := Lib.hid (HBad.out true z rfl (show hashOf (v.S i).e.r2 (v.S i).e.a2 (v.S i).e.p2 (v.S i).e.b2 (v.S i).e.q2 v.nc = z from hz.symm))
                clear hz
                rcases h1 : (z == (c : Int)) with _ | _
                · have HE := Lib.hid (show true = anyR (k + 1) (v.badL c) from (anyR_last (by rw [HB2.out]; exact decide_eq_true (beq_eq_false_iff_ne.1 h1))).symm)
                  have h1n : (z != (c : Int)) = true := by simp only [bne, h1]; rfl
                  have y0 := cell_at B_y 0 rfl
                  have y1 := cell_at B_y 1 rfl
                  have y2 := cell_at B_y 2 rfl
                  have ly := hid_lt B_y
                  have cg2 := HL.out.cell 2 rfl
                  have lg := HL.out.lt
                  refine wp_region_held_drew (S := fun wx => NoW yw wx) (by kernel_rfl) (Fp.drew (Fp.refl _ _)) (fun hHeld0 => ?_)
                  refine any_eq hHeld0 (fun z1 hW hHeld => ?_)
                  clear hHeld0
                  clear hW
                  (refine tk 0 (some 25) ?_ ?_ ?_; rotate_left; (focus (intro wS hSw; go_simp; try with_reducible rfl)); (try simp only [Act.put, List.setIfInBounds_toArray, List.set_cons_zero, List.set_cons_succ]))
                  (refine tk 1 (some 26) ?_ ?_ ?_; rotate_left; (focus (intro wS hSw; go_simp; try with_reducible rfl)); (try simp only [Act.put, List.setIfInBounds_toArray, List.set_cons_zero, List.set_cons_succ]))
                  (refine tk 2 (some 27) ?_ ?_ ?_; rotate_left; (focus (intro wS hSw; go_simp; try with_reducible rfl)); (try simp only [Act.put, List.setIfInBounds_toArray, List.set_cons_zero, List.set_cons_succ]))
                  (refine tk 3 (some 28) ?_ ?_ ?_; rotate_left; (focus (intro wS hSw; go_simp; try with_reducible rfl)); (try simp only [Act.put, List.setIfInBounds_toArray, List.set_cons_zero, List.set_cons_succ]))
                  (refine tk 4 (some 29) ?_ ?_ ?_; rotate_left; (focus (intro wS hSw; go_simp; try with_reducible rfl)); (try simp only [Act.put, List.setIfInBounds_toArray, List.set_cons_zero, List.set_cons_succ]))
                  (refine tk 5 (some 30) ?_ ?_ ?_; rotate_left; (focus (intro wS hSw; (have p0 := (hSw.cell (p := ⟨gy, 0, none⟩) ly id).trans y0); (have p1 := (hSw.cell (p := ⟨gy, 1, none⟩) ly id).trans y1); (have p2 := (hSw.cell (p := ⟨gy, 2, none⟩) ly id).trans y2); go_simp; try with_reducible rfl)); (try simp only [Act.put, List.setIfInBounds_toArray, List.set_cons_zero, List.set_cons_succ]))
                  refine wpAnyH_ready (rs := [6]) (by kernel_rfl) (by simp) ?_
                  refine AllReadyH.cons rfl (fun K hK => ?_) AllReadyH.nil
                  go_simp
                  go_at_call 40
                  refine (show Calls _ _ _ _ _ from aput_ok v _ _ _ _ _ _ _ _ g _ _ w0 _ HS.out (HL.out.step hHeld)).mono ?_
                  rintro e z2 ⟨rfl, hp⟩
                  try rw [HPut.out]
                  have hn := Fp.trans hHeld hp (fun _ _ h => h.elim)
                  refine k_now hK hn ?_
                  clear hK K hp hHeld
                  have hHeld := hn
                  clear hn
                  try simp only [Act.put, List.setIfInBounds_toArray, List.set_cons_zero, List.set_cons_succ]
                  (refine tk 7 (some 32) ?_ ?_ ?_; rotate_left; (focus (intro wS hSw; go_simp; try with_reducible rfl)); (try simp only [Act.put, List.setIfInBounds_toArray, List.set_cons_zero, List.set_cons_succ]))
                  (refine tk 8 (some 33) ?_ ?_ ?_; rotate_left; (focus (intro wS hSw; go_simp; try with_reducible rfl)); (try simp only [Act.put, List.setIfInBounds_toArray, List.set_cons_zero, List.set_cons_succ]))
                  (refine tk 9 (some 34) ?_ ?_ ?_; rotate_left; (focus (intro wS hSw; go_simp; try with_reducible rfl)); (try simp only [Act.put, List.setIfInBounds_toArray, List.set_cons_zero, List.set_cons_succ]))
                  (refine tk 10 (some 35) ?_ ?_ ?_; rotate_left; (focus (intro wS hSw; go_simp; try with_reducible rfl)); (try simp only [Act.put, List.setIfInBounds_toArray, List.set_cons_zero, List.set_cons_succ]))
                  (refine tk 11 (some 36) ?_ ?_ ?_; rotate_left; (focus (intro wS hSw; (have p0 := (hSw.cell (p := ⟨gy, 0, none⟩) ly id).trans y0); (have p1 := (hSw.cell (p := ⟨gy, 1, none⟩) ly id).trans y1); (have p2 := (hSw.cell (p := ⟨gy, 2, none⟩) ly id).trans y2); go_simp; try with_reducible rfl)); (try simp only [Act.put, List.setIfInBounds_toArray, List.set_cons_zero, List.set_cons_succ]))
                  (refine tk 13 (some 38) ?_ ?_ ?_; rotate_left; (focus (intro wS hSw; go_simp; try with_reducible rfl)); (try simp only [Act.put, List.setIfInBounds_toArray, List.set_cons_zero, List.set_cons_succ]))
                  (refine tk 14 (some 39) ?_ ?_ ?_; rotate_left; (focus (intro wS hSw; go_simp; try with_reducible rfl)); (try simp only [Act.put, List.setIfInBounds_toArray, List.set_cons_zero, List.set_cons_succ]))
                  (refine tk 15 (some 40) ?_ ?_ ?_; rotate_left; (focus (intro wS hSw; go_simp; try with_reducible rfl)); (try simp only [Act.put, List.setIfInBounds_toArray, List.set_cons_zero, List.set_cons_succ]))
                  (refine tk 16 (some 41) ?_ ?_ ?_; rotate_left; (focus (intro wS hSw; go_simp; try with_reducible rfl)); (try simp only [Act.put, List.setIfInBounds_toArray, List.set_cons_zero, List.set_cons_succ]))
                  (refine tk 17 (some 42) ?_ ?_ ?_; rotate_left; (focus (intro wS hSw; (have q2 := (hSw.cell (p := ⟨g, 2, none⟩) lg id).trans cg2); go_simp; try with_reducible rfl)); (try simp only [Act.put, List.setIfInBounds_toArray, List.set_cons_zero, List.set_cons_succ]))
                  (refine tk 18 (some 43) ?_ ?_ ?_; rotate_left; (focus (intro wS hSw; go_simp; try with_reducible rfl)); (try simp only [Act.put, List.setIfInBounds_toArray, List.set_cons_zero, List.set_cons_succ]))
                  (refine tk 20 (some 45) ?_ ?_ ?_; rotate_left; (focus (intro wS hSw; go_simp; try with_reducible rfl)); (try simp only [Act.put, List.setIfInBounds_toArray, List.set_cons_zero, List.set_cons_succ]))
                  refine wpAnyH_ready (rs := [12]) (by kernel_rfl) (by simp) ?_
                  refine AllReadyH.cons rfl (fun K hK => ?_) AllReadyH.nil
                  go_simp
                  go_at_call 42
                  refine (show Calls _ _ _ _ _ from side_t v _ _ _ _ _ _ _ _ g _ i gn hi w0 _ HS.out (HL.out.step hHeld)).mono ?_
                  rintro e z3 ⟨rfl, hp⟩
                  have hn := Fp.trans hHeld hp (fun _ _ h => h.elim)
                  refine k_now hK hn ?_
                  clear hK K hp hHeld
                  have hHeld := hn
                  clear hn
                  try simp only [Act.put, List.setIfInBounds_toArray, List.set_cons_zero, List.set_cons_succ]
                  refine wpAnyH_ready (rs := [19]) (by kernel_rfl) (by simp) ?_
                  refine AllReadyH.cons rfl (fun K hK => ?_) AllReadyH.nil
                  go_simp
                  go_at_call 41
                  refine (show Calls _ _ _ _ _ from HH.out (v.S i).e.r2 (v.S i).e.a2 (v.S i).e.p2 (v.S i).e.b2 (v.S i).e.q2 v.nc _ (Hok.out i hi).r2 (Hok.out i hi).a2 (Hok.out i hi).p2 (Hok.out i hi).b2 (Hok.out i hi).q2 hnc).mono ?_
                  rintro e z4 ⟨rfl, hp⟩
                  rw [HHs.out]
                  have hn := Fp.trans hHeld hp (fun _ _ h => h.elim)
                  refine k_now hK hn ?_
                  clear hK K hp hHeld
                  have hHeld := hn
                  clear hn
                  try simp only [Act.put, List.setIfInBounds_toArray, List.set_cons_zero, List.set_cons_succ]
                  (refine tk 21 (some 46) ?_ ?_ ?_; rotate_left; (focus (intro wS hSw; go_simp; try with_reducible rfl)); (try simp only [Act.put, List.setIfInBounds_toArray, List.set_cons_zero, List.set_cons_succ]))
                  (refine tk 22 (some 47) ?_ ?_ ?_; rotate_left; (focus (intro wS hSw; go_simp; try with_reducible rfl)); (try simp only [Act.put, List.setIfInBounds_toArray, List.set_cons_zero, List.set_cons_succ]))
                  (refine tk 23 (some 4) ?_ ?_ ?_; rotate_left; (focus (intro wS hSw; go_simp; try with_reducible rfl)); (try simp only [Act.put, List.setIfInBounds_toArray, List.set_cons_zero, List.set_cons_succ]))
                  refine wpAnyH_done (by kernel_rfl) ?_ _
                  clear y0 y1 y2 ly cg2 lg
                  replace HN := hid_now HN hHeld
                  clear hHeld
                  go_wp2_with fail
                  go_roundg (v.cn c - k)
                  case measure => have := Hg2.out; omega
                  case rel => exact ⟨k + 1, true, by omega, by omega, by go_num, rfl, HE.out, HN.out⟩
                · have HE := Lib.hid (show false = anyR (k + 1) (v.badL c) from (anyR_false HA.out.symm (by rw [HB2.out]; exact decide_eq_false (fun h => h (beq_iff_eq.1 h1)))).symm)
                  have h1n : (z != (c : Int)) = false := by simp only [bne, h1]; rfl
                  have y0 := cell_at B_y 0 rfl
                  have y1 := cell_at B_y 1 rfl
                  have y2 := cell_at B_y 2 rfl
                  have ly := hid_lt B_y
                  have cg2 := HL.out.cell 2 rfl
                  have lg := HL.out.lt
                  refine wp_region_held_drew (S := fun wx => NoW yw wx) (by kernel_rfl) (Fp.drew (Fp.refl _ _)) (fun hHeld0 => ?_)
                  refine any_eq hHeld0 (fun z1 hW hHeld => ?_)
                  clear hHeld0
                  clear hW
                  (refine tk 0 (some 25) ?_ ?_ ?_; rotate_left; (focus (intro wS hSw; go_simp; try with_reducible rfl)); (try simp only [Act.put, List.setIfInBounds_toArray, List.set_cons_zero, List.set_cons_succ]))
                  (refine tk 1 (some 26) ?_ ?_ ?_; rotate_left; (focus (intro wS hSw; go_simp; try with_reducible rfl)); (try simp only [Act.put, List.setIfInBounds_toArray, List.set_cons_zero, List.set_cons_succ]))
                  (refine tk 2 (some 27) ?_ ?_ ?_; rotate_left; (focus (intro wS hSw; go_simp; try with_reducible rfl)); (try simp only [Act.put, List.setIfInBounds_toArray, List.set_cons_zero, List.set_cons_succ]))
                  (refine tk 3 (some 28) ?_ ?_ ?_; rotate_left; (focus (intro wS hSw; go_simp; try with_reducible rfl)); (try simp only [Act.put, List.setIfInBounds_toArray, List.set_cons_zero, List.set_cons_succ]))
                  (refine tk 4 (some 29) ?_ ?_ ?_; rotate_left; (focus (intro wS hSw; go_simp; try with_reducible rfl)); (try simp only [Act.put, List.setIfInBounds_toArray, List.set_cons_zero, List.set_cons_succ]))
                  (refine tk 5 (some 30) ?_ ?_ ?_; rotate_left; (focus (intro wS hSw; (have p0 := (hSw.cell (p := ⟨gy, 0, none⟩) ly id).trans y0); (have p1 := (hSw.cell (p := ⟨gy, 1, none⟩) ly id).trans y1); (have p2 := (hSw.cell (p := ⟨gy, 2, none⟩) ly id).trans y2); go_simp; try with_reducible rfl)); (try simp only [Act.put, List.setIfInBounds_toArray, List.set_cons_zero, List.set_cons_succ]))
                  refine wpAnyH_ready (rs := [6]) (by kernel_rfl) (by simp) ?_
                  refine AllReadyH.cons rfl (fun K hK => ?_) AllReadyH.nil
                  go_simp
                  go_at_call 40
                  refine (show Calls _ _ _ _ _ from aput_ok v _ _ _ _ _ _ _ _ g _ _ w0 _ HS.out (HL.out.step hHeld)).mono ?_
                  rintro e z2 ⟨rfl, hp⟩
                  try rw [HPut.out]
                  have hn := Fp.trans hHeld hp (fun _ _ h => h.elim)
                  refine k_now hK hn ?_
                  clear hK K hp hHeld
                  have hHeld := hn
                  clear hn
                  try simp only [Act.put, List.setIfInBounds_toArray, List.set_cons_zero, List.set_cons_succ]
                  (refine tk 7 (some 32) ?_ ?_ ?_; rotate_left; (focus (intro wS hSw; go_simp; try with_reducible rfl)); (try simp only [Act.put, List.setIfInBounds_toArray, List.set_cons_zero, List.set_cons_succ]))
                  (refine tk 8 (some 33) ?_ ?_ ?_; rotate_left; (focus (intro wS hSw; go_simp; try with_reducible rfl)); (try simp only [Act.put, List.setIfInBounds_toArray, List.set_cons_zero, List.set_cons_succ]))
                  (refine tk 9 (some 34) ?_ ?_ ?_; rotate_left; (focus (intro wS hSw; go_simp; try with_reducible rfl)); (try simp only [Act.put, List.setIfInBounds_toArray, List.set_cons_zero, List.set_cons_succ]))
                  (refine tk 10 (some 35) ?_ ?_ ?_; rotate_left; (focus (intro wS hSw; go_simp; try with_reducible rfl)); (try simp only [Act.put, List.setIfInBounds_toArray, List.set_cons_zero, List.set_cons_succ]))
                  (refine tk 11 (some 36) ?_ ?_ ?_; rotate_left; (focus (intro wS hSw; (have p0 := (hSw.cell (p := ⟨gy, 0, none⟩) ly id).trans y0); (have p1 := (hSw.cell (p := ⟨gy, 1, none⟩) ly id).trans y1); (have p2 := (hSw.cell (p := ⟨gy, 2, none⟩) ly id).trans y2); go_simp; try with_reducible rfl)); (try simp only [Act.put, List.setIfInBounds_toArray, List.set_cons_zero, List.set_cons_succ]))
                  (refine tk 13 (some 38) ?_ ?_ ?_; rotate_left; (focus (intro wS hSw; go_simp; try with_reducible rfl)); (try simp only [Act.put, List.setIfInBounds_toArray, List.set_cons_zero, List.set_cons_succ]))
                  (refine tk 14 (some 39) ?_ ?_ ?_; rotate_left; (focus (intro wS hSw; go_simp; try with_reducible rfl)); (try simp only [Act.put, List.setIfInBounds_toArray, List.set_cons_zero, List.set_cons_succ]))
                  (refine tk 15 (some 40) ?_ ?_ ?_; rotate_left; (focus (intro wS hSw; go_simp; try with_reducible rfl)); (try simp only [Act.put, List.setIfInBounds_toArray, List.set_cons_zero, List.set_cons_succ]))
                  (refine tk 16 (some 41) ?_ ?_ ?_; rotate_left; (focus (intro wS hSw; go_simp; try with_reducible rfl)); (try simp only [Act.put, List.setIfInBounds_toArray, List.set_cons_zero, List.set_cons_succ]))
                  (refine tk 17 (some 42) ?_ ?_ ?_; rotate_left; (focus (intro wS hSw; (have q2 := (hSw.cell (p := ⟨g, 2, none⟩) lg id).trans cg2); go_simp; try with_reducible rfl)); (try simp only [Act.put, List.setIfInBounds_toArray, List.set_cons_zero, List.set_cons_succ]))
                  (refine tk 18 (some 43) ?_ ?_ ?_; rotate_left; (focus (intro wS hSw; go_simp; try with_reducible rfl)); (try simp only [Act.put, List.setIfInBounds_toArray, List.set_cons_zero, List.set_cons_succ]))
                  (refine tk 20 (some 45) ?_ ?_ ?_; rotate_left; (focus (intro wS hSw; go_simp; try with_reducible rfl)); (try simp only [Act.put, List.setIfInBounds_toArray, List.set_cons_zero, List.set_cons_succ]))
                  refine wpAnyH_ready (rs := [12]) (by kernel_rfl) (by simp) ?_
                  refine AllReadyH.cons rfl (fun K hK => ?_) AllReadyH.nil
                  go_simp
                  go_at_call 42
                  refine (show Calls _ _ _ _ _ from side_t v _ _ _ _ _ _ _ _ g _ i gn hi w0 _ HS.out (HL.out.step hHeld)).mono ?_
                  rintro e z3 ⟨rfl, hp⟩
                  have hn := Fp.trans hHeld hp (fun _ _ h => h.elim)
                  refine k_now hK hn ?_
                  clear hK K hp hHeld
                  have hHeld := hn
                  clear hn
                  try simp only [Act.put, List.setIfInBounds_toArray, List.set_cons_zero, List.set_cons_succ]
                  refine wpAnyH_ready (rs := [19]) (by kernel_rfl) (by simp) ?_
                  refine AllReadyH.cons rfl (fun K hK => ?_) AllReadyH.nil
                  go_simp
                  go_at_call 41
                  refine (show Calls _ _ _ _ _ from HH.out (v.S i).e.r2 (v.S i).e.a2 (v.S i).e.p2 (v.S i).e.b2 (v.S i).e.q2 v.nc _ (Hok.out i hi).r2 (Hok.out i hi).a2 (Hok.out i hi).p2 (Hok.out i hi).b2 (Hok.out i hi).q2 hnc).mono ?_
                  rintro e z4 ⟨rfl, hp⟩
                  rw [HHs.out]
                  have hn := Fp.trans hHeld hp (fun _ _ h => h.elim)
                  refine k_now hK hn ?_
                  clear hK K hp hHeld
                  have hHeld := hn
                  clear hn
                  try simp only [Act.put, List.setIfInBounds_toArray, List.set_cons_zero, List.set_cons_succ]
                  (refine tk 21 (some 46) ?_ ?_ ?_; rotate_left; (focus (intro wS hSw; go_simp; try with_reducible rfl)); (try simp only [Act.put, List.setIfInBounds_toArray, List.set_cons_zero, List.set_cons_succ]))
                  (refine tk 22 (some 47) ?_ ?_ ?_; rotate_left; (focus (intro wS hSw; go_simp; try with_reducible rfl)); (try simp only [Act.put, List.setIfInBounds_toArray, List.set_cons_zero, List.set_cons_succ]))
                  (refine tk 23 (some 4) ?_ ?_ ?_; rotate_left; (focus (intro wS hSw; go_simp; try with_reducible rfl)); (try simp only [Act.put, List.setIfInBounds_toArray, List.set_cons_zero, List.set_cons_succ]))
                  refine wpAnyH_done (by kernel_rfl) ?_ _
                  clear y0 y1 y2 ly cg2 lg
                  replace HN := hid_now HN hHeld
                  clear hHeld
                  go_wp2_with fail
                  go_roundg (v.cn c - k)
                  case measure => have := Hg2.out; omega
                  case rel => exact ⟨k + 1, false, by omega, by omega, by go_num, rfl, HE.out, HN.out⟩
        · obtain rfl : k = v.cn c := by omega
          have pk2 : decide ((v.cn c : Int) < (v.cn c : Int)) = false := decide_eq_false (by omega)
          have HF := Lib.hid (show v.f2 c = bad from HA.out.symm)
          go_wp2_with fail
          refine (note_ok bad w0 _ g _ _ _ _ _ _ _ _ _ 2 c HL.out (fs_len HFs.out (by omega))).mono ?_
          rintro e z2 ⟨rfl, hL⟩
          replace HL := Lib.hid hL
          clear hL
          go_wp2_with fail
          go_roundg (v.nc - c)
          case measure => have := Hg.out; omega
          case rel => exact ⟨c + 1, by omega, by omega, by go_num, by have h9 := HL.out; have h8 := HF.out; cases bad; (rw [flt_no h8]; simpa using h9); (rw [flt0_yes h8]; simpa using h9)⟩
    · obtain rfl : c = v.nc := by omega
      have pk : decide ((v.nc : Int) < (v.nc : Int)) = false := decide_eq_false (by omega)
      have cg1 := HL.out.cell 1 rfl
      have lg := HL.out.lt
      go_wp2_with fail
      clear cg1 lg
      go_loopg [60] (v.ns + 1) (fun gg3 iv wx => ∃ (i : Nat), i ≤ v.ns ∧ gg3 = v.ns + 1 - i ∧ iv = .int .i64 (i : Int) ∧ AuLk w0 wx g [.int .i64 v.now, .slice sa v.ns sc, .slice ca v.nc cc, .slice pa v.np pc, .slice qa v.nq qc, .int .i64 v.free, .int .i64 v.live, .int .i64 v.gone] ((fs ++ flt 2 0 v.f2 v.nc) ++ flt 2 v.nc v.f2b i))
      case atStart => exact ⟨0, by omega, by omega, rfl, by simpa [flt] using HL.out⟩
      case round =>
        clear HL
        obtain ⟨i, hi, hg3, rfl, hL⟩ := hrel
        have Hg3 := Lib.hid hg3
        have HL := Lib.hid hL
        clear hg3 hL
        by_cases hlt3 : i < v.ns
        · skip
          have pk3 : decide ((i : Int) < (v.ns : Int)) = true := decide_eq_true (by omega)
          have KM := Lib.hid (fun bk W (hW : ∃ fs', AuLk w0 W g [.int .i64 v.now, .slice sa v.ns sc, .slice ca v.nc cc, .slice pa v.np pc, .slice qa v.nq qc, .int .i64 v.free, .int .i64 v.live, .int .i64 v.gone] fs') => hW.elim fun fs' hl => many_ok v sa ca pa qa sc cc pc qc cad cc' g fs' i bk hnc HCn.out w0 W HC.out HK.out hl)
          have KW := Lib.hid (fun W (hW : ∃ fs', AuLk w0 W g [.int .i64 v.now, .slice sa v.ns sc, .slice ca v.nc cc, .slice pa v.np pc, .slice qa v.nq qc, .int .i64 v.free, .int .i64 v.live, .int .i64 v.gone] fs') => hW.elim fun fs' hl => wants_ok v sa ca pa qa sc cc pc qc g fs' i hlt3 w0 W HS.out hl)
          have hF : v.f2b i = (decide (v.many i false v.nc ≠ v.wants i) || decide (v.many i true v.nc ≠ v.wants i)) := rfl
          obtain ⟨m0, hm0⟩ : ∃ m, m = v.many i false v.nc := ⟨_, rfl⟩
          obtain ⟨m1, hm1⟩ : ∃ m, m = v.many i true v.nc := ⟨_, rfl⟩
          obtain ⟨wn, hwn⟩ : ∃ m, m = v.wants i := ⟨_, rfl⟩
          rw [← hm0, ← hm1, ← hwn] at hF
          have HF := Lib.hid hF
          have KM0 := Lib.hid (fun W (hW : ∃ fs', AuLk w0 W g [.int .i64 v.now, .slice sa v.ns sc, .slice ca v.nc cc, .slice pa v.np pc, .slice qa v.nq qc, .int .i64 v.free, .int .i64 v.live, .int .i64 v.gone] fs') => KM.out false W hW)
          have KM1 := Lib.hid (fun W (hW : ∃ fs', AuLk w0 W g [.int .i64 v.now, .slice sa v.ns sc, .slice ca v.nc cc, .slice pa v.np pc, .slice qa v.nq qc, .int .i64 v.free, .int .i64 v.live, .int .i64 v.gone] fs') => KM.out true W hW)
          rw [← hm0] at KM0
          rw [← hm1] at KM1
          rw [← hwn] at KW
          clear hF hm0 hm1 hwn KM
          rcases h1 : ((m0 : Int) == (wn : Int)) with _ | _
          · skip
            have h1n : ((m0 : Int) != (wn : Int)) = true := by simp only [bne, h1]; rfl
            have HW := Lib.hid (show v.f2b i = true from by rw [HF.out]; have := beq_eq_false_iff_ne.1 h1; have h9 : m0 ≠ wn := (by omega); simp [h9])
            have s1 : IntKind.i64.wrap ((v.nc : Int) + (i : Int)) = (v.nc : Int) + (i : Int) := IntWalk.i64_in _ (by omega)
            go_upto_region 14 with fail
            refine wp_region_held_drew (S := fun wx => ∃ fs', AuLk w0 wx g [.int .i64 v.now, .slice sa v.ns sc, .slice ca v.nc cc, .slice pa v.np pc, .slice qa v.nq qc, .int .i64 v.free, .int .i64 v.live, .int .i64 v.gone] fs') (by kernel_rfl) (⟨_, HL.out.step (Fp.refl _ _).drew⟩) (fun hHeld0 => ?_)
            refine any_eq hHeld0 (fun z1 hW hHeld => ?_)
            clear hHeld0
            replace HL := Lib.hid (HL.out.step (noW_drew hW))
            clear hW
            (refine tk 0 (some 63) ?_ ?_ ?_; rotate_left; (focus (intro wS hSw; go_simp; try with_reducible rfl)); (try simp only [Act.put, List.setIfInBounds_toArray, List.set_cons_zero, List.set_cons_succ]))
            (refine tk 1 (some 64) ?_ ?_ ?_; rotate_left; (focus (intro wS hSw; go_simp; try with_reducible rfl)); (try simp only [Act.put, List.setIfInBounds_toArray, List.set_cons_zero, List.set_cons_succ]))
            (refine tk 2 (some 65) ?_ ?_ ?_; rotate_left; (focus (intro wS hSw; go_simp; try with_reducible rfl)); (try simp only [Act.put, List.setIfInBounds_toArray, List.set_cons_zero, List.set_cons_succ]))
            (refine tk 4 (some 67) ?_ ?_ ?_; rotate_left; (focus (intro wS hSw; go_simp; try with_reducible rfl)); (try simp only [Act.put, List.setIfInBounds_toArray, List.set_cons_zero, List.set_cons_succ]))
            (refine tk 5 (some 68) ?_ ?_ ?_; rotate_left; (focus (intro wS hSw; go_simp; try with_reducible rfl)); (try simp only [Act.put, List.setIfInBounds_toArray, List.set_cons_zero, List.set_cons_succ]))
            (refine tk 17 (some 80) ?_ ?_ ?_; rotate_left; (focus (intro wS hSw; go_simp; try with_reducible rfl)); (try simp only [Act.put, List.setIfInBounds_toArray, List.set_cons_zero, List.set_cons_succ]))
            (refine tk 18 (some 81) ?_ ?_ ?_; rotate_left; (focus (intro wS hSw; go_simp; try with_reducible rfl)); (try simp only [Act.put, List.setIfInBounds_toArray, List.set_cons_zero, List.set_cons_succ]))
            (refine tk 19 (some 82) ?_ ?_ ?_; rotate_left; (focus (intro wS hSw; go_simp; try with_reducible rfl)); (try simp only [Act.put, List.setIfInBounds_toArray, List.set_cons_zero, List.set_cons_succ]))
            (refine tk 20 (some 83) ?_ ?_ ?_; rotate_left; (focus (intro wS hSw; go_simp; try with_reducible rfl)); (try simp only [Act.put, List.setIfInBounds_toArray, List.set_cons_zero, List.set_cons_succ]))
            (refine tk 21 (some 84) ?_ ?_ ?_; rotate_left; (focus (intro wS hSw; (have q2 := hSw.elim fun _ hl => hl.cell 2 rfl); (have ql := hSw.elim fun _ hl => hl.lt); go_simp; try with_reducible rfl)); (try simp only [Act.put, List.setIfInBounds_toArray, List.set_cons_zero, List.set_cons_succ]))
            (refine tk 22 (some 85) ?_ ?_ ?_; rotate_left; (focus (intro wS hSw; go_simp; try with_reducible rfl)); (try simp only [Act.put, List.setIfInBounds_toArray, List.set_cons_zero, List.set_cons_succ]))
            (refine tk 23 (some 86) ?_ ?_ ?_; rotate_left; (focus (intro wS hSw; go_simp; try with_reducible rfl)); (try simp only [Act.put, List.setIfInBounds_toArray, List.set_cons_zero, List.set_cons_succ]))
            (refine tk 24 (some 87) ?_ ?_ ?_; rotate_left; (focus (intro wS hSw; go_simp; try with_reducible rfl)); (try simp only [Act.put, List.setIfInBounds_toArray, List.set_cons_zero, List.set_cons_succ]))
            refine wpAnyH_ready (rs := [3]) (by kernel_rfl) (by simp) ?_
            refine AllReadyH.cons rfl (fun K hK => ?_) AllReadyH.nil
            go_simp
            go_at_call 43
            refine (show Calls _ _ _ _ _ from KM0.out _ hHeld).mono ?_
            rintro e z2 ⟨rfl, hp⟩
            have hn := hHeld.elim fun fs' hl => (show ∃ fs', AuLk w0 _ g [.int .i64 v.now, .slice sa v.ns sc, .slice ca v.nc cc, .slice pa v.np pc, .slice qa v.nq qc, .int .i64 v.free, .int .i64 v.live, .int .i64 v.gone] fs' from ⟨fs', hl.step hp⟩)
            replace HL := Lib.hid (HL.out.step hp)
            refine k_now hK hn ?_
            clear hK K hp hHeld
            have hHeld := hn
            clear hn
            try simp only [Act.put, List.setIfInBounds_toArray, List.set_cons_zero, List.set_cons_succ]
            refine wpAnyH_ready (rs := [6]) (by kernel_rfl) (by simp) ?_
            refine AllReadyH.cons rfl (fun K hK => ?_) AllReadyH.nil
            go_simp
            go_at_call 44
            refine (show Calls _ _ _ _ _ from KW.out _ hHeld).mono ?_
            rintro e z3 ⟨rfl, hp⟩
            have hn := hHeld.elim fun fs' hl => (show ∃ fs', AuLk w0 _ g [.int .i64 v.now, .slice sa v.ns sc, .slice ca v.nc cc, .slice pa v.np pc, .slice qa v.nq qc, .int .i64 v.free, .int .i64 v.live, .int .i64 v.gone] fs' from ⟨fs', hl.step hp⟩)
            replace HL := Lib.hid (HL.out.step hp)
            refine k_now hK hn ?_
            clear hK K hp hHeld
            have hHeld := hn
            clear hn
            try simp only [Act.put, List.setIfInBounds_toArray, List.set_cons_zero, List.set_cons_succ]
            (refine tk 7 (some 70) ?_ ?_ ?_; rotate_left; (focus (intro wS hSw; go_simp; try with_reducible rfl)); (try simp only [Act.put, List.setIfInBounds_toArray, List.set_cons_zero, List.set_cons_succ]))
            (refine tk 8 (some 71) ?_ ?_ ?_; rotate_left; (focus (intro wS hSw; go_simp; try with_reducible rfl)); (try simp only [Act.put, List.setIfInBounds_toArray, List.set_cons_zero, List.set_cons_succ]))
            (refine dk 9 (some 72) ?_; (try simp only [Act.put, List.setIfInBounds_toArray, List.set_cons_zero, List.set_cons_succ]))
            (refine dk 10 (some 73) ?_; (try simp only [Act.put, List.setIfInBounds_toArray, List.set_cons_zero, List.set_cons_succ]))
            (refine dk 11 (some 74) ?_; (try simp only [Act.put, List.setIfInBounds_toArray, List.set_cons_zero, List.set_cons_succ]))
            (refine dk 12 (some 75) ?_; (try simp only [Act.put, List.setIfInBounds_toArray, List.set_cons_zero, List.set_cons_succ]))
            (refine dk 13 (some 76) ?_; (try simp only [Act.put, List.setIfInBounds_toArray, List.set_cons_zero, List.set_cons_succ]))
            (refine dk 14 (some 77) ?_; (try simp only [Act.put, List.setIfInBounds_toArray, List.set_cons_zero, List.set_cons_succ]))
            (refine dk 15 (some 78) ?_; (try simp only [Act.put, List.setIfInBounds_toArray, List.set_cons_zero, List.set_cons_succ]))
            (refine tk 16 (some 79) ?_ ?_ ?_; rotate_left; (focus (intro wS hSw; go_simp; try with_reducible rfl)); (try simp only [Act.put, List.setIfInBounds_toArray, List.set_cons_zero, List.set_cons_succ]))
            refine wpAnyH_ready (rs := [25]) (by kernel_rfl) (by simp) ?_
            refine AllReadyH.cons rfl (fun K hK => ?_) AllReadyH.nil
            go_simp
            go_at_call 38
            refine (show Calls _ _ _ _ _ from note_ok true w0 _ g _ _ _ _ _ _ _ _ _ 2 _ HL.out (by have h1 := HFs.out; have h2 := flt_len 2 0 v.f2 v.nc; have h3 := flt_len 2 (v.nc : Int) v.f2b i; simp only [List.length_append]; omega)).mono ?_
            rintro e z4 ⟨rfl, hL⟩
            clear hHeld
            have hHeld : ∃ fs', AuLk w0 _ g [.int .i64 v.now, .slice sa v.ns sc, .slice ca v.nc cc, .slice pa v.np pc, .slice qa v.nq qc, .int .i64 v.free, .int .i64 v.live, .int .i64 v.gone] fs' := ⟨_, hL⟩
            replace HL := Lib.hid hL
            clear hL
            refine k_now hK hHeld ?_
            clear hK K
            try simp only [Act.put, List.setIfInBounds_toArray, List.set_cons_zero, List.set_cons_succ]
            refine wpAnyH_done (by kernel_rfl) ?_ _
            go_wp2_with fail
            go_roundg (v.ns - i)
            case measure => have := Hg3.out; omega
            case rel => exact ⟨i + 1, by omega, by omega, by go_num, by have h9 := HL.out; rw [flt_yes HW.out]; simpa using h9⟩
          · rcases h2 : ((m1 : Int) == (wn : Int)) with _ | _
            · skip
              have h1n : ((m0 : Int) != (wn : Int)) = false := by simp only [bne, h1]; rfl
              have h2n : ((m1 : Int) != (wn : Int)) = true := by simp only [bne, h2]; rfl
              have HW := Lib.hid (show v.f2b i = true from by rw [HF.out]; have e1 := beq_iff_eq.1 h1; have h9 : m0 = wn := (by omega); have := beq_eq_false_iff_ne.1 h2; have h8 : m1 ≠ wn := (by omega); simp [h8])
              have s1 : IntKind.i64.wrap ((v.nc : Int) + (i : Int)) = (v.nc : Int) + (i : Int) := IntWalk.i64_in _ (by omega)
              go_upto_region 14 with fail
              refine wp_region_held_drew (S := fun wx => ∃ fs', AuLk w0 wx g [.int .i64 v.now, .slice sa v.ns sc, .slice ca v.nc cc, .slice pa v.np pc, .slice qa v.nq qc, .int .i64 v.free, .int .i64 v.live, .int .i64 v.gone] fs') (by kernel_rfl) (⟨_, HL.out.step (Fp.refl _ _).drew⟩) (fun hHeld0 => ?_)
              refine any_eq hHeld0 (fun z1 hW hHeld => ?_)
              clear hHeld0
              replace HL := Lib.hid (HL.out.step (noW_drew hW))
              clear hW
              (refine tk 0 (some 63) ?_ ?_ ?_; rotate_left; (focus (intro wS hSw; go_simp; try with_reducible rfl)); (try simp only [Act.put, List.setIfInBounds_toArray, List.set_cons_zero, List.set_cons_succ]))
              (refine tk 1 (some 64) ?_ ?_ ?_; rotate_left; (focus (intro wS hSw; go_simp; try with_reducible rfl)); (try simp only [Act.put, List.setIfInBounds_toArray, List.set_cons_zero, List.set_cons_succ]))
              (refine tk 2 (some 65) ?_ ?_ ?_; rotate_left; (focus (intro wS hSw; go_simp; try with_reducible rfl)); (try simp only [Act.put, List.setIfInBounds_toArray, List.set_cons_zero, List.set_cons_succ]))
              (refine tk 4 (some 67) ?_ ?_ ?_; rotate_left; (focus (intro wS hSw; go_simp; try with_reducible rfl)); (try simp only [Act.put, List.setIfInBounds_toArray, List.set_cons_zero, List.set_cons_succ]))
              (refine tk 5 (some 68) ?_ ?_ ?_; rotate_left; (focus (intro wS hSw; go_simp; try with_reducible rfl)); (try simp only [Act.put, List.setIfInBounds_toArray, List.set_cons_zero, List.set_cons_succ]))
              (refine tk 17 (some 80) ?_ ?_ ?_; rotate_left; (focus (intro wS hSw; go_simp; try with_reducible rfl)); (try simp only [Act.put, List.setIfInBounds_toArray, List.set_cons_zero, List.set_cons_succ]))
              (refine tk 18 (some 81) ?_ ?_ ?_; rotate_left; (focus (intro wS hSw; go_simp; try with_reducible rfl)); (try simp only [Act.put, List.setIfInBounds_toArray, List.set_cons_zero, List.set_cons_succ]))
              (refine tk 19 (some 82) ?_ ?_ ?_; rotate_left; (focus (intro wS hSw; go_simp; try with_reducible rfl)); (try simp only [Act.put, List.setIfInBounds_toArray, List.set_cons_zero, List.set_cons_succ]))
              (refine tk 20 (some 83) ?_ ?_ ?_; rotate_left; (focus (intro wS hSw; go_simp; try with_reducible rfl)); (try simp only [Act.put, List.setIfInBounds_toArray, List.set_cons_zero, List.set_cons_succ]))
              (refine tk 21 (some 84) ?_ ?_ ?_; rotate_left; (focus (intro wS hSw; (have q2 := hSw.elim fun _ hl => hl.cell 2 rfl); (have ql := hSw.elim fun _ hl => hl.lt); go_simp; try with_reducible rfl)); (try simp only [Act.put, List.setIfInBounds_toArray, List.set_cons_zero, List.set_cons_succ]))
              (refine tk 22 (some 85) ?_ ?_ ?_; rotate_left; (focus (intro wS hSw; go_simp; try with_reducible rfl)); (try simp only [Act.put, List.setIfInBounds_toArray, List.set_cons_zero, List.set_cons_succ]))
              (refine tk 23 (some 86) ?_ ?_ ?_; rotate_left; (focus (intro wS hSw; go_simp; try with_reducible rfl)); (try simp only [Act.put, List.setIfInBounds_toArray, List.set_cons_zero, List.set_cons_succ]))
              (refine tk 24 (some 87) ?_ ?_ ?_; rotate_left; (focus (intro wS hSw; go_simp; try with_reducible rfl)); (try simp only [Act.put, List.setIfInBounds_toArray, List.set_cons_zero, List.set_cons_succ]))
              refine wpAnyH_ready (rs := [3]) (by kernel_rfl) (by simp) ?_
              refine AllReadyH.cons rfl (fun K hK => ?_) AllReadyH.nil
              go_simp
              go_at_call 43
              refine (show Calls _ _ _ _ _ from KM0.out _ hHeld).mono ?_
              rintro e z2 ⟨rfl, hp⟩
              have hn := hHeld.elim fun fs' hl => (show ∃ fs', AuLk w0 _ g [.int .i64 v.now, .slice sa v.ns sc, .slice ca v.nc cc, .slice pa v.np pc, .slice qa v.nq qc, .int .i64 v.free, .int .i64 v.live, .int .i64 v.gone] fs' from ⟨fs', hl.step hp⟩)
              replace HL := Lib.hid (HL.out.step hp)
              refine k_now hK hn ?_
              clear hK K hp hHeld
              have hHeld := hn
              clear hn
              try simp only [Act.put, List.setIfInBounds_toArray, List.set_cons_zero, List.set_cons_succ]
              refine wpAnyH_ready (rs := [6]) (by kernel_rfl) (by simp) ?_
              refine AllReadyH.cons rfl (fun K hK => ?_) AllReadyH.nil
              go_simp
              go_at_call 44
              refine (show Calls _ _ _ _ _ from KW.out _ hHeld).mono ?_
              rintro e z3 ⟨rfl, hp⟩
              have hn := hHeld.elim fun fs' hl => (show ∃ fs', AuLk w0 _ g [.int .i64 v.now, .slice sa v.ns sc, .slice ca v.nc cc, .slice pa v.np pc, .slice qa v.nq qc, .int .i64 v.free, .int .i64 v.live, .int .i64 v.gone] fs' from ⟨fs', hl.step hp⟩)
              replace HL := Lib.hid (HL.out.step hp)
              refine k_now hK hn ?_
              clear hK K hp hHeld
              have hHeld := hn
              clear hn
              try simp only [Act.put, List.setIfInBounds_toArray, List.set_cons_zero, List.set_cons_succ]
              (refine tk 7 (some 70) ?_ ?_ ?_; rotate_left; (focus (intro wS hSw; go_simp; try with_reducible rfl)); (try simp only [Act.put, List.setIfInBounds_toArray, List.set_cons_zero, List.set_cons_succ]))
              (refine tk 8 (some 71) ?_ ?_ ?_; rotate_left; (focus (intro wS hSw; go_simp; try with_reducible rfl)); (try simp only [Act.put, List.setIfInBounds_toArray, List.set_cons_zero, List.set_cons_succ]))
              (refine tk 9 (some 72) ?_ ?_ ?_; rotate_left; (focus (intro wS hSw; go_simp; try with_reducible rfl)); (try simp only [Act.put, List.setIfInBounds_toArray, List.set_cons_zero, List.set_cons_succ]))
              (refine tk 10 (some 73) ?_ ?_ ?_; rotate_left; (focus (intro wS hSw; go_simp; try with_reducible rfl)); (try simp only [Act.put, List.setIfInBounds_toArray, List.set_cons_zero, List.set_cons_succ]))
              (refine tk 12 (some 75) ?_ ?_ ?_; rotate_left; (focus (intro wS hSw; go_simp; try with_reducible rfl)); (try simp only [Act.put, List.setIfInBounds_toArray, List.set_cons_zero, List.set_cons_succ]))
              (refine tk 13 (some 76) ?_ ?_ ?_; rotate_left; (focus (intro wS hSw; go_simp; try with_reducible rfl)); (try simp only [Act.put, List.setIfInBounds_toArray, List.set_cons_zero, List.set_cons_succ]))
              refine wpAnyH_ready (rs := [11]) (by kernel_rfl) (by simp) ?_
              refine AllReadyH.cons rfl (fun K hK => ?_) AllReadyH.nil
              go_simp
              go_at_call 43
              refine (show Calls _ _ _ _ _ from KM1.out _ hHeld).mono ?_
              rintro e z4 ⟨rfl, hp⟩
              have hn := hHeld.elim fun fs' hl => (show ∃ fs', AuLk w0 _ g [.int .i64 v.now, .slice sa v.ns sc, .slice ca v.nc cc, .slice pa v.np pc, .slice qa v.nq qc, .int .i64 v.free, .int .i64 v.live, .int .i64 v.gone] fs' from ⟨fs', hl.step hp⟩)
              replace HL := Lib.hid (HL.out.step hp)
              refine k_now hK hn ?_
              clear hK K hp hHeld
              have hHeld := hn
              clear hn
              try simp only [Act.put, List.setIfInBounds_toArray, List.set_cons_zero, List.set_cons_succ]
              refine wpAnyH_ready (rs := [14]) (by kernel_rfl) (by simp) ?_
              refine AllReadyH.cons rfl (fun K hK => ?_) AllReadyH.nil
              go_simp
              go_at_call 44
              refine (show Calls _ _ _ _ _ from KW.out _ hHeld).mono ?_
              rintro e z5 ⟨rfl, hp⟩
              have hn := hHeld.elim fun fs' hl => (show ∃ fs', AuLk w0 _ g [.int .i64 v.now, .slice sa v.ns sc, .slice ca v.nc cc, .slice pa v.np pc, .slice qa v.nq qc, .int .i64 v.free, .int .i64 v.live, .int .i64 v.gone] fs' from ⟨fs', hl.step hp⟩)
              replace HL := Lib.hid (HL.out.step hp)
              refine k_now hK hn ?_
              clear hK K hp hHeld
              have hHeld := hn
              clear hn
              try simp only [Act.put, List.setIfInBounds_toArray, List.set_cons_zero, List.set_cons_succ]
              (refine tk 15 (some 78) ?_ ?_ ?_; rotate_left; (focus (intro wS hSw; go_simp; try with_reducible rfl)); (try simp only [Act.put, List.setIfInBounds_toArray, List.set_cons_zero, List.set_cons_succ]))
              (refine tk 16 (some 79) ?_ ?_ ?_; rotate_left; (focus (intro wS hSw; go_simp; try with_reducible rfl)); (try simp only [Act.put, List.setIfInBounds_toArray, List.set_cons_zero, List.set_cons_succ]))
              refine wpAnyH_ready (rs := [25]) (by kernel_rfl) (by simp) ?_
              refine AllReadyH.cons rfl (fun K hK => ?_) AllReadyH.nil
              go_simp
              go_at_call 38
              refine (show Calls _ _ _ _ _ from note_ok true w0 _ g _ _ _ _ _ _ _ _ _ 2 _ HL.out (by have h1 := HFs.out; have h2 := flt_len 2 0 v.f2 v.nc; have h3 := flt_len 2 (v.nc : Int) v.f2b i; simp only [List.length_append]; omega)).mono ?_
              rintro e z6 ⟨rfl, hL⟩
              clear hHeld
              have hHeld : ∃ fs', AuLk w0 _ g [.int .i64 v.now, .slice sa v.ns sc, .slice ca v.nc cc, .slice pa v.np pc, .slice qa v.nq qc, .int .i64 v.free, .int .i64 v.live, .int .i64 v.gone] fs' := ⟨_, hL⟩
              replace HL := Lib.hid hL
              clear hL
              refine k_now hK hHeld ?_
              clear hK K
              try simp only [Act.put, List.setIfInBounds_toArray, List.set_cons_zero, List.set_cons_succ]
              refine wpAnyH_done (by kernel_rfl) ?_ _
              go_wp2_with fail
              go_roundg (v.ns - i)
              case measure => have := Hg3.out; omega
              case rel => exact ⟨i + 1, by omega, by omega, by go_num, by have h9 := HL.out; rw [flt_yes HW.out]; simpa using h9⟩
            · skip
              have h1n : ((m0 : Int) != (wn : Int)) = false := by simp only [bne, h1]; rfl
              have h2n : ((m1 : Int) != (wn : Int)) = false := by simp only [bne, h2]; rfl
              have HW := Lib.hid (show v.f2b i = false from by rw [HF.out]; have e1 := beq_iff_eq.1 h1; have h9 : m0 = wn := (by omega); have e2 := beq_iff_eq.1 h2; have h8 : m1 = wn := (by omega); simp [h9, h8])
              have s1 : IntKind.i64.wrap ((v.nc : Int) + (i : Int)) = (v.nc : Int) + (i : Int) := IntWalk.i64_in _ (by omega)
              go_upto_region 14 with fail
              refine wp_region_held_drew (S := fun wx => ∃ fs', AuLk w0 wx g [.int .i64 v.now, .slice sa v.ns sc, .slice ca v.nc cc, .slice pa v.np pc, .slice qa v.nq qc, .int .i64 v.free, .int .i64 v.live, .int .i64 v.gone] fs') (by kernel_rfl) (⟨_, HL.out.step (Fp.refl _ _).drew⟩) (fun hHeld0 => ?_)
              refine any_eq hHeld0 (fun z1 hW hHeld => ?_)
              clear hHeld0
              replace HL := Lib.hid (HL.out.step (noW_drew hW))
              clear hW
              (refine tk 0 (some 63) ?_ ?_ ?_; rotate_left; (focus (intro wS hSw; go_simp; try with_reducible rfl)); (try simp only [Act.put, List.setIfInBounds_toArray, List.set_cons_zero, List.set_cons_succ]))
              (refine tk 1 (some 64) ?_ ?_ ?_; rotate_left; (focus (intro wS hSw; go_simp; try with_reducible rfl)); (try simp only [Act.put, List.setIfInBounds_toArray, List.set_cons_zero, List.set_cons_succ]))
              (refine tk 2 (some 65) ?_ ?_ ?_; rotate_left; (focus (intro wS hSw; go_simp; try with_reducible rfl)); (try simp only [Act.put, List.setIfInBounds_toArray, List.set_cons_zero, List.set_cons_succ]))
              (refine tk 4 (some 67) ?_ ?_ ?_; rotate_left; (focus (intro wS hSw; go_simp; try with_reducible rfl)); (try simp only [Act.put, List.setIfInBounds_toArray, List.set_cons_zero, List.set_cons_succ]))
              (refine tk 5 (some 68) ?_ ?_ ?_; rotate_left; (focus (intro wS hSw; go_simp; try with_reducible rfl)); (try simp only [Act.put, List.setIfInBounds_toArray, List.set_cons_zero, List.set_cons_succ]))
              (refine tk 17 (some 80) ?_ ?_ ?_; rotate_left; (focus (intro wS hSw; go_simp; try with_reducible rfl)); (try simp only [Act.put, List.setIfInBounds_toArray, List.set_cons_zero, List.set_cons_succ]))
              (refine tk 18 (some 81) ?_ ?_ ?_; rotate_left; (focus (intro wS hSw; go_simp; try with_reducible rfl)); (try simp only [Act.put, List.setIfInBounds_toArray, List.set_cons_zero, List.set_cons_succ]))
              (refine tk 19 (some 82) ?_ ?_ ?_; rotate_left; (focus (intro wS hSw; go_simp; try with_reducible rfl)); (try simp only [Act.put, List.setIfInBounds_toArray, List.set_cons_zero, List.set_cons_succ]))
              (refine tk 20 (some 83) ?_ ?_ ?_; rotate_left; (focus (intro wS hSw; go_simp; try with_reducible rfl)); (try simp only [Act.put, List.setIfInBounds_toArray, List.set_cons_zero, List.set_cons_succ]))
              (refine tk 21 (some 84) ?_ ?_ ?_; rotate_left; (focus (intro wS hSw; (have q2 := hSw.elim fun _ hl => hl.cell 2 rfl); (have ql := hSw.elim fun _ hl => hl.lt); go_simp; try with_reducible rfl)); (try simp only [Act.put, List.setIfInBounds_toArray, List.set_cons_zero, List.set_cons_succ]))
              (refine tk 22 (some 85) ?_ ?_ ?_; rotate_left; (focus (intro wS hSw; go_simp; try with_reducible rfl)); (try simp only [Act.put, List.setIfInBounds_toArray, List.set_cons_zero, List.set_cons_succ]))
              (refine tk 23 (some 86) ?_ ?_ ?_; rotate_left; (focus (intro wS hSw; go_simp; try with_reducible rfl)); (try simp only [Act.put, List.setIfInBounds_toArray, List.set_cons_zero, List.set_cons_succ]))
              (refine tk 24 (some 87) ?_ ?_ ?_; rotate_left; (focus (intro wS hSw; go_simp; try with_reducible rfl)); (try simp only [Act.put, List.setIfInBounds_toArray, List.set_cons_zero, List.set_cons_succ]))
              refine wpAnyH_ready (rs := [3]) (by kernel_rfl) (by simp) ?_
              refine AllReadyH.cons rfl (fun K hK => ?_) AllReadyH.nil
              go_simp
              go_at_call 43
              refine (show Calls _ _ _ _ _ from KM0.out _ hHeld).mono ?_
              rintro e z2 ⟨rfl, hp⟩
              have hn := hHeld.elim fun fs' hl => (show ∃ fs', AuLk w0 _ g [.int .i64 v.now, .slice sa v.ns sc, .slice ca v.nc cc, .slice pa v.np pc, .slice qa v.nq qc, .int .i64 v.free, .int .i64 v.live, .int .i64 v.gone] fs' from ⟨fs', hl.step hp⟩)
              replace HL := Lib.hid (HL.out.step hp)
              refine k_now hK hn ?_
              clear hK K hp hHeld
              have hHeld := hn
              clear hn
              try simp only [Act.put, List.setIfInBounds_toArray, List.set_cons_zero, List.set_cons_succ]
              refine wpAnyH_ready (rs := [6]) (by kernel_rfl) (by simp) ?_
              refine AllReadyH.cons rfl (fun K hK => ?_) AllReadyH.nil
              go_simp
              go_at_call 44
              refine (show Calls _ _ _ _ _ from KW.out _ hHeld).mono ?_
              rintro e z3 ⟨rfl, hp⟩
              have hn := hHeld.elim fun fs' hl => (show ∃ fs', AuLk w0 _ g [.int .i64 v.now, .slice sa v.ns sc, .slice ca v.nc cc, .slice pa v.np pc, .slice qa v.nq qc, .int .i64 v.free, .int .i64 v.live, .int .i64 v.gone] fs' from ⟨fs', hl.step hp⟩)
              replace HL := Lib.hid (HL.out.step hp)
              refine k_now hK hn ?_
              clear hK K hp hHeld
              have hHeld := hn
              clear hn
              try simp only [Act.put, List.setIfInBounds_toArray, List.set_cons_zero, List.set_cons_succ]
              (refine tk 7 (some 70) ?_ ?_ ?_; rotate_left; (focus (intro wS hSw; go_simp; try with_reducible rfl)); (try simp only [Act.put, List.setIfInBounds_toArray, List.set_cons_zero, List.set_cons_succ]))
              (refine tk 8 (some 71) ?_ ?_ ?_; rotate_left; (focus (intro wS hSw; go_simp; try with_reducible rfl)); (try simp only [Act.put, List.setIfInBounds_toArray, List.set_cons_zero, List.set_cons_succ]))
              (refine tk 9 (some 72) ?_ ?_ ?_; rotate_left; (focus (intro wS hSw; go_simp; try with_reducible rfl)); (try simp only [Act.put, List.setIfInBounds_toArray, List.set_cons_zero, List.set_cons_succ]))
              (refine tk 10 (some 73) ?_ ?_ ?_; rotate_left; (focus (intro wS hSw; go_simp; try with_reducible rfl)); (try simp only [Act.put, List.setIfInBounds_toArray, List.set_cons_zero, List.set_cons_succ]))
              (refine tk 12 (some 75) ?_ ?_ ?_; rotate_left; (focus (intro wS hSw; go_simp; try with_reducible rfl)); (try simp only [Act.put, List.setIfInBounds_toArray, List.set_cons_zero, List.set_cons_succ]))
              (refine tk 13 (some 76) ?_ ?_ ?_; rotate_left; (focus (intro wS hSw; go_simp; try with_reducible rfl)); (try simp only [Act.put, List.setIfInBounds_toArray, List.set_cons_zero, List.set_cons_succ]))
              refine wpAnyH_ready (rs := [11]) (by kernel_rfl) (by simp) ?_
              refine AllReadyH.cons rfl (fun K hK => ?_) AllReadyH.nil
              go_simp
              go_at_call 43
              refine (show Calls _ _ _ _ _ from KM1.out _ hHeld).mono ?_
              rintro e z4 ⟨rfl, hp⟩
              have hn := hHeld.elim fun fs' hl => (show ∃ fs', AuLk w0 _ g [.int .i64 v.now, .slice sa v.ns sc, .slice ca v.nc cc, .slice pa v.np pc, .slice qa v.nq qc, .int .i64 v.free, .int .i64 v.live, .int .i64 v.gone] fs' from ⟨fs', hl.step hp⟩)
              replace HL := Lib.hid (HL.out.step hp)
              refine k_now hK hn ?_
              clear hK K hp hHeld
              have hHeld := hn
              clear hn
              try simp only [Act.put, List.setIfInBounds_toArray, List.set_cons_zero, List.set_cons_succ]
              refine wpAnyH_ready (rs := [14]) (by kernel_rfl) (by simp) ?_
              refine AllReadyH.cons rfl (fun K hK => ?_) AllReadyH.nil
              go_simp
              go_at_call 44
              refine (show Calls _ _ _ _ _ from KW.out _ hHeld).mono ?_
              rintro e z5 ⟨rfl, hp⟩
              have hn := hHeld.elim fun fs' hl => (show ∃ fs', AuLk w0 _ g [.int .i64 v.now, .slice sa v.ns sc, .slice ca v.nc cc, .slice pa v.np pc, .slice qa v.nq qc, .int .i64 v.free, .int .i64 v.live, .int .i64 v.gone] fs' from ⟨fs', hl.step hp⟩)
              replace HL := Lib.hid (HL.out.step hp)
              refine k_now hK hn ?_
              clear hK K hp hHeld
              have hHeld := hn
              clear hn
              try simp only [Act.put, List.setIfInBounds_toArray, List.set_cons_zero, List.set_cons_succ]
              (refine tk 15 (some 78) ?_ ?_ ?_; rotate_left; (focus (intro wS hSw; go_simp; try with_reducible rfl)); (try simp only [Act.put, List.setIfInBounds_toArray, List.set_cons_zero, List.set_cons_succ]))
              (refine tk 16 (some 79) ?_ ?_ ?_; rotate_left; (focus (intro wS hSw; go_simp; try with_reducible rfl)); (try simp only [Act.put, List.setIfInBounds_toArray, List.set_cons_zero, List.set_cons_succ]))
              refine wpAnyH_ready (rs := [25]) (by kernel_rfl) (by simp) ?_
              refine AllReadyH.cons rfl (fun K hK => ?_) AllReadyH.nil
              go_simp
              go_at_call 38
              refine (show Calls _ _ _ _ _ from note_ok false w0 _ g _ _ _ _ _ _ _ _ _ 2 _ HL.out (by have h1 := HFs.out; have h2 := flt_len 2 0 v.f2 v.nc; have h3 := flt_len 2 (v.nc : Int) v.f2b i; simp only [List.length_append]; omega)).mono ?_
              rintro e z6 ⟨rfl, hL⟩
              clear hHeld
              have hHeld : ∃ fs', AuLk w0 _ g [.int .i64 v.now, .slice sa v.ns sc, .slice ca v.nc cc, .slice pa v.np pc, .slice qa v.nq qc, .int .i64 v.free, .int .i64 v.live, .int .i64 v.gone] fs' := ⟨_, hL⟩
              replace HL := Lib.hid hL
              clear hL
              refine k_now hK hHeld ?_
              clear hK K
              try simp only [Act.put, List.setIfInBounds_toArray, List.set_cons_zero, List.set_cons_succ]
              refine wpAnyH_done (by kernel_rfl) ?_ _
              go_wp2_with fail
              go_roundg (v.ns - i)
              case measure => have := Hg3.out; omega
              case rel => exact ⟨i + 1, by omega, by omega, by go_num, by have h9 := HL.out; rw [flt_no HW.out]; simpa using h9⟩
        · obtain rfl : i = v.ns := by omega
          have pk : decide ((v.ns : Int) < (v.ns : Int)) = false := decide_eq_false (by omega)
          go_wp2_with fail
          go_end0
          exact ⟨rfl, HL.out⟩
end Go.Proofs.YtcimbbllefkdlaaGreatDoor
