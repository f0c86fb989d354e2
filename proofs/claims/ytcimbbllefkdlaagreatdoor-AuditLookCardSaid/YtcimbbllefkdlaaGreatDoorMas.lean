/- Texts of this proof, merged: AuQ AuR AuS. -/
import Derived.Test.YtcimbbllefkdlaaGreatDoorMar
import Derived.Test.YtcimbbllefkdlaaGreatDoorMan
import Derived.Test.YtcimbbllefkdlaaGreatDoorMah
import Derived.Test.YtcimbbllefkdlaaGreatDoorMaa
import Derived.Test.YtcimbbllefkdlaaGreatDoorMab
import Derived.Test.YtcimbbllefkdlaaGreatDoorMac
import Derived.Test.YtcimbbllefkdlaaGreatDoorMad
import Derived.Test.YtcimbbllefkdlaaGreatDoorMae
import Derived.Test.YtcimbbllefkdlaaGreatDoorMaf
import Derived.Test.YtcimbbllefkdlaaGreatDoorMag
import Derived.Test.YtcimbbllefkdlaaGreatDoorMai
import Derived.Test.YtcimbbllefkdlaaGreatDoorMaj
import Derived.Test.YtcimbbllefkdlaaGreatDoorMak
import Derived.Test.YtcimbbllefkdlaaGreatDoorMal
import Derived.Test.YtcimbbllefkdlaaGreatDoorMam
import Derived.Test.YtcimbbllefkdlaaGreatDoorMao
import Derived.Test.YtcimbbllefkdlaaGreatDoorMap
import Derived.Test.YtcimbbllefkdlaaGreatDoorMaq
namespace Go.Proofs.YtcimbbllefkdlaaGreatDoor
set_option linter.unusedVariables false
set_option linter.unusedSimpArgs false
open Go.RowKit Go.Lib Go.Sort
/-- The chain of a tuple, told by the document. -/
def RHashOk : Prop := ∀ (r a p b q : Nat) (n : Nat) (W : World), r < 256 → a < 4294967296 → p < 65536 → b < 4294967296 → q < 65536 → n ≤ 100 → Calls Tryz.prog 27 #[.agg #[.int .u8 r, .int .u32 a, .int .u16 p, .int .u32 b, .int .u16 q], .int .i64 (n : Int)] W (Ret1 (.int .i64 (hashOf r a p b q n)) W)
set_option maxHeartbeats 8000000 in
set_option maxRecDepth 100000 in
theorem rlinks_ok (v : VD) (sa ca pa qa : Option Addr) (sc cc pc qc : Nat) (cad : Nat → Option Addr) (cc' : Nat → Nat) (i : Nat) (bk : Bool) (hnc : v.nc ≤ 100) (hcn : ∀ c, v.cn c ≤ 100) (w0 W : World) (hC : AtC w0 ca v.nc 1 (fun c => [.slice (cad c) (v.cn c) (cc' c)])) (hK : ∀ c, c < v.nc → AtC w0 (cad c) (v.cn c) 3 (fun k => (v.C c k).cs)) (hW0 : NoW w0 W) :
    Calls Tryz.prog 21 #[.agg #[.int .i64 v.now, .slice sa v.ns sc, .slice ca v.nc cc, .slice pa v.np pc, .slice qa v.nq qc, .int .i64 v.free, .int .i64 v.live, .int .i64 v.gone], .int .i64 (i : Int), .bool bk] W (Ret1 (.int .i64 (v.many i bk v.nc : Nat)) W) := by
  have HW0 := Lib.hid hW0
  clear hW0
  have HC := Lib.hid hC
  have HK := Lib.hid hK
  have HCn := Lib.hid hcn
  have HM := Lib.hid (fun c => sumR_le (f := fun c => cntR (v.cn c) fun k => v.isL c k i bk) (m := 100) (fun c => Nat.le_trans (cntR_le _ _) (hcn c)) c)
  clear hC hK hcn
  go_enter Tryz.func21, Tryz.ntmps21
  have HN := Lib.hid (Fp.refl (fun _ => False) W)
  go_upto_region 1 with fail
  refine wp_gen (fun Vw hW => ?_)
  have hp := new_now hW
  have hB := new_blk hW
  clear hW
  replace HN := hid_now HN hp
  obtain ⟨gV, hgV⟩ : ∃ gV, gV = W.heap.size := ⟨_, rfl⟩
  rw [← hgV] at hB ⊢
  have B_V := hB
  clear hB hp hgV
  have c2 := cell_at B_V 2 rfl
  have lV := hid_lt B_V
  go_wp2_with fail
  clear c2 lV
  have HX := Lib.hid (Fp.refl (fun _ => False) Vw)
  go_loopg [8, 7] (v.nc + 1) (fun gg iv nv wx => ∃ (c : Nat), c ≤ v.nc ∧ gg = v.nc + 1 - c ∧ iv = .int .i64 (c : Int) ∧ nv = .int .i64 (v.many i bk c : Nat) ∧ NoW Vw wx)
  case atStart => exact ⟨0, by omega, by omega, rfl, rfl, HX.out⟩
  case round =>
    clear HX
    obtain ⟨c, hc, hg, rfl, rfl, hN⟩ := hrel
    have Hg := Lib.hid hg
    replace HN := hid_now HN hN
    have HX := Lib.hid hN
    replace B_V := hid_blk B_V hN
    clear hg hN
    by_cases hlt : c < v.nc
    · skip
      obtain ⟨b1, o1, hs1, lb1, xc⟩ := (HC.out.low (HW0.out.trans HN.out (fun _ _ h => h))) c hlt
      subst hs1
      obtain ⟨ad, had⟩ : ∃ a, a = cad c := ⟨_, rfl⟩
      have x0 : wr.cell? ⟨b1, o1 + c, none⟩ = some (.slice ad (v.cn c) (cc' c)) := by have := xc 0 _ rfl; rw [had]; simpa using this
      clear xc
      have HCc := Lib.hid (HK.out c hlt)
      rw [← had] at HCc
      clear had
      have HNc := Lib.hid (HCn.out c)
      have pk : decide ((c : Int) < (v.nc : Int)) = true := decide_eq_true (by omega)
      have ck : (c : Int) < (v.nc : Int) := by omega
      have hm0 := HM.out c
      have HM0 := Lib.hid (show v.many i bk c ≤ 10000 from Nat.le_trans hm0 (by omega))
      clear hm0
      have c2 := cell_at B_V 2 rfl
      have lV := hid_lt B_V
      go_wp2_with fail
      have X0 := Lib.hid x0
      have LB1 := Lib.hid lb1
      clear x0 lb1 c2 lV
      have HY := Lib.hid (Fp.refl (fun _ => False) wr)
      go_loopg [9, 7] (v.cn c + 1) (fun gg2 kv nv wx => ∃ (k : Nat), k ≤ v.cn c ∧ gg2 = v.cn c + 1 - k ∧ kv = .int .i64 (k : Int) ∧ nv = .int .i64 ((v.many i bk c + cntR k (fun k => v.isL c k i bk) : Nat) : Int) ∧ NoW Vw wx ∧ NoW wr wx)
      case atStart => exact ⟨0, by omega, by omega, rfl, by simp [cntR], HX.out, HY.out⟩
      case round =>
        clear HX HY
        obtain ⟨k, hk, hg2, rfl, rfl, hN, hY⟩ := hrel
        have Hg2 := Lib.hid hg2
        replace HN := hid_now HN hY
        have HX := Lib.hid hN
        have HY := Lib.hid hY
        replace B_V := hid_blk B_V hY
        have x0 := (hY.cell (p := ⟨b1, o1 + c, none⟩) LB1.out id).trans X0.out
        have lb1 := cell_lt x0
        dsimp only at lb1
        clear hg2 hN hY
        have bn : v.cn c ≤ 100 := HNc.out
        have ck : (c : Int) < (v.nc : Int) := by omega
        have hc1 := cntR_le k (fun k => v.isL c k i bk)
        obtain ⟨N, hN⟩ : ∃ N, N = v.many i bk c + cntR k (fun k => v.isL c k i bk) := ⟨_, rfl⟩
        have hNl : N ≤ 20000 := by have := HM0.out; omega
        rw [← hN]
        have HNN := Lib.hid hN
        clear hN hc1
        by_cases hlk : k < v.cn c
        · skip
          obtain ⟨b2, o2, hs2, lb2, xc⟩ := (HCc.out.low (HW0.out.trans HN.out (fun _ _ h => h))) k hlk
          subst hs2
          have y0 : wr.cell? ⟨b2, o2 + k * 3, none⟩ = some (.int .i64 (v.C c k).slot) := xc 0 _ rfl
          have y1 : wr.cell? ⟨b2, o2 + k * 3 + 1, none⟩ = some (.int .u32 (v.C c k).gen) := xc 1 _ rfl
          have y2 : wr.cell? ⟨b2, o2 + k * 3 + 2, none⟩ = some (.bool (v.C c k).back) := xc 2 _ rfl
          clear xc
          have pk2 : decide ((k : Int) < (v.cn c : Int)) = true := decide_eq_true (by omega)
          have ck2 : (k : Int) < (v.cn c : Int) := by omega
          have hst : ∀ b, v.isL c k i bk = b → (v.many i bk c + cntR (k + 1) (fun k => v.isL c k i bk)) = N + if b then 1 else 0 := fun b hb => by rw [cntR_succ, hb, HNN.out]; omega
          have HSt := Lib.hid hst
          clear hst
          have c2 := cell_at B_V 2 rfl
          have lV := hid_lt B_V
          rcases h1 : ((v.C c k).slot == (i : Int)) with _ | _
          · skip
            have e1 : v.isL c k i bk = false := by unfold VD.isL; rw [decide_eq_false (beq_eq_false_iff_ne.1 h1)]; rfl
            have HE := Lib.hid (HSt.out _ e1)
            clear e1 HSt
            go_wp2_with fail
            go_roundg (v.cn c - k)
            case measure => have := Hg2.out; omega
            case rel => exact ⟨k + 1, by omega, by omega, by go_num, by rw [HE.out]; rfl, HX.out, HY.out⟩
          · rcases h2 : ((v.C c k).back == bk) with _ | _
            · skip
              have e1 : v.isL c k i bk = false := by unfold VD.isL; rw [decide_eq_false (beq_eq_false_iff_ne.1 h2)]; simp
              have HE := Lib.hid (HSt.out _ e1)
              clear e1 HSt
              go_wp2_with fail
              go_roundg (v.cn c - k)
              case measure => have := Hg2.out; omega
              case rel => exact ⟨k + 1, by omega, by omega, by go_num, by rw [HE.out]; rfl, HX.out, HY.out⟩
            · skip
              have e1 : v.isL c k i bk = true := by unfold VD.isL; rw [decide_eq_true (beq_iff_eq.1 h1), decide_eq_true (beq_iff_eq.1 h2)]; rfl
              have HE := Lib.hid (HSt.out _ e1)
              clear e1 HSt
              go_wp2_with fail
              go_roundg (v.cn c - k)
              case measure => have := Hg2.out; omega
              case rel => exact ⟨k + 1, by omega, by omega, by go_num, by rw [HE.out]; go_num, HX.out, HY.out⟩
        · obtain rfl : k = v.cn c := by omega
          have pk2 : decide ((v.cn c : Int) < (v.cn c : Int)) = false := decide_eq_false (by omega)
          have HE := Lib.hid (show v.many i bk (c + 1) = N from by rw [HNN.out]; rfl)
          have c2 := cell_at B_V 2 rfl
          have lV := hid_lt B_V
          go_wp2_with fail
          go_roundg (v.nc - c)
          case measure => have := Hg.out; omega
          case rel => exact ⟨c + 1, by omega, by omega, by go_num, by rw [HE.out], HX.out⟩
    · obtain rfl : c = v.nc := by omega
      have pk : decide ((v.nc : Int) < (v.nc : Int)) = false := decide_eq_false (by omega)
      have c2 := cell_at B_V 2 rfl
      have lV := hid_lt B_V
      go_wp2_with fail
      go_ret
      exact ⟨rfl, HN.out⟩
end Go.Proofs.YtcimbbllefkdlaaGreatDoor

namespace Go.Proofs.YtcimbbllefkdlaaGreatDoor
set_option linter.unusedVariables false
set_option linter.unusedSimpArgs false
open Go.RowKit Go.Lib Go.Sort
set_option maxHeartbeats 8000000 in
set_option maxRecDepth 100000 in
theorem rchain_ok (v : VD) (sa ca pa qa : Option Addr) (sc cc pc qc : Nat) (hs : Nat → Int) (hg : Nat → Nat) (cad : Nat → Option Addr) (cc' : Nat → Nat) (c : Nat) (hc : c < v.nc) (hnc : v.nc ≤ 100) (hcn : ∀ c, v.cn c ≤ 100) (w0 W : World) (hH : RHashOk) (hS : AtC w0 sa v.ns 18 (fun i => (v.S i).cs ++ [.int .i64 (hs i), .int .u32 (hg i)])) (hok : ∀ i, i < v.ns → (v.S i).e.Ok) (hC : AtC w0 ca v.nc 1 (fun c => [.slice (cad c) (v.cn c) (cc' c)])) (hK : ∀ c, c < v.nc → AtC w0 (cad c) (v.cn c) 3 (fun k => (v.C c k).cs)) (hW0 : NoW w0 W) :
    Calls Tryz.prog 20 #[.agg #[.int .i64 v.now, .slice sa v.ns sc, .slice ca v.nc cc, .slice pa v.np pc, .slice qa v.nq qc, .int .i64 v.free, .int .i64 v.live, .int .i64 v.gone], .int .i64 (c : Int)] W (Ret1 (.bool (v.f2 c)) W) := by
  have HW0 := Lib.hid hW0
  clear hW0
  have HS := Lib.hid hS
  have HC := Lib.hid hC
  have HK := Lib.hid (hK c hc)
  have HH := Lib.hid hH
  have Hok := Lib.hid hok
  have HCn := Lib.hid (hcn c)
  clear hS hC hK hH hok hcn
  obtain ⟨res, hr⟩ : ∃ r, r = v.f2 c := ⟨_, rfl⟩
  rw [← hr]
  have HR := Lib.hid hr
  clear hr
  obtain ⟨ad, had⟩ : ∃ a, a = cad c := ⟨_, rfl⟩
  rw [← had] at HK
  go_enter Tryz.func20, Tryz.ntmps20
  have HN := Lib.hid (Fp.refl (fun _ => False) W)
  go_upto_region 1 with fail
  refine wp_gen (fun Vw hW => ?_)
  have hp := new_now hW
  have hB := new_blk hW
  clear hW
  replace HN := hid_now HN hp
  obtain ⟨gV, hgV⟩ : ∃ gV, gV = W.heap.size := ⟨_, rfl⟩
  rw [← hgV] at hB ⊢
  have B_V := hB
  clear hB hp hgV
  obtain ⟨b1, o1, hs1, lb1, xc⟩ := (HC.out.low (HW0.out.trans HN.out (fun _ _ h => h))) c hc
  subst hs1
  have x0 : Vw.cell? ⟨b1, o1 + c, none⟩ = some (.slice (cad c) (v.cn c) (cc' c)) := by have := xc 0 _ rfl; simpa using this
  rw [← had] at x0
  have X0 := Lib.hid x0
  clear xc x0 had
  have LB1 := Lib.hid lb1
  clear lb1
  go_wp2_with fail
  have HX := Lib.hid (Fp.refl (fun _ => False) Vw)
  go_loopg [5] (v.cn c + 1) (fun gg kv wx => ∃ (k : Nat), k ≤ v.cn c ∧ gg = v.cn c + 1 - k ∧ kv = .int .i64 (k : Int) ∧ anyR k (v.badL c) = false ∧ NoW Vw wx)
  case atStart => exact ⟨0, by omega, by omega, rfl, rfl, HX.out⟩
  case round =>
    clear HX
    obtain ⟨k, hk, hg, rfl, hA, hN⟩ := hrel
    have Hg := Lib.hid hg
    replace HN := hid_now HN hN
    have HX := Lib.hid hN
    have HA := Lib.hid hA
    replace B_V := hid_blk B_V hN
    clear hg hN hA
    have bn : v.cn c ≤ 100 := HCn.out
    have ck1 : (c : Int) < (v.nc : Int) := by omega
    have x0 := (HX.out.cell (p := ⟨b1, o1 + c, none⟩) LB1.out id).trans X0.out
    have lb1 := cell_lt x0
    dsimp only at lb1
    by_cases hlt2 : k < v.cn c
    · skip
      obtain ⟨b2, o2, hs2, lb2, xc⟩ := (HK.out.low (HW0.out.trans HN.out (fun _ _ h => h))) k hlt2
      subst hs2
      have y0 : wr.cell? ⟨b2, o2 + k * 3, none⟩ = some (.int .i64 (v.C c k).slot) := xc 0 _ rfl
      have y1 : wr.cell? ⟨b2, o2 + k * 3 + 1, none⟩ = some (.int .u32 (v.C c k).gen) := xc 1 _ rfl
      have y2 : wr.cell? ⟨b2, o2 + k * 3 + 2, none⟩ = some (.bool (v.C c k).back) := xc 2 _ rfl
      clear xc
      have pk2 : decide ((k : Int) < (v.cn c : Int)) = true := decide_eq_true (by omega)
      have ck2 : (k : Int) < (v.cn c : Int) := by omega
      have c2 := cell_at B_V 2 rfl
      have lV := hid_lt B_V
      go_upto_region 5 with fail
      clear x0 lb1 y0 y1 y2 lb2 c2 lV
      refine wp_gen (fun Lw hW => ?_)
      have hp := new_now hW
      have hB := new_blk hW
      clear hW
      replace HN := hid_now HN hp
      replace B_V := hid_blk B_V hp
      replace HX := hid_now HX hp
      obtain ⟨gL, hgL⟩ : ∃ gL, gL = wr.heap.size := ⟨_, rfl⟩
      rw [← hgL] at hB ⊢
      have B_L := hB
      clear hB hp hgL
      obtain ⟨L0, hL0⟩ : ∃ l, l = v.C c k := ⟨_, rfl⟩
      rw [← hL0] at B_L
      obtain ⟨sl, gn, bk⟩ := L0
      have HL0 := Lib.hid hL0
      clear hL0
      dsimp only at B_L
      have c0 := cell_at B_V 0 rfl
      have c1 := cell_at B_V 1 rfl
      have c2 := cell_at B_V 2 rfl
      have c3 := cell_at B_V 3 rfl
      have c4 := cell_at B_V 4 rfl
      have c5 := cell_at B_V 5 rfl
      have c6 := cell_at B_V 6 rfl
      have c7 := cell_at B_V 7 rfl
      have lV := hid_lt B_V
      have d0 := cell_at B_L 0 rfl
      have lL := hid_lt B_L
      rcases hpu : v.putS sl with _ | _
      · skip
        have HPut := Lib.hid hpu
        obtain rfl : res = true := HR.out.trans (anyR_yes hlt2 (by unfold VD.badL; rw [← HL0.out]; simp only [hpu]; rfl))
        clear hpu
        go_wp2_with fail
        refine (rput_ok v _ _ _ _ _ _ _ _ hs hg sl w0 _ HS.out (HW0.out.trans HN.out (fun _ _ h => h))).mono ?_
        rw [HPut.out]
        rintro e z1 ⟨rfl, hp⟩
        replace HN := hid_now HN hp
        replace HX := hid_now HX hp
        replace B_V := hid_blk B_V hp
        replace B_L := hid_blk B_L hp
        clear hp lV lL d0 c0 c1 c2 c3 c4 c5 c6 c7
        go_wp2_with fail
        go_ret
        exact ⟨rfl, HN.out⟩
      · have HPut := Lib.hid hpu
        obtain ⟨i, rfl⟩ : ∃ i : Nat, sl = (i : Int) := ⟨sl.toNat, by unfold VD.putS at hpu; rcases h0 : decide (0 ≤ sl) with _ | _; (rw [h0] at hpu; cases hpu); have := of_decide_eq_true h0; omega⟩
        have hi : i < v.ns := by unfold VD.putS at hpu; rcases h0 : decide ((i : Int) < (v.ns : Int)) with _ | _; (rw [h0] at hpu; simp at hpu); have := of_decide_eq_true h0; omega
        have hbad : ∀ (bk' : Bool) (z : Int), bk = bk' → v.hash (v.S i).e bk' = z → v.badL c k = decide (z ≠ (c : Int)) := fun bk' z e1 e2 => by unfold VD.badL; rw [← HL0.out]; subst e1 e2; simp only [hpu, Int.toNat_natCast]; rfl
        have HBad := Lib.hid hbad
        clear hpu hbad
        go_wp2_with fail
        refine (rput_ok v _ _ _ _ _ _ _ _ hs hg (i : Int) w0 _ HS.out (HW0.out.trans HN.out (fun _ _ h => h))).mono ?_
        rw [HPut.out]
        rintro e z1 ⟨rfl, hp⟩
        replace HN := hid_now HN hp
        replace HX := hid_now HX hp
        replace B_V := hid_blk B_V hp
        replace B_L := hid_blk B_L hp
        clear hp lV lL d0 c0 c1 c2 c3 c4 c5 c6 c7
        obtain ⟨b3, o3, hs3, lb3, xc⟩ := (HS.out.low (HW0.out.trans HN.out (fun _ _ h => h))) i hi
        have HSa := Lib.hid hs3
        have y : True := trivial
        clear y
        clear HSa
        subst hs3
        have x3 : z1.cell? ⟨b3, o3 + i * 18 + 3, none⟩ = some (.int .u8 (v.S i).e.r) := xc 3 _ rfl
        have x4 : z1.cell? ⟨b3, o3 + i * 18 + 4, none⟩ = some (.int .u32 (v.S i).e.a) := xc 4 _ rfl
        have x5 : z1.cell? ⟨b3, o3 + i * 18 + 5, none⟩ = some (.int .u16 (v.S i).e.p) := xc 5 _ rfl
        have x6 : z1.cell? ⟨b3, o3 + i * 18 + 6, none⟩ = some (.int .u32 (v.S i).e.b) := xc 6 _ rfl
        have x7 : z1.cell? ⟨b3, o3 + i * 18 + 7, none⟩ = some (.int .u16 (v.S i).e.q) := xc 7 _ rfl
        have x8 : z1.cell? ⟨b3, o3 + i * 18 + 8, none⟩ = some (.int .u8 (v.S i).e.r2) := xc 8 _ rfl
        have x9 : z1.cell? ⟨b3, o3 + i * 18 + 9, none⟩ = some (.int .u32 (v.S i).e.a2) := xc 9 _ rfl
        have x10 : z1.cell? ⟨b3, o3 + i * 18 + 10, none⟩ = some (.int .u16 (v.S i).e.p2) := xc 10 _ rfl
        have x11 : z1.cell? ⟨b3, o3 + i * 18 + 11, none⟩ = some (.int .u32 (v.S i).e.b2) := xc 11 _ rfl
        have x12 : z1.cell? ⟨b3, o3 + i * 18 + 12, none⟩ = some (.int .u16 (v.S i).e.q2) := xc 12 _ rfl
        clear xc
        have ci : (i : Int) < (v.ns : Int) := by omega
        have c1 := cell_at B_V 1 rfl
        have lV := hid_lt B_V
        have d0 := cell_at B_L 0 rfl
        have lL := hid_lt B_L
        go_upto_region 8 with fail
        clear c1 lV d0 lL
        clear lb3 x3 x4 x5 x6 x7 x8 x9 x10 x11 x12
        have hGX := HX.out.size
        have hGN := HN.out.size
        have lL := hid_lt B_L
        have lV := hid_lt B_V
        refine wp_gen (fun tw hW => ?_)
        have hp := new_now hW
        have hB := new_blk hW
        clear hW
        replace HN := hid_now HN hp
        replace HX := hid_now HX hp
        replace B_V := hid_blk B_V hp
        replace B_L := hid_blk B_L hp
        obtain ⟨gT, hgT⟩ : ∃ gT, gT = z1.heap.size := ⟨_, rfl⟩
        rw [← hgT] at hB hGX hGN lL lV ⊢
        have B_T := hB
        have GX := Lib.hid hGX
        have GN := Lib.hid hGN
        have n_L_T : ¬ gL = gT := by omega
        have n_V_T : ¬ gV = gT := by omega
        have NL := Lib.hid n_L_T
        have NV := Lib.hid n_V_T
        clear hB hp hgT hGX hGN lL lV n_L_T n_V_T
        cases bk with
        | false =>
          have d2 := cell_at B_L 2 rfl
          have lL := hid_lt B_L
          go_upto_region 10 with fail
          clear d2 lL
          have c2 := cell_at B_V 2 rfl
          have lV := hid_lt B_V
          have t0 := cell_at B_T 0 rfl
          have t1 := cell_at B_T 1 rfl
          have t2 := cell_at B_T 2 rfl
          have t3 := cell_at B_T 3 rfl
          have t4 := cell_at B_T 4 rfl
          have lT := hid_lt B_T
          go_wp2_with fail
          obtain ⟨z, hz⟩ : ∃ z, z = hashOf (v.S i).e.r (v.S i).e.a (v.S i).e.p (v.S i).e.b (v.S i).e.q v.nc := ⟨_, rfl⟩
          have HHs := Lib.hid hz.symm
          have HB2 := Lib.hid (HBad.out false z rfl (show hashOf (v.S i).e.r (v.S i).e.a (v.S i).e.p (v.S i).e.b (v.S i).e.q v.nc = z from hz.symm))
          clear hz
          refine (HH.out (v.S i).e.r (v.S i).e.a (v.S i).e.p (v.S i).e.b (v.S i).e.q v.nc _ (Hok.out i hi).r (Hok.out i hi).a (Hok.out i hi).p (Hok.out i hi).b (Hok.out i hi).q hnc).mono ?_
          rw [HHs.out]
          rintro e z3 ⟨rfl, hp⟩
          replace HN := hid_now HN hp
          replace HX := hid_now HX hp
          clear hp lV lT c2 t0 t1 t2 t3 t4
          rcases h1 : (z == (c : Int)) with _ | _
          · obtain rfl : res = true := HR.out.trans (anyR_yes hlt2 (by rw [HB2.out]; exact decide_eq_true (beq_eq_false_iff_ne.1 h1)))
            have h1n : (z != (c : Int)) = true := by simp only [bne, h1]; rfl
            go_wp2_with fail
            go_ret
            exact ⟨rfl, HN.out⟩
          · have HE := Lib.hid (show anyR (k + 1) (v.badL c) = false from anyR_false HA.out (by rw [HB2.out]; exact decide_eq_false (fun h => h (beq_iff_eq.1 h1))))
            have h1n : (z != (c : Int)) = false := by simp only [bne, h1]; rfl
            go_wp2_with fail
            go_roundg (v.cn c - k)
            case measure => have := Hg.out; omega
            case rel => exact ⟨k + 1, by omega, by omega, by go_num, HE.out, HX.out⟩
        | true =>
          have d0 := cell_at B_L 0 rfl
          have d2 := cell_at B_L 2 rfl
          have lL := hid_lt B_L
          have c1 := cell_at B_V 1 rfl
          have lV := hid_lt B_V
          have t0 := cell_at B_T 0 rfl
          have t1 := cell_at B_T 1 rfl
          have t2 := cell_at B_T 2 rfl
          have t3 := cell_at B_T 3 rfl
          have t4 := cell_at B_T 4 rfl
          have zT := froz_at B_T
          have lT := hid_lt B_T
          have nLT := NL.out
          obtain ⟨b3, o3, hs3, lb3, xc⟩ := (HS.out.low (HW0.out.trans HN.out (fun _ _ h => h))) i hi
          injection hs3 with hs3
          injection hs3 with hs31 hs32 _
          subst hs31 hs32
          have x8 : tw.cell? ⟨b3, o3 + i * 18 + 8, none⟩ = some (.int .u8 (v.S i).e.r2) := xc 8 _ rfl
          have x9 : tw.cell? ⟨b3, o3 + i * 18 + 9, none⟩ = some (.int .u32 (v.S i).e.a2) := xc 9 _ rfl
          have x10 : tw.cell? ⟨b3, o3 + i * 18 + 10, none⟩ = some (.int .u16 (v.S i).e.p2) := xc 10 _ rfl
          have x11 : tw.cell? ⟨b3, o3 + i * 18 + 11, none⟩ = some (.int .u32 (v.S i).e.b2) := xc 11 _ rfl
          have x12 : tw.cell? ⟨b3, o3 + i * 18 + 12, none⟩ = some (.int .u16 (v.S i).e.q2) := xc 12 _ rfl
          clear xc
          go_upto_region 10 with fail
          refine wp_gen (fun sw hW => ?_)
          obtain ⟨hB, hf⟩ := setE5 hW B_T
          clear hW
          replace HN := hid_own HN hf (fun i hi e => by have h1 : i = gT := e; have h2 := GN.out; omega)
          replace HX := hid_own HX hf (fun i hi e => by have h1 : i = gT := e; have h2 := GX.out; omega)
          replace B_V := hid_blkS B_V hf NV.out
          replace B_T := hB
          clear hB hf d0 d2 lL c1 lV zT lT nLT lb3 t0 t1 t2 t3 t4 x8 x9 x10 x11 x12
          have c2 := cell_at B_V 2 rfl
          have lV := hid_lt B_V
          have t0 := cell_at B_T 0 rfl
          have t1 := cell_at B_T 1 rfl
          have t2 := cell_at B_T 2 rfl
          have t3 := cell_at B_T 3 rfl
          have t4 := cell_at B_T 4 rfl
          have lT := hid_lt B_T
          go_wp2_with fail
          obtain ⟨z, hz⟩ : ∃ z, z = hashOf (v.S i).e.r2 (v.S i).e.a2 (v.S i).e.p2 (v.S i).e.b2 (v.S i).e.q2 v.nc := ⟨_, rfl⟩
          have HHs := Lib.hid hz.symm
          have HB2 := Lib.hid (HBad.out true z rfl (show hashOf (v.S i).e.r2 (v.S i).e.a2 (v.S i).e.p2 (v.S i).e.b2 (v.S i).e.q2 v.nc = z from hz.symm))
          clear hz
          refine (HH.out (v.S i).e.r2 (v.S i).e.a2 (v.S i).e.p2 (v.S i).e.b2 (v.S i).e.q2 v.nc _ (Hok.out i hi).r2 (Hok.out i hi).a2 (Hok.out i hi).p2 (Hok.out i hi).b2 (Hok.out i hi).q2 hnc).mono ?_
          rw [HHs.out]
          rintro e z3 ⟨rfl, hp⟩
          replace HN := hid_now HN hp
          replace HX := hid_now HX hp
          clear hp lV lT c2 t0 t1 t2 t3 t4
          rcases h1 : (z == (c : Int)) with _ | _
          · obtain rfl : res = true := HR.out.trans (anyR_yes hlt2 (by rw [HB2.out]; exact decide_eq_true (beq_eq_false_iff_ne.1 h1)))
            have h1n : (z != (c : Int)) = true := by simp only [bne, h1]; rfl
            go_wp2_with fail
            go_ret
            exact ⟨rfl, HN.out⟩
          · have HE := Lib.hid (show anyR (k + 1) (v.badL c) = false from anyR_false HA.out (by rw [HB2.out]; exact decide_eq_false (fun h => h (beq_iff_eq.1 h1))))
            have h1n : (z != (c : Int)) = false := by simp only [bne, h1]; rfl
            go_wp2_with fail
            go_roundg (v.cn c - k)
            case measure => have := Hg.out; omega
            case rel => exact ⟨k + 1, by omega, by omega, by go_num, HE.out, HX.out⟩
    · obtain rfl : k = v.cn c := by omega
      have pk : decide ((v.cn c : Int) < (v.cn c : Int)) = false := decide_eq_false (by omega)
      obtain rfl : res = false := HR.out.trans HA.out
      have c2 := cell_at B_V 2 rfl
      have lV := hid_lt B_V
      go_wp2_with fail
      go_ret
      exact ⟨rfl, HN.out⟩
end Go.Proofs.YtcimbbllefkdlaaGreatDoor

namespace Go.Proofs.YtcimbbllefkdlaaGreatDoor
set_option linter.unusedVariables false
set_option linter.unusedSimpArgs false
open Go.RowKit Go.Lib Go.Sort
set_option maxHeartbeats 8000000 in
set_option maxRecDepth 100000 in
theorem rtuple_ok (v : VD) (sa ca pa qa : Option Addr) (sc cc pc qc : Nat) (hs : Nat → Int) (hg : Nat → Nat) (n : Nat) (hlt1 : n < v.ns) (hns : v.ns ≤ 100) (w0 W : World) (hS : AtC w0 sa v.ns 18 (fun i => (v.S i).cs ++ [.int .i64 (hs i), .int .u32 (hg i)])) (hW0 : NoW w0 W) :
    Calls Tryz.prog 22 #[.agg #[.int .i64 v.now, .slice sa v.ns sc, .slice ca v.nc cc, .slice pa v.np pc, .slice qa v.nq qc, .int .i64 v.free, .int .i64 v.live, .int .i64 v.gone], .int .i64 (n : Int)] W (Ret1 (.bool (v.f3 n)) W) := by
  have HW0 := Lib.hid hW0
  clear hW0
  have HS := Lib.hid hS
  clear hS
  obtain ⟨res, hr⟩ : ∃ r, r = v.f3 n := ⟨_, rfl⟩
  rw [← hr]
  have HR := Lib.hid hr
  clear hr
  have KL := Lib.hid (fun (i : Nat) (hi : i < v.ns) W2 (hW2 : NoW w0 W2) => rlive_view v sa ca pa qa sc cc pc qc hs hg i hi w0 W2 HS.out hW2)
  go_enter Tryz.func22, Tryz.ntmps22
  have HN := Lib.hid (Fp.refl (fun _ => False) W)
  go_upto_region 1 with fail
  refine wp_gen (fun Vw hW => ?_)
  have hp := new_now hW
  have hB := new_blk hW
  clear hW
  replace HN := hid_now HN hp
  obtain ⟨gV, hgV⟩ : ∃ gV, gV = W.heap.size := ⟨_, rfl⟩
  rw [← hgV] at hB ⊢
  have B_V := hB
  clear hB hp hgV
  obtain ⟨b1, o1, hs1, lb1, xc⟩ := (HS.out.low (HW0.out.trans HN.out (fun _ _ h => h))) n hlt1
  subst hs1
  have x0 : Vw.cell? ⟨b1, o1 + n * 18, none⟩ = some (.bool (v.S n).used) := xc 0 _ rfl
  have x1 : Vw.cell? ⟨b1, o1 + n * 18 + 1, none⟩ = some (.bool (v.S n).put) := xc 1 _ rfl
  have x2 : Vw.cell? ⟨b1, o1 + n * 18 + 2, none⟩ = some (.bool (v.S n).dead) := xc 2 _ rfl
  have x3 : Vw.cell? ⟨b1, o1 + n * 18 + 3, none⟩ = some (.int .u8 (v.S n).e.r) := xc 3 _ rfl
  have x4 : Vw.cell? ⟨b1, o1 + n * 18 + 4, none⟩ = some (.int .u32 (v.S n).e.a) := xc 4 _ rfl
  have x5 : Vw.cell? ⟨b1, o1 + n * 18 + 5, none⟩ = some (.int .u16 (v.S n).e.p) := xc 5 _ rfl
  have x6 : Vw.cell? ⟨b1, o1 + n * 18 + 6, none⟩ = some (.int .u32 (v.S n).e.b) := xc 6 _ rfl
  have x7 : Vw.cell? ⟨b1, o1 + n * 18 + 7, none⟩ = some (.int .u16 (v.S n).e.q) := xc 7 _ rfl
  have x8 : Vw.cell? ⟨b1, o1 + n * 18 + 8, none⟩ = some (.int .u8 (v.S n).e.r2) := xc 8 _ rfl
  have x9 : Vw.cell? ⟨b1, o1 + n * 18 + 9, none⟩ = some (.int .u32 (v.S n).e.a2) := xc 9 _ rfl
  have x10 : Vw.cell? ⟨b1, o1 + n * 18 + 10, none⟩ = some (.int .u16 (v.S n).e.p2) := xc 10 _ rfl
  have x11 : Vw.cell? ⟨b1, o1 + n * 18 + 11, none⟩ = some (.int .u32 (v.S n).e.b2) := xc 11 _ rfl
  have x12 : Vw.cell? ⟨b1, o1 + n * 18 + 12, none⟩ = some (.int .u16 (v.S n).e.q2) := xc 12 _ rfl
  have x13 : Vw.cell? ⟨b1, o1 + n * 18 + 13, none⟩ = some (.int .i64 (v.S n).e.st) := xc 13 _ rfl
  have x14 : Vw.cell? ⟨b1, o1 + n * 18 + 14, none⟩ = some (.int .i64 (v.S n).e.dl) := xc 14 _ rfl
  have x15 : Vw.cell? ⟨b1, o1 + n * 18 + 15, none⟩ = some (.slice (v.S n).e.ad (v.S n).e.n (v.S n).e.c) := xc 15 _ rfl
  clear xc
  have pk1 : decide ((n : Int) < (v.ns : Int)) = true := decide_eq_true (by omega)
  have ck1 : (n : Int) < (v.ns : Int) := by omega
  have pk1' := pk1
  clear pk1'
  have c1 := cell_at B_V 1 rfl
  have lV := hid_lt B_V
  go_upto_region 2 with fail
  clear c1 lV lb1 x0 x1 x2 x3 x4 x5 x6 x7 x8 x9 x10 x11 x12 x13 x14 x15
  refine wp_gen (fun Xw hW => ?_)
  have hp := new_now hW
  have hB := new_blk hW
  clear hW
  replace HN := hid_now HN hp
  replace B_V := hid_blk B_V hp
  obtain ⟨gX, hgX⟩ : ∃ gX, gX = Vw.heap.size := ⟨_, rfl⟩
  rw [← hgX] at hB ⊢
  have B_X := hB
  clear hB hp hgX
  have c0 := cell_at B_V 0 rfl
  have c1 := cell_at B_V 1 rfl
  have c2 := cell_at B_V 2 rfl
  have c3 := cell_at B_V 3 rfl
  have c4 := cell_at B_V 4 rfl
  have c5 := cell_at B_V 5 rfl
  have c6 := cell_at B_V 6 rfl
  have c7 := cell_at B_V 7 rfl
  have lV := hid_lt B_V
  go_wp2_with fail
  refine (KL.out n hlt1 _ (HW0.out.trans HN.out (fun _ _ h => h))).mono ?_
  rintro e z1 ⟨rfl, hp⟩
  replace HN := hid_now HN hp
  replace B_V := hid_blk B_V hp
  replace B_X := hid_blk B_X hp
  clear hp lV c0 c1 c2 c3 c4 c5 c6 c7
  obtain ⟨ln, hln⟩ : ∃ b, v.liveS n = b := ⟨_, rfl⟩
  rw [hln]
  have HLn := Lib.hid hln
  clear hln
  rcases ln with _ | _
  · obtain rfl : res = false := HR.out.trans (by unfold VD.f3; rw [HLn.out]; rfl)
    go_wp2_with fail
    go_ret
    exact ⟨rfl, HN.out⟩
  · skip
    have c1 := cell_at B_V 1 rfl
    have lV := hid_lt B_V
    go_wp2_with fail
    clear c1 lV
    have HX := Lib.hid (Fp.refl (fun _ => False) z1)
    go_loopg [6] (v.ns + 1) (fun gg iv wx => ∃ (i : Nat), i ≤ v.ns ∧ gg = v.ns + 1 - i ∧ iv = .int .i64 (i : Int) ∧ anyR i (fun k => !decide (k = n) && (v.liveS k && VD.meets (v.S n).e (v.S k).e)) = false ∧ NoW z1 wx)
    case atStart => exact ⟨0, by omega, by omega, rfl, rfl, HX.out⟩
    case round =>
      clear HX
      obtain ⟨i, hi, hg, rfl, hA, hN⟩ := hrel
      have Hg := Lib.hid hg
      replace HN := hid_now HN hN
      have HX := Lib.hid hN
      have HA := Lib.hid hA
      replace B_V := hid_blk B_V hN
      replace B_X := hid_blk B_X hN
      clear hg hN hA
      by_cases hlt2 : i < v.ns
      · skip
        obtain ⟨b2, o2, hs2, lb2, xc⟩ := (HS.out.low (HW0.out.trans HN.out (fun _ _ h => h))) i hlt2
        injection hs2 with hs2
        injection hs2 with hs21 hs22 _
        subst hs21 hs22
        have x0 : wr.cell? ⟨b1, o1 + i * 18, none⟩ = some (.bool (v.S i).used) := xc 0 _ rfl
        have x1 : wr.cell? ⟨b1, o1 + i * 18 + 1, none⟩ = some (.bool (v.S i).put) := xc 1 _ rfl
        have x2 : wr.cell? ⟨b1, o1 + i * 18 + 2, none⟩ = some (.bool (v.S i).dead) := xc 2 _ rfl
        have x3 : wr.cell? ⟨b1, o1 + i * 18 + 3, none⟩ = some (.int .u8 (v.S i).e.r) := xc 3 _ rfl
        have x4 : wr.cell? ⟨b1, o1 + i * 18 + 4, none⟩ = some (.int .u32 (v.S i).e.a) := xc 4 _ rfl
        have x5 : wr.cell? ⟨b1, o1 + i * 18 + 5, none⟩ = some (.int .u16 (v.S i).e.p) := xc 5 _ rfl
        have x6 : wr.cell? ⟨b1, o1 + i * 18 + 6, none⟩ = some (.int .u32 (v.S i).e.b) := xc 6 _ rfl
        have x7 : wr.cell? ⟨b1, o1 + i * 18 + 7, none⟩ = some (.int .u16 (v.S i).e.q) := xc 7 _ rfl
        have x8 : wr.cell? ⟨b1, o1 + i * 18 + 8, none⟩ = some (.int .u8 (v.S i).e.r2) := xc 8 _ rfl
        have x9 : wr.cell? ⟨b1, o1 + i * 18 + 9, none⟩ = some (.int .u32 (v.S i).e.a2) := xc 9 _ rfl
        have x10 : wr.cell? ⟨b1, o1 + i * 18 + 10, none⟩ = some (.int .u16 (v.S i).e.p2) := xc 10 _ rfl
        have x11 : wr.cell? ⟨b1, o1 + i * 18 + 11, none⟩ = some (.int .u32 (v.S i).e.b2) := xc 11 _ rfl
        have x12 : wr.cell? ⟨b1, o1 + i * 18 + 12, none⟩ = some (.int .u16 (v.S i).e.q2) := xc 12 _ rfl
        have x13 : wr.cell? ⟨b1, o1 + i * 18 + 13, none⟩ = some (.int .i64 (v.S i).e.st) := xc 13 _ rfl
        have x14 : wr.cell? ⟨b1, o1 + i * 18 + 14, none⟩ = some (.int .i64 (v.S i).e.dl) := xc 14 _ rfl
        have x15 : wr.cell? ⟨b1, o1 + i * 18 + 15, none⟩ = some (.slice (v.S i).e.ad (v.S i).e.n (v.S i).e.c) := xc 15 _ rfl
        clear xc
        have pk2 : decide ((i : Int) < (v.ns : Int)) = true := decide_eq_true (by omega)
        have ck2 : (i : Int) < (v.ns : Int) := by omega
        have c1 := cell_at B_V 1 rfl
        have lV := hid_lt B_V
        go_upto_region 8 with fail
        clear c1 lV lb2 x0 x1 x2 x3 x4 x5 x6 x7 x8 x9 x10 x11 x12 x13 x14 x15
        refine wp_gen (fun Yw hW => ?_)
        have hp := new_now hW
        have hB := new_blk hW
        clear hW
        replace HN := hid_now HN hp
        replace B_V := hid_blk B_V hp
        replace B_X := hid_blk B_X hp
        replace HX := hid_now HX hp
        obtain ⟨gY, hgY⟩ : ∃ gY, gY = wr.heap.size := ⟨_, rfl⟩
        rw [← hgY] at hB ⊢
        have B_Y := hB
        clear hB hp hgY
        have hm : VD.meets (v.S n).e (v.S i).e = ((decide ((v.S n).e.r = (v.S i).e.r ∧ (v.S n).e.a = (v.S i).e.a ∧ (v.S n).e.p = (v.S i).e.p ∧ (v.S n).e.b = (v.S i).e.b ∧ (v.S n).e.q = (v.S i).e.q) || decide ((v.S n).e.r = (v.S i).e.r2 ∧ (v.S n).e.a = (v.S i).e.a2 ∧ (v.S n).e.p = (v.S i).e.p2 ∧ (v.S n).e.b = (v.S i).e.b2 ∧ (v.S n).e.q = (v.S i).e.q2)) || (decide ((v.S n).e.r2 = (v.S i).e.r ∧ (v.S n).e.a2 = (v.S i).e.a ∧ (v.S n).e.p2 = (v.S i).e.p ∧ (v.S n).e.b2 = (v.S i).e.b ∧ (v.S n).e.q2 = (v.S i).e.q) || decide ((v.S n).e.r2 = (v.S i).e.r2 ∧ (v.S n).e.a2 = (v.S i).e.a2 ∧ (v.S n).e.p2 = (v.S i).e.p2 ∧ (v.S n).e.b2 = (v.S i).e.b2 ∧ (v.S n).e.q2 = (v.S i).e.q2))) := rfl
        have e1 := fun W => tup_eq2 (v.S i).e.r (v.S i).e.a (v.S i).e.p (v.S i).e.b (v.S i).e.q (v.S n).e.r (v.S n).e.a (v.S n).e.p (v.S n).e.b (v.S n).e.q W
        obtain ⟨m1, hm1⟩ : ∃ s, s = decide ((v.S i).e.r = (v.S n).e.r ∧ (v.S i).e.a = (v.S n).e.a ∧ (v.S i).e.p = (v.S n).e.p ∧ (v.S i).e.b = (v.S n).e.b ∧ (v.S i).e.q = (v.S n).e.q) := ⟨_, rfl⟩
        have q1 : decide ((v.S n).e.r = (v.S i).e.r ∧ (v.S n).e.a = (v.S i).e.a ∧ (v.S n).e.p = (v.S i).e.p ∧ (v.S n).e.b = (v.S i).e.b ∧ (v.S n).e.q = (v.S i).e.q) = m1 := by rw [hm1]; simp only [eq_comm]
        rw [← hm1] at e1
        have e2 := fun W => tup_eq2 (v.S i).e.r (v.S i).e.a (v.S i).e.p (v.S i).e.b (v.S i).e.q (v.S n).e.r2 (v.S n).e.a2 (v.S n).e.p2 (v.S n).e.b2 (v.S n).e.q2 W
        obtain ⟨m2, hm2⟩ : ∃ s, s = decide ((v.S i).e.r = (v.S n).e.r2 ∧ (v.S i).e.a = (v.S n).e.a2 ∧ (v.S i).e.p = (v.S n).e.p2 ∧ (v.S i).e.b = (v.S n).e.b2 ∧ (v.S i).e.q = (v.S n).e.q2) := ⟨_, rfl⟩
        have q2 : decide ((v.S n).e.r2 = (v.S i).e.r ∧ (v.S n).e.a2 = (v.S i).e.a ∧ (v.S n).e.p2 = (v.S i).e.p ∧ (v.S n).e.b2 = (v.S i).e.b ∧ (v.S n).e.q2 = (v.S i).e.q) = m2 := by rw [hm2]; simp only [eq_comm]
        rw [← hm2] at e2
        have e3 := fun W => tup_eq2 (v.S i).e.r2 (v.S i).e.a2 (v.S i).e.p2 (v.S i).e.b2 (v.S i).e.q2 (v.S n).e.r (v.S n).e.a (v.S n).e.p (v.S n).e.b (v.S n).e.q W
        obtain ⟨m3, hm3⟩ : ∃ s, s = decide ((v.S i).e.r2 = (v.S n).e.r ∧ (v.S i).e.a2 = (v.S n).e.a ∧ (v.S i).e.p2 = (v.S n).e.p ∧ (v.S i).e.b2 = (v.S n).e.b ∧ (v.S i).e.q2 = (v.S n).e.q) := ⟨_, rfl⟩
        have q3 : decide ((v.S n).e.r = (v.S i).e.r2 ∧ (v.S n).e.a = (v.S i).e.a2 ∧ (v.S n).e.p = (v.S i).e.p2 ∧ (v.S n).e.b = (v.S i).e.b2 ∧ (v.S n).e.q = (v.S i).e.q2) = m3 := by rw [hm3]; simp only [eq_comm]
        rw [← hm3] at e3
        have e4 := fun W => tup_eq2 (v.S i).e.r2 (v.S i).e.a2 (v.S i).e.p2 (v.S i).e.b2 (v.S i).e.q2 (v.S n).e.r2 (v.S n).e.a2 (v.S n).e.p2 (v.S n).e.b2 (v.S n).e.q2 W
        obtain ⟨m4, hm4⟩ : ∃ s, s = decide ((v.S i).e.r2 = (v.S n).e.r2 ∧ (v.S i).e.a2 = (v.S n).e.a2 ∧ (v.S i).e.p2 = (v.S n).e.p2 ∧ (v.S i).e.b2 = (v.S n).e.b2 ∧ (v.S i).e.q2 = (v.S n).e.q2) := ⟨_, rfl⟩
        have q4 : decide ((v.S n).e.r2 = (v.S i).e.r2 ∧ (v.S n).e.a2 = (v.S i).e.a2 ∧ (v.S n).e.p2 = (v.S i).e.p2 ∧ (v.S n).e.b2 = (v.S i).e.b2 ∧ (v.S n).e.q2 = (v.S i).e.q2) = m4 := by rw [hm4]; simp only [eq_comm]
        rw [← hm4] at e4
        rw [q1, q2, q3, q4] at hm
        have HM := Lib.hid hm
        clear hm q1 q2 q3 q4 hm1 hm2 hm3 hm4
        have E1 := Lib.hid e1
        have E2 := Lib.hid e2
        have E3 := Lib.hid e3
        have E4 := Lib.hid e4
        clear e1 e2 e3 e4
        have c0 := cell_at B_V 0 rfl
        have c1 := cell_at B_V 1 rfl
        have c2 := cell_at B_V 2 rfl
        have c3 := cell_at B_V 3 rfl
        have c4 := cell_at B_V 4 rfl
        have c5 := cell_at B_V 5 rfl
        have c6 := cell_at B_V 6 rfl
        have c7 := cell_at B_V 7 rfl
        have lV := hid_lt B_V
        go_wp2_with fail
        refine (KL.out i hlt2 _ (HW0.out.trans HN.out (fun _ _ h => h))).mono ?_
        rintro e z2 ⟨rfl, hp⟩
        replace HN := hid_now HN hp
        replace HX := hid_now HX hp
        replace B_V := hid_blk B_V hp
        replace B_X := hid_blk B_X hp
        replace B_Y := hid_blk B_Y hp
        clear hp lV c0 c1 c2 c3 c4 c5 c6 c7
        obtain ⟨li, hli⟩ : ∃ b, v.liveS i = b := ⟨_, rfl⟩
        rw [hli]
        have HLi := Lib.hid hli
        clear hli
        rcases li with _ | _
        · skip
          have HE := Lib.hid (show anyR (i + 1) (fun k => !decide (k = n) && (v.liveS k && VD.meets (v.S n).e (v.S k).e)) = false from anyR_false HA.out (by simp only [HLi.out]; simp))
          go_wp2_with fail
          go_roundg (v.ns - i)
          case measure => have := Hg.out; omega
          case rel => exact ⟨i + 1, by omega, by omega, by go_num, HE.out, HX.out⟩
        · rcases h1 : ((i : Int) == (n : Int)) with _ | _
          · skip
            have hne : i ≠ n := by have := beq_eq_false_iff_ne.1 h1; omega
            have h1n : ((i : Int) != (n : Int)) = true := by simp only [bne, h1]; rfl
            have Hne := Lib.hid hne
            clear hne
            rcases m1 with _ | _
            · skip
              rcases m2 with _ | _
              · skip
                rcases m3 with _ | _
                · skip
                  rcases m4 with _ | _
                  · skip
                    have HE := Lib.hid (show anyR (i + 1) (fun k => !decide (k = n) && (v.liveS k && VD.meets (v.S n).e (v.S k).e)) = false from anyR_false HA.out (by simp only [HLi.out, HM.out]; simp))
                    have e1 := E1.out
                    have e2 := E2.out
                    have e3 := E3.out
                    have e4 := E4.out
                    have t0 := cell_at B_X 0 rfl
                    have t1 := cell_at B_X 1 rfl
                    have t2 := cell_at B_X 2 rfl
                    have t3 := cell_at B_X 3 rfl
                    have t4 := cell_at B_X 4 rfl
                    have t5 := cell_at B_X 5 rfl
                    have t6 := cell_at B_X 6 rfl
                    have t7 := cell_at B_X 7 rfl
                    have t8 := cell_at B_X 8 rfl
                    have t9 := cell_at B_X 9 rfl
                    have s0 := cell_at B_Y 0 rfl
                    have s1 := cell_at B_Y 1 rfl
                    have s2 := cell_at B_Y 2 rfl
                    have s3 := cell_at B_Y 3 rfl
                    have s4 := cell_at B_Y 4 rfl
                    have s5 := cell_at B_Y 5 rfl
                    have s6 := cell_at B_Y 6 rfl
                    have s7 := cell_at B_Y 7 rfl
                    have s8 := cell_at B_Y 8 rfl
                    have s9 := cell_at B_Y 9 rfl
                    go_wp2_with fail
                    go_roundg (v.ns - i)
                    case measure => have := Hg.out; omega
                    case rel => exact ⟨i + 1, by omega, by omega, by go_num, HE.out, HX.out⟩
                  · skip
                    obtain rfl : res = true := HR.out.trans (by unfold VD.f3; rw [HLn.out]; have h9 : anyR v.ns (fun k => !decide (k = n) && (v.liveS k && VD.meets (v.S n).e (v.S k).e)) = true := anyR_yes hlt2 (by simp only [HLi.out, HM.out, decide_eq_false Hne.out]; simp); rw [h9]; simp)
                    have e1 := E1.out
                    have e2 := E2.out
                    have e3 := E3.out
                    have e4 := E4.out
                    have t0 := cell_at B_X 0 rfl
                    have t1 := cell_at B_X 1 rfl
                    have t2 := cell_at B_X 2 rfl
                    have t3 := cell_at B_X 3 rfl
                    have t4 := cell_at B_X 4 rfl
                    have t5 := cell_at B_X 5 rfl
                    have t6 := cell_at B_X 6 rfl
                    have t7 := cell_at B_X 7 rfl
                    have t8 := cell_at B_X 8 rfl
                    have t9 := cell_at B_X 9 rfl
                    have s0 := cell_at B_Y 0 rfl
                    have s1 := cell_at B_Y 1 rfl
                    have s2 := cell_at B_Y 2 rfl
                    have s3 := cell_at B_Y 3 rfl
                    have s4 := cell_at B_Y 4 rfl
                    have s5 := cell_at B_Y 5 rfl
                    have s6 := cell_at B_Y 6 rfl
                    have s7 := cell_at B_Y 7 rfl
                    have s8 := cell_at B_Y 8 rfl
                    have s9 := cell_at B_Y 9 rfl
                    go_wp2_with fail
                    go_ret
                    exact ⟨rfl, HN.out⟩
                · skip
                  obtain rfl : res = true := HR.out.trans (by unfold VD.f3; rw [HLn.out]; have h9 : anyR v.ns (fun k => !decide (k = n) && (v.liveS k && VD.meets (v.S n).e (v.S k).e)) = true := anyR_yes hlt2 (by simp only [HLi.out, HM.out, decide_eq_false Hne.out]; simp); rw [h9]; simp)
                  have e1 := E1.out
                  have e2 := E2.out
                  have e3 := E3.out
                  have t0 := cell_at B_X 0 rfl
                  have t1 := cell_at B_X 1 rfl
                  have t2 := cell_at B_X 2 rfl
                  have t3 := cell_at B_X 3 rfl
                  have t4 := cell_at B_X 4 rfl
                  have t5 := cell_at B_X 5 rfl
                  have t6 := cell_at B_X 6 rfl
                  have t7 := cell_at B_X 7 rfl
                  have t8 := cell_at B_X 8 rfl
                  have t9 := cell_at B_X 9 rfl
                  have s0 := cell_at B_Y 0 rfl
                  have s1 := cell_at B_Y 1 rfl
                  have s2 := cell_at B_Y 2 rfl
                  have s3 := cell_at B_Y 3 rfl
                  have s4 := cell_at B_Y 4 rfl
                  have s5 := cell_at B_Y 5 rfl
                  have s6 := cell_at B_Y 6 rfl
                  have s7 := cell_at B_Y 7 rfl
                  have s8 := cell_at B_Y 8 rfl
                  have s9 := cell_at B_Y 9 rfl
                  go_wp2_with fail
                  go_ret
                  exact ⟨rfl, HN.out⟩
              · skip
                obtain rfl : res = true := HR.out.trans (by unfold VD.f3; rw [HLn.out]; have h9 : anyR v.ns (fun k => !decide (k = n) && (v.liveS k && VD.meets (v.S n).e (v.S k).e)) = true := anyR_yes hlt2 (by simp only [HLi.out, HM.out, decide_eq_false Hne.out]; simp); rw [h9]; simp)
                have e1 := E1.out
                have e2 := E2.out
                have t0 := cell_at B_X 0 rfl
                have t1 := cell_at B_X 1 rfl
                have t2 := cell_at B_X 2 rfl
                have t3 := cell_at B_X 3 rfl
                have t4 := cell_at B_X 4 rfl
                have t5 := cell_at B_X 5 rfl
                have t6 := cell_at B_X 6 rfl
                have t7 := cell_at B_X 7 rfl
                have t8 := cell_at B_X 8 rfl
                have t9 := cell_at B_X 9 rfl
                have s0 := cell_at B_Y 0 rfl
                have s1 := cell_at B_Y 1 rfl
                have s2 := cell_at B_Y 2 rfl
                have s3 := cell_at B_Y 3 rfl
                have s4 := cell_at B_Y 4 rfl
                have s5 := cell_at B_Y 5 rfl
                have s6 := cell_at B_Y 6 rfl
                have s7 := cell_at B_Y 7 rfl
                have s8 := cell_at B_Y 8 rfl
                have s9 := cell_at B_Y 9 rfl
                go_wp2_with fail
                go_ret
                exact ⟨rfl, HN.out⟩
            · skip
              obtain rfl : res = true := HR.out.trans (by unfold VD.f3; rw [HLn.out]; have h9 : anyR v.ns (fun k => !decide (k = n) && (v.liveS k && VD.meets (v.S n).e (v.S k).e)) = true := anyR_yes hlt2 (by simp only [HLi.out, HM.out, decide_eq_false Hne.out]; simp); rw [h9]; simp)
              have e1 := E1.out
              have t0 := cell_at B_X 0 rfl
              have t1 := cell_at B_X 1 rfl
              have t2 := cell_at B_X 2 rfl
              have t3 := cell_at B_X 3 rfl
              have t4 := cell_at B_X 4 rfl
              have t5 := cell_at B_X 5 rfl
              have t6 := cell_at B_X 6 rfl
              have t7 := cell_at B_X 7 rfl
              have t8 := cell_at B_X 8 rfl
              have t9 := cell_at B_X 9 rfl
              have s0 := cell_at B_Y 0 rfl
              have s1 := cell_at B_Y 1 rfl
              have s2 := cell_at B_Y 2 rfl
              have s3 := cell_at B_Y 3 rfl
              have s4 := cell_at B_Y 4 rfl
              have s5 := cell_at B_Y 5 rfl
              have s6 := cell_at B_Y 6 rfl
              have s7 := cell_at B_Y 7 rfl
              have s8 := cell_at B_Y 8 rfl
              have s9 := cell_at B_Y 9 rfl
              go_wp2_with fail
              go_ret
              exact ⟨rfl, HN.out⟩
          · skip
            have HE := Lib.hid (show anyR (i + 1) (fun k => !decide (k = n) && (v.liveS k && VD.meets (v.S n).e (v.S k).e)) = false from anyR_false HA.out (by have heq : i = n := (by have := beq_iff_eq.1 h1; omega); simp only [decide_eq_true heq]; simp))
            have h1n : ((i : Int) != (n : Int)) = false := by simp only [bne, h1]; rfl
            go_wp2_with fail
            go_roundg (v.ns - i)
            case measure => have := Hg.out; omega
            case rel => exact ⟨i + 1, by omega, by omega, by go_num, HE.out, HX.out⟩
      · obtain rfl : i = v.ns := by omega
        have pk2 : decide ((v.ns : Int) < (v.ns : Int)) = false := decide_eq_false (by omega)
        have e0 := fun W => tup_eq2 (v.S n).e.r (v.S n).e.a (v.S n).e.p (v.S n).e.b (v.S n).e.q (v.S n).e.r2 (v.S n).e.a2 (v.S n).e.p2 (v.S n).e.b2 (v.S n).e.q2 W
        obtain ⟨m0, hm0⟩ : ∃ s, s = decide ((v.S n).e.r = (v.S n).e.r2 ∧ (v.S n).e.a = (v.S n).e.a2 ∧ (v.S n).e.p = (v.S n).e.p2 ∧ (v.S n).e.b = (v.S n).e.b2 ∧ (v.S n).e.q = (v.S n).e.q2) := ⟨_, rfl⟩
        rw [← hm0] at e0
        obtain rfl : res = m0 := HR.out.trans (by unfold VD.f3; rw [HLn.out, HA.out, hm0]; unfold VD.same; simp)
        clear hm0
        have c1 := cell_at B_V 1 rfl
        have lV := hid_lt B_V
        have t0 := cell_at B_X 0 rfl
        have t1 := cell_at B_X 1 rfl
        have t2 := cell_at B_X 2 rfl
        have t3 := cell_at B_X 3 rfl
        have t4 := cell_at B_X 4 rfl
        have t5 := cell_at B_X 5 rfl
        have t6 := cell_at B_X 6 rfl
        have t7 := cell_at B_X 7 rfl
        have t8 := cell_at B_X 8 rfl
        have t9 := cell_at B_X 9 rfl
        go_wp2_with fail
        go_ret
        exact ⟨rfl, HN.out⟩
end Go.Proofs.YtcimbbllefkdlaaGreatDoor
