/- Texts of this proof, merged: Avp Avb Avc. -/
import Derived.Test.YtcimbbllefkdlaaGreatDoorMbc
import Derived.Test.YtcimbbllefkdlaaGreatDoorMba
import Derived.Test.YtcimbbllefkdlaaGreatDoorMas
import Derived.Test.YtcimbbllefkdlaaGreatDoorMau
import Derived.Test.YtcimbbllefkdlaaGreatDoorMaa
import Derived.Test.YtcimbbllefkdlaaGreatDoorMab
import Derived.Test.YtcimbbllefkdlaaGreatDoorMac
import Derived.Test.YtcimbbllefkdlaaGreatDoorMad
import Derived.Test.YtcimbbllefkdlaaGreatDoorMae
import Derived.Test.YtcimbbllefkdlaaGreatDoorMaf
import Derived.Test.YtcimbbllefkdlaaGreatDoorMag
import Derived.Test.YtcimbbllefkdlaaGreatDoorMah
import Derived.Test.YtcimbbllefkdlaaGreatDoorMai
import Derived.Test.YtcimbbllefkdlaaGreatDoorMaj
import Derived.Test.YtcimbbllefkdlaaGreatDoorMak
import Derived.Test.YtcimbbllefkdlaaGreatDoorMal
import Derived.Test.YtcimbbllefkdlaaGreatDoorMam
import Derived.Test.YtcimbbllefkdlaaGreatDoorMan
import Derived.Test.YtcimbbllefkdlaaGreatDoorMao
import Derived.Test.YtcimbbllefkdlaaGreatDoorMap
import Derived.Test.YtcimbbllefkdlaaGreatDoorMaq
import Derived.Test.YtcimbbllefkdlaaGreatDoorMar
import Derived.Test.YtcimbbllefkdlaaGreatDoorMat
import Derived.Test.YtcimbbllefkdlaaGreatDoorMav
import Derived.Test.YtcimbbllefkdlaaGreatDoorMaw
import Derived.Test.YtcimbbllefkdlaaGreatDoorMax
import Derived.Test.YtcimbbllefkdlaaGreatDoorMay
import Derived.Test.YtcimbbllefkdlaaGreatDoorMaz
import Derived.Test.YtcimbbllefkdlaaGreatDoorMbb
namespace Go.Proofs.YtcimbbllefkdlaaGreatDoor
set_option linter.unusedVariables false
set_option linter.unusedSimpArgs false
open Go.RowKit Go.Lib Go.Sort
set_option maxHeartbeats 8000000 in
set_option maxRecDepth 100000 in
theorem mended_ok (v : VD) (sa ca pa qa : Option Addr) (sc cc pc qc : Nat) (cad : Nat → Option Addr) (cc' : Nat → Nat) (y : Nat) (hf : v.Fit) (hns0 : v.ns ≤ 10) (hh0 : ∀ i, i < v.ns → (v.S i).e.n ≤ 4) (w : World) (hRH0 : RHashOk) (hv : ViewIn w v sa ca pa qa cad cc') (x0 : Nat) (hx0 : x0 < w.heap.size) (hxc : AtN x0 w ca v.nc 1 (fun c => [.slice (cad c) (v.cn c) (cc' c)])) (hxk : ∀ c, c < v.nc → AtN x0 w (cad c) (v.cn c) 3 (fun k => (v.C c k).cs)) (hxp : AtN x0 w pa v.np 7 (fun i => (v.P i).cs)) (hxq : AtN x0 w qa v.nq 2 (fun i => (v.Q i).cs)) :
    Calls Tryz.prog 10 #[.agg #[.int .i64 v.now, .slice sa v.ns sc, .slice ca v.nc cc, .slice pa v.np pc, .slice qa v.nq qc, .int .i64 v.free, .int .i64 v.live, .int .i64 v.gone], .int .u8 y] w (fun e w' => ∃ (u : VD) (ca2 pa2 qa2 : Option Addr) (cc2 pc2 qc2 : Nat) (cad2 : Nat → Option Addr) (cd2 : Nat → Nat), e = .returned (.agg #[.int .i64 u.now, .slice sa u.ns sc, .slice ca2 u.nc cc2, .slice pa2 u.np pc2, .slice qa2 u.nq qc2, .int .i64 u.free, .int .i64 u.live, .int .i64 u.gone]) ∧ u.Fit ∧ ViewIn w' u sa ca2 pa2 qa2 cad2 cd2 ∧ (AtN x0 w' ca2 u.nc 1 (fun c => [.slice (cad2 c) (u.cn c) (cd2 c)]) ∧ (∀ c, c < u.nc → AtN x0 w' (cad2 c) (u.cn c) 3 (fun k => (u.C c k).cs)) ∧ AtN x0 w' pa2 u.np 7 (fun i => (u.P i).cs) ∧ AtN x0 w' qa2 u.nq 2 (fun i => (u.Q i).cs)) ∧ (u.ns = v.ns ∧ u.S = v.S ∧ u.O = v.O) ∧ NoW w w') := by
  have HS := Lib.hid hv.s
  have HHo := Lib.hid hv.h
  have Hhn := Lib.hid hf.hn
  have HX0 := Lib.hid hx0
  have hns := hns0
  have hnc := hf.nc
  have Hok := Lib.hid hf.ok
  have hRH := Lib.hid hRH0
  have hh4 := Lib.hid hh0
  go_enter Tryz.func10, Tryz.ntmps10
  have HN := Lib.hid (Fp.refl (fun _ => False) w)
  go_upto_region 1 with fail
  refine wp_gen (fun z1 hW => ?_)
  obtain ⟨hB, hB2, hp⟩ := new2_blk hW
  clear hW
  have hGe := hid_ge HN
  replace HN := hid_now HN hp
  obtain ⟨gR, hgR⟩ : ∃ gR, gR = w.heap.size + 1 := ⟨_, rfl⟩
  obtain ⟨gV, hgV⟩ : ∃ gV, gV = w.heap.size := ⟨_, rfl⟩
  have G_gV := Lib.hid (show w.heap.size ≤ gV by omega)
  have G_gR := Lib.hid (show w.heap.size ≤ gR by omega)
  have n_gV_gR : ¬ gV = gR := by omega
  have n_gR_gV : ¬ gR = gV := by omega
  rw [← hgR] at hB2 ⊢
  rw [← hgV] at hB ⊢
  have B_gV := hB
  have B_gR := hB2
  have HVR1 := Lib.hid (show gR = gV + 1 from by omega)
  clear hB hB2 hgV hgR hGe hp
  have HVR := Lib.hid (show gR ≠ gV from by omega)
  have HM : Hid (MState x0 v sa sc gV gR w z1) := Lib.hid ⟨v, ca, pa, qa, cc, pc, qc, cad, cc', ⟨rfl, rfl, rfl, rfl, hf.cn, hf.np, hf.nq, B_gV.out, B_gR.out, AtX.of hxc G_gV.out HN.out, fun c hc => AtX.of (hxk c hc) G_gV.out HN.out, AtX.of hxp G_gV.out HN.out, AtX.of hxq G_gV.out HN.out, HN.out⟩⟩
  clear hv hf B_gV B_gR HN n_gV_gR n_gR_gV hns0 hh0 hRH0 hx0 hxc hxk hxp hxq
  go_upto_if 16 with fail
  go_cut [] (fun wx => MState x0 v sa sc gV gR w wx)
  case first =>
    obtain ⟨u, ca1, pa1, qa1, cc1, pc1, qc1, cad1, cd1, hm⟩ := HM.out
    have B_gV := Lib.hid hm.bV
    have B_gR := Lib.hid hm.bR
    have Hm := Lib.hid hm
    clear hm
    obtain ⟨B, hB⟩ : ∃ B, B = z1.heap.size := ⟨_, rfl⟩
    have HB := Lib.hid hB
    have HBV := Lib.hid (show gV < B by rw [hB]; exact hid_lt B_gV)
    have HVRl := Lib.hid (show gR < B by rw [hB]; exact hid_lt B_gR)
    clear hB
    generalize decide ((0 : Int) < bits .and .u8 (y : Int) 1) = tb
    rcases tb with _ | _
    · go_wp2_with fail
      go_meet
      exact HM.out
    · skip
      have c4 := cell_at B_gV 4 rfl
      have zV := froz_at B_gV
      have lV := hid_lt B_gV
      go_wp2_with fail
      clear c4 zV lV
      refine wp_gen (fun yw hW => ?_)
      have hB := set_blk hW B_gV
      simp only [List.setIfInBounds_toArray, List.set_cons_zero, List.set_cons_succ] at hB
      have hfs := set_now hW
      clear hW
      replace B_gR := hid_blkS B_gR hfs (by have h1 := HVR.out; omega)
      have HF0 := Lib.hid hfs
      have HBs0 := Lib.hid (Nat.le_trans (Nat.le_of_eq HB.out) hfs.size)
      clear hfs
      go_loopg [5] (v.ns + 1) (fun gg iv wx => ∃ (i m : Nat) (fq : Value) (Q : Nat → Int), i ≤ v.ns ∧ m ≤ i ∧ gg = v.ns + 1 - i ∧ iv = .int .i64 (i : Int) ∧ wx.heap[gV]? = some (.cells #[.int .i64 u.now, .slice sa v.ns sc, .slice ca1 v.nc cc1, .slice pa1 u.np pc1, fq, .int .i64 u.free, .int .i64 u.live, .int .i64 u.gone] 27 (0, 0)) ∧ wx.heap[gR]? = some (.cells #[.int .i64 0, .slice none 0 0, .slice none 0 0, .slice none 0 0, .slice none 0 0, .int .i64 0, .int .i64 0, .int .i64 0] 27 (0, 0)) ∧ LsAt B wx 71 2 m fq (fun k => [.int .i64 (Q k), .int .u32 0]) (fun _ => False) (fun _ => none) (fun _ => []) ∧ B ≤ wx.heap.size ∧ Fp (fun b => b = gV) z1 wx)
      case atStart => exact ⟨0, 0, _, fun _ => 0, by omega, by omega, by omega, rfl, hB.out, B_gR.out, LsAt.nil _ _ _ _ _ _ _ _, HBs0.out, HF0.out⟩
      case round =>
        clear B_gR hB HBs0 HF0
        obtain ⟨i, m, fq, Q, hi, hmi, hg, rfl, hbV, hbR, hla, hBs, hF⟩ := hrel
        have Hg := Lib.hid hg
        have B_gV := Lib.hid hbV
        have B_gR := Lib.hid hbR
        have HLA := Lib.hid hla
        have HBs := Lib.hid hBs
        have HNX := Lib.hid (Hm.out.low.trans hF (fun i hi e => by have h1 : i = gV := e; have h2 := G_gV.out; omega))
        have HF := Lib.hid hF
        clear hg hbV hbR hla hBs hF
        have c1 := cell_at B_gV 1 rfl
        have lV := hid_lt B_gV
        by_cases hlt1 : i < v.ns
        · skip
          obtain ⟨b1, o1, hs1, lb0, xc⟩ := HS.out i hlt1
          subst hs1
          have x2 : wr.cell? ⟨b1, o1 + i * 16 + 2, none⟩ = some (.bool (v.S i).dead) := (HNX.out.cell (p := ⟨b1, o1 + i * 16 + 2, none⟩) lb0 id).trans (xc 2 _ rfl)
          clear xc
          have ck1 : (i : Int) < (v.ns : Int) := by omega
          have pk1 : decide ((i : Int) < (v.ns : Int)) = true := decide_eq_true ck1
          have lb1 := cell_lt x2
          rcases hd : (v.S i).dead with _ | _
          · rw [hd] at x2
            clear hd
            go_wp2_with fail
            go_roundg (v.ns - i)
            case measure => have := Hg.out; omega
            case rel => exact ⟨i + 1, m, fq, Q, by omega, by omega, by omega, by go_num, B_gV.out, B_gR.out, HLA.out, HBs.out, HF.out⟩
          · rw [hd] at x2
            clear hd
            have c4 := cell_at B_gV 4 rfl
            have zV := froz_at B_gV
            go_wp2_with (at_builtin; go_must (refine wp_append1 rfl _ _ 25 rfl B 71 hndZ 2 Tryz.underlying25 hndI rfl (by decide) fq m ((List.range m).flatMap fun k => [.int .i64 (Q k), .int .u32 0]) rfl (ownsRow_low HLA.out.row ((Fp.refl (fun _ => False) wr).alloc _)) wr.heap.size [.int .i64 (i : Int), .int .u32 0] rfl rfl (heap_alloc_new wr _) (by simp [Value.oneCell']) (by omega) (Nat.le_trans HBs.out (by simp)) ?_))
            intro v' w' hown hgr hne hwh
            obtain ⟨gv, cv, rfl⟩ : ∃ gv cv, v' = .slice (some ⟨gv, 0, none⟩) (m + 1) cv := by rcases hown.2 with ⟨h, _⟩ | ⟨g, cap, cur, e, _⟩; (exact absurd h hne); exact ⟨g, cap, e⟩
            have hal : NoW wr (wr.alloc (.cells #[.int .i64 (i : Int), .int .u32 0] 71)) := (Fp.refl _ _).alloc _
            have HLC := HLA.out.low hal
            have HLD := Lib.hid (HLC.push (el' := fun k => [.int .i64 (upd Q m (i : Int) k), .int .u32 0]) (ad' := fun _ => none) (fun j hj => by simp only [upd_lt _ _ hj]) (by simp only [upd_same]) (fun j hj => rfl) (fun h => h.elim) hown hgr (by first | exact hwh | (simp only [World.size_alloc]; exact hwh)))
            have hf := grown_fp hgr
            replace B_gV := hid_blkS (hid_blk B_gV hal) hf (HLC.ne (by have h1 := HBV.out; have h2 := HVRl.out; omega))
            replace B_gR := hid_blkS (hid_blk B_gR hal) hf (HLC.ne (by have h1 := HBV.out; have h2 := HVRl.out; omega))
            have HF2 := Lib.hid ((HF.out.trans hal (fun _ _ h => h.elim)).trans hf (fun i hi e => absurd e (HLC.ne (by have h3 := HB.out; omega))))
            have hw2 := hf.size
            have hw3 := hal.size
            have HBs3 := Lib.hid (show B ≤ w'.heap.size from by have h1 := HBs.out; omega)
            clear hown hgr hne hwh hal HLC hf hw2 hw3 c1 c4 zV lV lb1 x2
            have c4 := cell_at B_gV 4 rfl
            have zV := froz_at B_gV
            have lV := hid_lt B_gV
            go_wp2_with fail
            clear c4 zV lV
            have hB := set_blk (W := (w'.setCell ⟨gV, 4, none⟩ (.slice (some ⟨gv, 0, none⟩) (m + 1) cv))) rfl B_gV
            simp only [List.setIfInBounds_toArray, List.set_cons_zero, List.set_cons_succ] at hB
            have hfs := set_now (W := (w'.setCell ⟨gV, 4, none⟩ (.slice (some ⟨gv, 0, none⟩) (m + 1) cv))) rfl
            replace B_gR := hid_blkS B_gR hfs (by have h1 := HVR.out; omega)
            have HLE := Lib.hid (HLD.out.fp hfs (fun b hb e => by have h1 : b = gV := e; have h2 := HBV.out; omega))
            have HF3 := Lib.hid (HF2.out.trans hfs (fun i hi e => e))
            have HBs4 := Lib.hid (Nat.le_trans HBs3.out hfs.size)
            clear hfs
            go_roundg (v.ns - i)
            case measure => have := Hg.out; omega
            case rel => exact ⟨i + 1, m + 1, _, _, by omega, by omega, by omega, by go_num, hB.out, B_gR.out, HLE.out, HBs4.out, HF3.out⟩
        · obtain rfl : i = v.ns := by omega
          have pk : decide ((v.ns : Int) < (v.ns : Int)) = false := decide_eq_false (by omega)
          go_wp2_with fail
          go_meet
          obtain ⟨qa2, qc2, rfl, _⟩ := own_at HLA.out.row (fun i => rfl)
          exact MState.of Hm.out HF.out G_gV.out B_gR.out (P' := u.P) (cn' := u.cn) (C' := u.C) (cad' := cad1) (cc3 := cd1) (Q' := fun k => ⟨Q k, 0⟩) B_gV.out Hm.out.cn Hm.out.np (by omega) (.inl ⟨rfl, rfl, rfl, rfl, rfl⟩) (.inl ⟨rfl, rfl, rfl⟩) (.inr (own_atX HLA.out.row (fun i => rfl) (by have h1 := HVRl.out; have h2 := HVR1.out; omega) (by have h1 := HX0.out; have h2 := Hm.out.low.size; have h3 := HB.out; omega)))
  case rest =>
    clear HM
    have HM := Lib.hid hcut
    clear hcut
    generalize wc = w1 at *
    go_upto_region 8 with fail
    go_cut [46] (fun s46 wx => ∃ b : Bool, s46 = .bool b ∧ (b = true → 0 < v.nc) ∧ MState x0 v sa sc gV gR w wx)
    case first =>
      obtain ⟨u, ca1, pa1, qa1, cc1, pc1, qc1, cad1, cd1, hm⟩ := HM.out
      have B_gV := Lib.hid hm.bV
      clear hm
      have c2 := cell_at B_gV 2 rfl
      have lV := hid_lt B_gV
      rcases h2 : decide ((0 : Int) < bits .and .u8 (y : Int) 2) with _ | _
      · go_wp2_with fail
        go_meet
        exact ⟨false, rfl, (fun h => by cases h), HM.out⟩
      · go_wp2_with fail
        go_meet
        exact ⟨decide (0 < v.nc), rfl, (fun h => of_decide_eq_true h), HM.out⟩
    case rest =>
      obtain ⟨b46, rfl, hnc0, hM2⟩ := hcut
      clear HM
      have HM := Lib.hid hM2
      clear hM2
      generalize wc = w2 at *
      go_upto_if 46 with fail
      go_cut [] (fun wx => MState x0 v sa sc gV gR w wx)
      case first =>
        obtain ⟨u, ca1, pa1, qa1, cc1, pc1, qc1, cad1, cd1, hm⟩ := HM.out
        have B_gV := Lib.hid hm.bV
        have B_gR := Lib.hid hm.bR
        have Hm := Lib.hid hm
        clear hm
        obtain ⟨B, hB⟩ : ∃ B, B = w2.heap.size := ⟨_, rfl⟩
        have HB := Lib.hid hB
        have HBV := Lib.hid (show gV < B by rw [hB]; exact hid_lt B_gV)
        have HVRl := Lib.hid (show gR < B by rw [hB]; exact hid_lt B_gR)
        clear hB
        rcases b46 with _ | _
        · go_wp2_with fail
          go_meet
          exact HM.out
        · have hnc1 := hnc0 rfl
          have KM := run_mkl v.nc hnc
          have c2 := cell_at B_gV 2 rfl
          have lV := hid_lt B_gV
          go_wp2_with fail
          clear c2 lV KM
          refine wp_gen (fun yw hW => ?_)
          have hp := new_now hW
          have hB := new_blk hW
          clear hW
          replace B_gV := hid_blk B_gV hp
          replace B_gR := hid_blk B_gR hp
          obtain ⟨gC, hgC⟩ : ∃ gC, gC = w2.heap.size := ⟨_, rfl⟩
          rw [← hgC] at hB ⊢
          have HGC := Lib.hid hgC
          have HVC := Lib.hid (show gV < gC by have h1 := HB.out; have h2 := HBV.out; omega)
          have HRC := Lib.hid (show gR < gC by have h1 := HB.out; have h2 := HVRl.out; omega)
          obtain ⟨B2, hB2⟩ : ∃ B2, B2 = yw.heap.size := ⟨_, rfl⟩
          have HBs0 := Lib.hid (Nat.le_of_eq hB2)
          have HO0 := Lib.hid (own2_new (B := B2) (L := fun _ _ => ⟨0, 0, false⟩) hB.out (by rw [hB2]; exact hid_lt hB))
          have HF0 := Lib.hid hp
          clear hp hB hgC hB2
          go_loopg [7] (v.ns + 1) (fun gg iv wx => ∃ (i : Nat) (cn : Nat → Nat) (L : Nat → Nat → LinkD) (fl : Nat → Value), i ≤ v.ns ∧ gg = v.ns + 1 - i ∧ iv = .int .i64 (i : Int) ∧ (∀ c, cn c ≤ 2 * i) ∧ wx.heap[gV]? = some (.cells #[.int .i64 u.now, .slice sa v.ns sc, .slice ca1 v.nc cc1, .slice pa1 u.np pc1, .slice qa1 u.nq qc1, .int .i64 u.free, .int .i64 u.live, .int .i64 u.gone] 27 (0, 0)) ∧ wx.heap[gR]? = some (.cells #[.int .i64 0, .slice none 0 0, .slice none 0 0, .slice none 0 0, .slice none 0 0, .int .i64 0, .int .i64 0, .int .i64 0] 27 (0, 0)) ∧ Own2 B2 wx gC v.nc cn L fl ∧ B2 ≤ wx.heap.size ∧ NoW w2 wx)
          case atStart => exact ⟨0, _, _, _, by omega, by omega, rfl, fun _ => Nat.zero_le _, B_gV.out, B_gR.out, HO0.out, HBs0.out, HF0.out⟩
          case round =>
            clear B_gV B_gR HO0 HBs0 HF0
            obtain ⟨i, cn, L, fl, hi, hg, rfl, hcn2, hbV, hbR, hO, hBs, hF⟩ := hrel
            have Hg := Lib.hid hg
            have HCn := Lib.hid hcn2
            have B_gV := Lib.hid hbV
            have B_gR := Lib.hid hbR
            have HO := Lib.hid hO
            have HBs := Lib.hid hBs
            have HNX := Lib.hid (Hm.out.low.trans hF (fun _ _ h => h))
            have HF := Lib.hid hF
            clear hg hcn2 hbV hbR hO hBs hF
            have c1 := cell_at B_gV 1 rfl
            have lV := hid_lt B_gV
            by_cases hlt1 : i < v.ns
            · skip
              obtain ⟨b1, o1, hs1, lb0, xc⟩ := HS.out i hlt1
              subst hs1
              have x1 : wr.cell? ⟨b1, o1 + i * 16 + 1, none⟩ = some (.bool (v.S i).put) := (HNX.out.cell (p := ⟨b1, o1 + i * 16 + 1, none⟩) lb0 id).trans (xc 1 _ rfl)
              have x2 : wr.cell? ⟨b1, o1 + i * 16 + 2, none⟩ = some (.bool (v.S i).dead) := (HNX.out.cell (p := ⟨b1, o1 + i * 16 + 2, none⟩) lb0 id).trans (xc 2 _ rfl)
              have x3 : wr.cell? ⟨b1, o1 + i * 16 + 3, none⟩ = some (.int .u8 (v.S i).e.r) := (HNX.out.cell (p := ⟨b1, o1 + i * 16 + 3, none⟩) lb0 id).trans (xc 3 _ rfl)
              have x4 : wr.cell? ⟨b1, o1 + i * 16 + 4, none⟩ = some (.int .u32 (v.S i).e.a) := (HNX.out.cell (p := ⟨b1, o1 + i * 16 + 4, none⟩) lb0 id).trans (xc 4 _ rfl)
              have x5 : wr.cell? ⟨b1, o1 + i * 16 + 5, none⟩ = some (.int .u16 (v.S i).e.p) := (HNX.out.cell (p := ⟨b1, o1 + i * 16 + 5, none⟩) lb0 id).trans (xc 5 _ rfl)
              have x6 : wr.cell? ⟨b1, o1 + i * 16 + 6, none⟩ = some (.int .u32 (v.S i).e.b) := (HNX.out.cell (p := ⟨b1, o1 + i * 16 + 6, none⟩) lb0 id).trans (xc 6 _ rfl)
              have x7 : wr.cell? ⟨b1, o1 + i * 16 + 7, none⟩ = some (.int .u16 (v.S i).e.q) := (HNX.out.cell (p := ⟨b1, o1 + i * 16 + 7, none⟩) lb0 id).trans (xc 7 _ rfl)
              have x8 : wr.cell? ⟨b1, o1 + i * 16 + 8, none⟩ = some (.int .u8 (v.S i).e.r2) := (HNX.out.cell (p := ⟨b1, o1 + i * 16 + 8, none⟩) lb0 id).trans (xc 8 _ rfl)
              have x9 : wr.cell? ⟨b1, o1 + i * 16 + 9, none⟩ = some (.int .u32 (v.S i).e.a2) := (HNX.out.cell (p := ⟨b1, o1 + i * 16 + 9, none⟩) lb0 id).trans (xc 9 _ rfl)
              have x10 : wr.cell? ⟨b1, o1 + i * 16 + 10, none⟩ = some (.int .u16 (v.S i).e.p2) := (HNX.out.cell (p := ⟨b1, o1 + i * 16 + 10, none⟩) lb0 id).trans (xc 10 _ rfl)
              have x11 : wr.cell? ⟨b1, o1 + i * 16 + 11, none⟩ = some (.int .u32 (v.S i).e.b2) := (HNX.out.cell (p := ⟨b1, o1 + i * 16 + 11, none⟩) lb0 id).trans (xc 11 _ rfl)
              have x12 : wr.cell? ⟨b1, o1 + i * 16 + 12, none⟩ = some (.int .u16 (v.S i).e.q2) := (HNX.out.cell (p := ⟨b1, o1 + i * 16 + 12, none⟩) lb0 id).trans (xc 12 _ rfl)
              clear xc
              have ck1 : (i : Int) < (v.ns : Int) := by omega
              have pk1 : decide ((i : Int) < (v.ns : Int)) = true := decide_eq_true ck1
              have lb1 := cell_lt x1
              rcases hd : (v.S i).put with _ | _
              · rw [hd] at x1
                clear hd
                go_wp2_with fail
                go_roundg (v.ns - i)
                case measure => have := Hg.out; omega
                case rel => exact ⟨i + 1, cn, L, fl, by omega, by omega, by go_num, (fun c => by have := HCn.out c; omega), B_gV.out, B_gR.out, HO.out, HBs.out, HF.out⟩
              · rw [hd] at x1
                clear hd
                have hOk := Hok.out i hlt1
                obtain ⟨na, hna, hnal⟩ := hash_nat (v.S i).e.r (v.S i).e.a (v.S i).e.p (v.S i).e.b (v.S i).e.q v.nc hnc1
                obtain ⟨nb, hnb, hnbl⟩ := hash_nat (v.S i).e.r2 (v.S i).e.a2 (v.S i).e.p2 (v.S i).e.b2 (v.S i).e.q2 v.nc hnc1
                have K1 := Lib.hid (fun W => hRH.out (v.S i).e.r (v.S i).e.a (v.S i).e.p (v.S i).e.b (v.S i).e.q v.nc W hOk.r hOk.a hOk.p hOk.b hOk.q (by omega))
                have K2 := Lib.hid (fun W => hRH.out (v.S i).e.r2 (v.S i).e.a2 (v.S i).e.p2 (v.S i).e.b2 (v.S i).e.q2 v.nc W hOk.r2 hOk.a2 hOk.p2 hOk.b2 hOk.q2 (by omega))
                rw [hna] at K1
                rw [hnb] at K2
                clear hna hnb hOk
                have nV : True := trivial
                go_upto_region 14 with fail
                refine wp_region_held_drew (S := fun wx => NoW wr wx) (by kernel_rfl) (Fp.drew (Fp.refl _ _)) (fun hHeld0 => ?_)
                refine any_eq hHeld0 (fun y1 hW hHeld => ?_)
                clear hHeld0
                replace B_gV := hid_blk B_gV (noW_drew hW)
                replace B_gR := hid_blk B_gR (noW_drew hW)
                replace HO := Lib.hid (HO.out.low (noW_drew hW))
                clear hW
                (refine tk 0 (some 64) ?_ ?_ ?_; rotate_left; (focus (intro wS hSw; go_simp; try with_reducible rfl)); (try simp only [Act.put, List.setIfInBounds_toArray, List.set_cons_zero, List.set_cons_succ]))
                (refine tk 1 (some 65) ?_ ?_ ?_; rotate_left; (focus (intro wS hSw; (have qV := (hSw.cell (p := ⟨gV, 1, none⟩) lV id).trans c1); go_simp; try with_reducible rfl)); (try simp only [Act.put, List.setIfInBounds_toArray, List.set_cons_zero, List.set_cons_succ]))
                (refine tk 2 (some 66) ?_ ?_ ?_; rotate_left; (focus (intro wS hSw; go_simp; try with_reducible rfl)); (try simp only [Act.put, List.setIfInBounds_toArray, List.set_cons_zero, List.set_cons_succ]))
                (refine tk 3 (some 67) ?_ ?_ ?_; rotate_left; (focus (intro wS hSw; go_simp; try with_reducible rfl)); (try simp only [Act.put, List.setIfInBounds_toArray, List.set_cons_zero, List.set_cons_succ]))
                (refine tk 4 (some 68) ?_ ?_ ?_; rotate_left; (focus (intro wS hSw; go_simp; try with_reducible rfl)); (try simp only [Act.put, List.setIfInBounds_toArray, List.set_cons_zero, List.set_cons_succ]))
                (refine tk 5 (some 69) ?_ ?_ ?_; rotate_left; (focus (intro wS hSw; go_simp; try with_reducible rfl)); (try simp only [Act.put, List.setIfInBounds_toArray, List.set_cons_zero, List.set_cons_succ]))
                (refine tk 6 (some 70) ?_ ?_ ?_; rotate_left; (focus (intro wS hSw; (have p3 := (hSw.cell (p := ⟨b1, o1 + i * 16 + 3, none⟩) lb1 id).trans x3); (have p4 := (hSw.cell (p := ⟨b1, o1 + i * 16 + 4, none⟩) lb1 id).trans x4); (have p5 := (hSw.cell (p := ⟨b1, o1 + i * 16 + 5, none⟩) lb1 id).trans x5); (have p6 := (hSw.cell (p := ⟨b1, o1 + i * 16 + 6, none⟩) lb1 id).trans x6); (have p7 := (hSw.cell (p := ⟨b1, o1 + i * 16 + 7, none⟩) lb1 id).trans x7); go_simp; try with_reducible rfl)); (try simp only [Act.put, List.setIfInBounds_toArray, List.set_cons_zero, List.set_cons_succ]))
                (refine tk 7 (some 71) ?_ ?_ ?_; rotate_left; (focus (intro wS hSw; go_simp; try with_reducible rfl)); (try simp only [Act.put, List.setIfInBounds_toArray, List.set_cons_zero, List.set_cons_succ]))
                (refine tk 8 (some 72) ?_ ?_ ?_; rotate_left; (focus (intro wS hSw; go_simp; try with_reducible rfl)); (try simp only [Act.put, List.setIfInBounds_toArray, List.set_cons_zero, List.set_cons_succ]))
                (refine tk 10 (some 74) ?_ ?_ ?_; rotate_left; (focus (intro wS hSw; go_simp; try with_reducible rfl)); (try simp only [Act.put, List.setIfInBounds_toArray, List.set_cons_zero, List.set_cons_succ]))
                (refine tk 11 (some 75) ?_ ?_ ?_; rotate_left; (focus (intro wS hSw; (have qV := (hSw.cell (p := ⟨gV, 1, none⟩) lV id).trans c1); go_simp; try with_reducible rfl)); (try simp only [Act.put, List.setIfInBounds_toArray, List.set_cons_zero, List.set_cons_succ]))
                (refine tk 12 (some 76) ?_ ?_ ?_; rotate_left; (focus (intro wS hSw; go_simp; try with_reducible rfl)); (try simp only [Act.put, List.setIfInBounds_toArray, List.set_cons_zero, List.set_cons_succ]))
                (refine tk 13 (some 77) ?_ ?_ ?_; rotate_left; (focus (intro wS hSw; go_simp; try with_reducible rfl)); (try simp only [Act.put, List.setIfInBounds_toArray, List.set_cons_zero, List.set_cons_succ]))
                (refine tk 14 (some 78) ?_ ?_ ?_; rotate_left; (focus (intro wS hSw; go_simp; try with_reducible rfl)); (try simp only [Act.put, List.setIfInBounds_toArray, List.set_cons_zero, List.set_cons_succ]))
                (refine tk 15 (some 79) ?_ ?_ ?_; rotate_left; (focus (intro wS hSw; go_simp; try with_reducible rfl)); (try simp only [Act.put, List.setIfInBounds_toArray, List.set_cons_zero, List.set_cons_succ]))
                (refine tk 16 (some 80) ?_ ?_ ?_; rotate_left; (focus (intro wS hSw; (have p8 := (hSw.cell (p := ⟨b1, o1 + i * 16 + 8, none⟩) lb1 id).trans x8); (have p9 := (hSw.cell (p := ⟨b1, o1 + i * 16 + 9, none⟩) lb1 id).trans x9); (have p10 := (hSw.cell (p := ⟨b1, o1 + i * 16 + 10, none⟩) lb1 id).trans x10); (have p11 := (hSw.cell (p := ⟨b1, o1 + i * 16 + 11, none⟩) lb1 id).trans x11); (have p12 := (hSw.cell (p := ⟨b1, o1 + i * 16 + 12, none⟩) lb1 id).trans x12); go_simp; try with_reducible rfl)); (try simp only [Act.put, List.setIfInBounds_toArray, List.set_cons_zero, List.set_cons_succ]))
                (refine tk 17 (some 81) ?_ ?_ ?_; rotate_left; (focus (intro wS hSw; go_simp; try with_reducible rfl)); (try simp only [Act.put, List.setIfInBounds_toArray, List.set_cons_zero, List.set_cons_succ]))
                (refine tk 18 (some 82) ?_ ?_ ?_; rotate_left; (focus (intro wS hSw; go_simp; try with_reducible rfl)); (try simp only [Act.put, List.setIfInBounds_toArray, List.set_cons_zero, List.set_cons_succ]))
                refine wpAnyH_ready (rs := [9]) (by kernel_rfl) (by simp) ?_
                refine AllReadyH.cons rfl (fun K hK => ?_) AllReadyH.nil
                go_simp
                go_at_call 27
                refine (show Calls _ _ _ _ _ from K1.out _).mono ?_
                rintro e y2 ⟨rfl, hp⟩
                have hn := Fp.trans hHeld hp (fun _ _ h => h.elim)
                replace HO := Lib.hid (HO.out.low hp)
                replace B_gV := hid_blk B_gV hp
                replace B_gR := hid_blk B_gR hp
                refine k_now hK hn ?_
                clear hK K hp hHeld
                have hHeld := hn
                clear hn
                try simp only [Act.put, List.setIfInBounds_toArray, List.set_cons_zero, List.set_cons_succ]
                refine wpAnyH_ready (rs := [19]) (by kernel_rfl) (by simp) ?_
                refine AllReadyH.cons rfl (fun K hK => ?_) AllReadyH.nil
                go_simp
                go_at_call 27
                refine (show Calls _ _ _ _ _ from K2.out _).mono ?_
                rintro e y3 ⟨rfl, hp⟩
                have hn := Fp.trans hHeld hp (fun _ _ h => h.elim)
                replace HO := Lib.hid (HO.out.low hp)
                replace B_gV := hid_blk B_gV hp
                replace B_gR := hid_blk B_gR hp
                refine k_now hK hn ?_
                clear hK K hp hHeld
                have hHeld := hn
                clear hn
                try simp only [Act.put, List.setIfInBounds_toArray, List.set_cons_zero, List.set_cons_succ]
                (refine tk 20 (some 8) ?_ ?_ ?_; rotate_left; (focus (intro wS hSw; go_simp; try with_reducible rfl)); (try simp only [Act.put, List.setIfInBounds_toArray, List.set_cons_zero, List.set_cons_succ]))
                (refine tk 21 (some 9) ?_ ?_ ?_; rotate_left; (focus (intro wS hSw; go_simp; try with_reducible rfl)); (try simp only [Act.put, List.setIfInBounds_toArray, List.set_cons_zero, List.set_cons_succ]))
                refine wpAnyH_done (by kernel_rfl) ?_ _
                have hBs9 := Nat.le_trans HBs.out hHeld.size
                have HF9 := Lib.hid (HF.out.trans hHeld (fun _ _ h => h))
                clear HF HBs hHeld c1 lV nV lb1 K1 K2 HNX x1 x2 x3 x4 x5 x6 x7 x8 x9 x10 x11 x12
                have HBs := Lib.hid hBs9
                clear hBs9
                have cC := HO.out.cell hnal
                have zC := HO.out.froz na
                have lC := (Array.getElem?_eq_some_iff.1 HO.out.blk).1
                have ci : ((na : Nat) : Int) < (v.nc : Int) := by omega
                have hcnl := HCn.out na
                go_wp2_with (at_builtin; go_must (refine wp_append1 rfl _ _ 55 rfl B2 83 lnkZ 3 Tryz.underlying55 lnkI rfl (by decide) (fl na) (cn na) ((List.range (cn na)).flatMap fun m => (L na m).cs) rfl (ownsRow_low (HO.out.row na hnal) ((Fp.refl (fun _ => False) y3).alloc _)) y3.heap.size [.int .i64 (i : Int), .int .u32 0, .bool false] rfl rfl (heap_alloc_new y3 _) (by simp [Value.oneCell']) (by omega) (Nat.le_trans HBs.out (by simp)) ?_))
                intro v' w' hown hgr hne hwh
                obtain ⟨gv, cv, rfl⟩ : ∃ gv cv, v' = .slice (some ⟨gv, 0, none⟩) (cn na + 1) cv := by rcases hown.2 with ⟨h, _⟩ | ⟨g, cap, cur, e, _⟩; (exact absurd h hne); exact ⟨g, cap, e⟩
                have hal : NoW y3 (y3.alloc (.cells #[.int .i64 (i : Int), .int .u32 0, .bool false] 83)) := (Fp.refl _ _).alloc _
                have HOC := HO.out.low hal
                have hwh2 := hwh
                clear cC zC lC
                have hf := grown_fp hgr
                have HOw := Lib.hid (show w'.cell? ⟨gC, na, none⟩ = some (fl na) from ((hf.cell (p := ⟨gC, na, none⟩) (cell_lt (HOC.cell hnal)) (fun e => by have h1 := (World.ownsRow.lt (HOC.row na hnal) gC e).1; have h2 := HOC.lt; omega)).trans (HOC.cell hnal)))
                have zC : w'.frozen? ⟨gC, na, none⟩ = false := froz_at (hid ((hf.block gC (cell_lt (HOC.cell hnal)) (fun e => by have h1 := (World.ownsRow.lt (HOC.row na hnal) gC e).1; have h2 := HOC.lt; omega)).trans HOC.blk)) na
                have cC := HOw.out
                have lC := cell_lt cC
                dsimp only at lC
                go_upto_region 16 with fail
                refine wp_gen (fun zq hW => ?_)
                obtain ⟨hO2, hf2⟩ := HOC.push (x := ⟨(i : Int), 0, false⟩) hnal hown hgr (by first | exact hwh | (simp only [World.size_alloc]; exact hwh)) hW
                have hf3 : Fp (fun b => B2 ≤ b ∨ b = gC) y3 zq := Fp.trans (Fp.mono hal (fun _ _ h => h.elim)) hf2 (fun _ _ e => e)
                have hV1 := HVC.out
                have hR1 := HRC.out
                have hC1 := HO.out.lt
                replace B_gV := hid_blkS B_gV hf3 (fun e => by omega)
                replace B_gR := hid_blkS B_gR hf3 (fun e => by omega)
                replace HO := Lib.hid hO2
                replace HBs := Lib.hid (Nat.le_trans HBs.out hf3.size)
                replace HF9 := Lib.hid (HF9.out.trans hf3 (fun i hi e => by have h1 := HGC.out; rcases e with e | e <;> omega))
                clear hO2 hf2 hf3 hal HOC hwh hwh2 hown hgr hne hf HOw zC cC lC ci hcnl hV1 hR1 hC1 hW
                obtain ⟨cn2, hcn2⟩ : ∃ f, f = upd cn na (cn na + 1) := ⟨_, rfl⟩
                obtain ⟨L2, hL2⟩ : ∃ f, f = upd L na (upd (L na) (cn na) ⟨(i : Int), 0, false⟩) := ⟨_, rfl⟩
                obtain ⟨fl2, hfl2⟩ : ∃ f, f = upd fl na (.slice (some ⟨gv, 0, none⟩) (cn na + 1) cv) := ⟨_, rfl⟩
                rw [← hcn2, ← hL2, ← hfl2] at HO
                have HCn2 := Lib.hid (show ∀ c, cn2 c ≤ 2 * i + 1 from fun c => by have h1 := HCn.out c; have h2 := HCn.out na; rw [hcn2]; unfold upd; split <;> omega)
                clear hcn2 hL2 hfl2
                have cC := HO.out.cell hnbl
                have zC := HO.out.froz nb
                have lC := (Array.getElem?_eq_some_iff.1 HO.out.blk).1
                have ci : ((nb : Nat) : Int) < (v.nc : Int) := by omega
                have hcnl := HCn2.out nb
                go_wp2_with (at_builtin; go_must (refine wp_append1 rfl _ _ 55 rfl B2 83 lnkZ 3 Tryz.underlying55 lnkI rfl (by decide) (fl2 nb) (cn2 nb) ((List.range (cn2 nb)).flatMap fun m => (L2 nb m).cs) rfl (ownsRow_low (HO.out.row nb hnbl) ((Fp.refl (fun _ => False) zq).alloc _)) zq.heap.size [.int .i64 (i : Int), .int .u32 0, .bool true] rfl rfl (heap_alloc_new zq _) (by simp [Value.oneCell']) (by omega) (Nat.le_trans HBs.out (by simp)) ?_))
                intro v' w' hown hgr hne hwh
                obtain ⟨gv, cv, rfl⟩ : ∃ gv cv, v' = .slice (some ⟨gv, 0, none⟩) (cn2 nb + 1) cv := by rcases hown.2 with ⟨h, _⟩ | ⟨g, cap, cur, e, _⟩; (exact absurd h hne); exact ⟨g, cap, e⟩
                have hal : NoW zq (zq.alloc (.cells #[.int .i64 (i : Int), .int .u32 0, .bool true] 83)) := (Fp.refl _ _).alloc _
                have HOC := HO.out.low hal
                have hwh2 := hwh
                clear cC zC lC
                have hf := grown_fp hgr
                have HOw := Lib.hid (show w'.cell? ⟨gC, nb, none⟩ = some (fl2 nb) from ((hf.cell (p := ⟨gC, nb, none⟩) (cell_lt (HOC.cell hnbl)) (fun e => by have h1 := (World.ownsRow.lt (HOC.row nb hnbl) gC e).1; have h2 := HOC.lt; omega)).trans (HOC.cell hnbl)))
                have zC : w'.frozen? ⟨gC, nb, none⟩ = false := froz_at (hid ((hf.block gC (cell_lt (HOC.cell hnbl)) (fun e => by have h1 := (World.ownsRow.lt (HOC.row nb hnbl) gC e).1; have h2 := HOC.lt; omega)).trans HOC.blk)) nb
                have cC := HOw.out
                have lC := cell_lt cC
                dsimp only at lC
                go_wp2_with fail
                have hWW : ∃ W, W = w'.setCell ⟨gC, nb, none⟩ (.slice (some ⟨gv, 0, none⟩) (cn2 nb + 1) cv) := ⟨_, rfl⟩
                obtain ⟨zr, hW⟩ := hWW
                obtain ⟨hO2, hf2⟩ := HOC.push (x := ⟨(i : Int), 0, true⟩) hnbl hown hgr (by first | exact hwh | (simp only [World.size_alloc]; exact hwh)) hW
                have hf3 : Fp (fun b => B2 ≤ b ∨ b = gC) zq zr := Fp.trans (Fp.mono hal (fun _ _ h => h.elim)) hf2 (fun _ _ e => e)
                have hV1 := HVC.out
                have hR1 := HRC.out
                have hC1 := HO.out.lt
                replace B_gV := hid_blkS B_gV hf3 (fun e => by omega)
                replace B_gR := hid_blkS B_gR hf3 (fun e => by omega)
                replace HO := Lib.hid hO2
                replace HBs := Lib.hid (Nat.le_trans HBs.out hf3.size)
                replace HF9 := Lib.hid (HF9.out.trans hf3 (fun i hi e => by have h1 := HGC.out; rcases e with e | e <;> omega))
                subst hW
                go_roundg (v.ns - i)
                case measure => have := Hg.out; omega
                case rel => exact ⟨i + 1, _, _, _, by omega, by omega, by go_num, (fun c => by have h1 := HCn2.out c; have h2 := HCn2.out nb; unfold upd; split <;> omega), B_gV.out, B_gR.out, HO.out, HBs.out, HF9.out⟩
            · obtain rfl : i = v.ns := by omega
              have pk : decide ((v.ns : Int) < (v.ns : Int)) = false := decide_eq_false (by omega)
              have c2 := cell_at B_gV 2 rfl
              have zV := froz_at B_gV
              go_wp2_with fail
              go_meet
              have hB := set_blk (W := (wr.setCell ⟨gV, 2, none⟩ (.slice (some ⟨gC, 0, none⟩) v.nc v.nc))) rfl B_gV
              simp only [List.setIfInBounds_toArray, List.set_cons_zero, List.set_cons_succ] at hB
              have hfs := set_now (W := (wr.setCell ⟨gV, 2, none⟩ (.slice (some ⟨gC, 0, none⟩) v.nc v.nc))) rfl
              have hO := HO.out.fp hfs (fun b e => by have h1 : b = gV := e; have h2 := HVC.out; have h3 := HO.out.lt; omega)
              obtain ⟨cad2, cc2, h1, h2⟩ := hO.atX (g := gV) (by have h2 := HRC.out; have h3 := HO.out.lt; have h4 := HVR1.out; omega) (by have h2 := HRC.out; have h4 := HVR1.out; omega) (x := x0) (by have h1 := HX0.out; have h2 := Hm.out.low.size; have h3 := HGC.out; omega)
              exact MState.of Hm.out (Fp.trans (Fp.mono HF.out (fun _ _ h => h.elim)) hfs (fun _ _ e => e)) G_gV.out (hid_blkS B_gR hfs (by have h1 := HVR.out; omega)).out (P' := u.P) (Q' := u.Q) hB.out (fun c => by have := HCn.out c; omega) Hm.out.np Hm.out.nq (.inr ⟨h1, h2⟩) (.inl ⟨rfl, rfl, rfl⟩) (.inl ⟨rfl, rfl, rfl⟩)
      case rest =>
        clear hnc0
        clear HM
        have HM := Lib.hid hcut
        clear hcut
        generalize wc = w3 at *
        go_step
        exact mended_rest _ _ _ _ _ _ _ _ _ _ _ _ _ _ _ _ _ _ _ _ _ _ _ _ _ _ _ _ _ _ _ _ _ _ _ _ _ _ _ _ _ _ _ _ _ _ _ _ _ _ _ _ _ _ _ _ _ _ _ _ _ _ _ _ _ _ _ _ _ _ _ _ _ _ _ _ _ _ _ _ _ _ _ _ _ _ _ _ _ _ _ _ _ _ _ _ _ _ _ _ _ _ _ _ _ _ _ _ _ _ _ _ _ _ _ _ _ _ _ _ _ _ _ _ _ _ _ _ _ _ _ _ _ _ _ _ _ _ _ _ _ _ _ _ _ _ _ _ _ _ _ _ _ _ _ _ _ _ _ _ _ _ _ _ _ _ _ _ _ _ _ _ _ _ _ _ _ _ _ _ _ _ _ _ _ _ _ _ _ _ _ _ _ _ _ v sa ca pa qa sc cc pc qc x0 y gV gR w w3 HX0 HM HS HHo hns hnc Hhn hh4 Hok HVR1 HVR G_gV G_gR
end Go.Proofs.YtcimbbllefkdlaaGreatDoor

namespace Go.Proofs.YtcimbbllefkdlaaGreatDoor
set_option linter.unusedVariables false
set_option linter.unusedSimpArgs false
open Go.RowKit Go.Lib Go.Sort
set_option maxHeartbeats 8000000 in
set_option maxRecDepth 100000 in
theorem rhash_ok : RHashOk := by
  intro r a p b q n w hr ha hp hb hq hn
  have KN := Lib.hid (fun W => r12_num r a p b q hr ha hp hb hq W)
  have hlt : hashL (tupBy r a p b q) < 4294967296 := Nat.mod_lt _ (by omega)
  have hH : hashOf r a p b q n = if (n : Int) < 1 then 0 else ((hashL (tupBy r a p b q) % n : Nat) : Int) := rfl
  obtain ⟨z, hz⟩ : ∃ z, z = hashOf r a p b q n := ⟨_, rfl⟩
  rw [← hz] at hH ⊢
  clear hz hr ha hp hb hq
  obtain ⟨x, hx⟩ : ∃ x, x = hashL (tupBy r a p b q) := ⟨_, rfl⟩
  rw [← hx] at KN hlt hH
  clear hx
  by_cases h1 : n < 1
  · have c1 : (n : Int) < 1 := by omega
    rw [if_pos c1] at hH
    subst hH
    go_enter Tryz.func27, Tryz.ntmps27
    have HN := Lib.hid (Fp.refl (fun _ => False) w)
    go_upto_region 1 with fail
    refine wp_gen (fun z1 hW => ?_)
    have hp := new_now hW
    have hB := new_blk hW
    clear hW
    have hGe := hid_ge HN
    replace HN := hid_now HN hp
    obtain ⟨t, ht⟩ : ∃ t, t = w.heap.size := ⟨_, rfl⟩
    have G_t := Lib.hid (Nat.le_trans hGe (Nat.le_of_eq ht.symm))
    rw [← ht] at hB ⊢
    have B_t := hB
    clear hB hGe ht
    clear hp
    go_wp2_with fail
    go_ret
    exact ⟨rfl, HN.out⟩
  · have c1 : ¬ (n : Int) < 1 := by omega
    rw [if_neg c1] at hH
    have c2 : (1 : Int) ≤ (n : Int) := by omega
    have s1 : IntKind.u64.wrap (n : Int) = (n : Int) := IntWalk.u64_in _ (by omega)
    obtain ⟨y, hy⟩ : ∃ y, y = x % n := ⟨_, rfl⟩
    have hyl : y < 100 := by rw [hy]; exact Nat.lt_of_lt_of_le (Nat.mod_lt _ (by omega)) hn
    have s2 : (x : Int).tmod (n : Int) = (y : Int) := by rw [Int.tmod_eq_emod_of_nonneg (by omega), hy]; rfl
    have s3 : (x : Int) % (n : Int) = (y : Int) := by rw [hy]; rfl
    have s4 : IntKind.i64.wrap (y : Int) = (y : Int) := IntWalk.i64_in _ (by omega)
    have s5 : IntKind.u64.wrap (y : Int) = (y : Int) := IntWalk.u64_in _ (by omega)
    rw [← hy] at hH
    subst hH
    clear hy
    have c3 : ¬ n = 0 := by omega
    go_enter Tryz.func27, Tryz.ntmps27
    have HN := Lib.hid (Fp.refl (fun _ => False) w)
    go_upto_region 1 with fail
    refine wp_gen (fun z1 hW => ?_)
    have hp := new_now hW
    have hB := new_blk hW
    clear hW
    have hGe := hid_ge HN
    replace HN := hid_now HN hp
    obtain ⟨t, ht⟩ : ∃ t, t = w.heap.size := ⟨_, rfl⟩
    have G_t := Lib.hid (Nat.le_trans hGe (Nat.le_of_eq ht.symm))
    rw [← ht] at hB ⊢
    have B_t := hB
    clear hB hGe ht
    clear hp
    have ct0 := cell_at B_t 0 rfl
    have ct1 := cell_at B_t 1 rfl
    have ct2 := cell_at B_t 2 rfl
    have ct3 := cell_at B_t 3 rfl
    have ct4 := cell_at B_t 4 rfl
    have zt := froz_at B_t
    have lt := hid_lt B_t
    go_wp2_with fail
    refine (KN.out _).mono ?_
    rintro e zb ⟨rfl, hp⟩
    replace HN := hid_now HN hp
    clear hp ct0 ct1 ct2 ct3 ct4 zt lt
    go_wp2_with fail
    go_ret
    exact ⟨rfl, HN.out⟩
end Go.Proofs.YtcimbbllefkdlaaGreatDoor

namespace Go.Proofs.YtcimbbllefkdlaaGreatDoor
set_option linter.unusedVariables false
set_option linter.unusedSimpArgs false
open Go.RowKit Go.Lib Go.Sort
/-- The cells of a fault. -/
def fcs (fs : List (Int × Int)) (i : Nat) : List Value := [.int .i64 (fs.getD i (0, 0)).1, .int .i64 (fs.getD i (0, 0)).2]
theorem flatF_get (fs : List (Int × Int)) (i j : Nat) (v : Value) (hi : i < fs.length) (h : (fcs fs i)[j]? = some v) : (flatF fs)[i * 2 + j]? = some v := by
  induction fs generalizing i with
  | nil => simp at hi
  | cons x l ih =>
    have hj : j < 2 := (List.getElem?_eq_some_iff.1 h).1
    have e : flatF (x :: l) = [.int .i64 x.1, .int .i64 x.2] ++ flatF l := by simp [flatF]
    rw [e]
    cases i with
    | zero => rw [List.getElem?_append_left (by simp; omega)]; simpa [fcs] using h
    | succ i =>
      rw [List.getElem?_append_right (by simp; omega)]
      have := ih i (by simpa using hi) (by simpa [fcs] using h)
      simpa [show (i + 1) * 2 + j - 2 = i * 2 + j by omega] using this
theorem own_atF {w : World} {B T : Nat} {fv : Value} {fs : List (Int × Int)} (h : w.ownsRow B T 2 fv fs.length (flatF fs)) : ∃ sl c, fv = .slice sl fs.length c ∧ AtC w sl fs.length 2 (fcs fs) := by
  rcases h.2 with ⟨e, h0⟩ | ⟨g, cap, cur, e, hB, hg, _⟩
  · exact ⟨none, 0, by rw [e, h0], fun i hi => by omega⟩
  · refine ⟨some ⟨g, 0, none⟩, cap, e, fun i hi => ⟨g, 0, rfl, (Array.getElem?_eq_some_iff.1 hg).1, fun j v hj => ?_⟩⟩
    have := World.ownsRow.cells h (by rw [e]; rfl) _ v (flatF_get fs i j v hi hj)
    rw [add_eq] at this
    rw [show 0 + i * 2 + j = 0 + (i * 2 + j) by omega]; exact this
set_option maxHeartbeats 8000000 in
set_option maxRecDepth 100000 in
theorem same_ok (fs : List (Int × Int)) (fv1 fv2 : Value) (B1 B2 : Nat) (w : World) (h1 : w.ownsRow B1 61 2 fv1 fs.length (flatF fs)) (h2 : w.ownsRow B2 62 2 fv2 fs.length (flatF fs)) (hl : fs.length ≤ 100000) :
    Calls Tryz.prog 6 #[fv1, fv2] w (Ret1 (.bool true) w) := by
  obtain ⟨sl1, k1, rfl, ha⟩ := own_atF h1
  obtain ⟨sl2, k2, rfl, hb⟩ := own_atF h2
  have HA := Lib.hid ha
  have HB := Lib.hid hb
  have HLn := Lib.hid hl
  clear h1 h2 ha hb hl
  obtain ⟨n, hn⟩ : ∃ n, n = fs.length := ⟨_, rfl⟩
  rw [← hn] at HA HB HLn ⊢
  clear hn
  have hnl := HLn.out
  go_enter Tryz.func6, Tryz.ntmps6
  go_wp2_with fail
  go_loopg [5] (n + 1) (fun gg iv wx => ∃ (i : Nat), i ≤ n ∧ gg = n + 1 - i ∧ iv = .int .i64 (i : Int) ∧ NoW w wx)
  case atStart => exact ⟨0, by omega, by omega, rfl, Fp.refl _ _⟩
  case round =>
    obtain ⟨i, hi, hg, rfl, hN⟩ := hrel
    have Hg := Lib.hid hg
    have HN := Lib.hid hN
    clear hg hN
    by_cases hlt : i < n
    · obtain ⟨b1, o1, hs, lb1, xc⟩ := (HA.out.low HN.out) i hlt
      subst hs
      obtain ⟨b2, o2, hs, lb2, yc⟩ := (HB.out.low HN.out) i hlt
      subst hs
      obtain ⟨u1, hu1⟩ : ∃ u, u = (fs.getD i (0, 0)).1 := ⟨_, rfl⟩
      obtain ⟨u2, hu2⟩ : ∃ u, u = (fs.getD i (0, 0)).2 := ⟨_, rfl⟩
      have x0 : wr.cell? ⟨b1, o1 + i * 2, none⟩ = some (.int .i64 u1) := xc 0 _ (by rw [hu1]; rfl)
      have x1 : wr.cell? ⟨b1, o1 + i * 2 + 1, none⟩ = some (.int .i64 u2) := xc 1 _ (by rw [hu2]; rfl)
      have y0 : wr.cell? ⟨b2, o2 + i * 2, none⟩ = some (.int .i64 u1) := yc 0 _ (by rw [hu1]; rfl)
      have y1 : wr.cell? ⟨b2, o2 + i * 2 + 1, none⟩ = some (.int .i64 u2) := yc 1 _ (by rw [hu2]; rfl)
      clear xc yc hu1 hu2
      have pk : decide ((i : Int) < (n : Int)) = true := decide_eq_true (by omega)
      have ck : (i : Int) < (n : Int) := by omega
      go_upto_region 6 with fail
      go_quiet (fail)
      generalize hW : World.drewN wr _ = kw1
      have hHeld : NoW wr kw1 := by rw [← hW]; exact (Fp.refl _ _).drewN _
      replace HN := hid_now HN hHeld
      clear hW hHeld x0 x1 y0 y1 lb1 lb2
      go_wp2_with fail
      go_roundg (n - i)
      case measure => have := Hg.out; omega
      case rel => exact ⟨i + 1, by omega, by omega, by go_num, HN.out⟩
    · obtain rfl : i = n := by omega
      have pk : decide ((i : Int) < (i : Int)) = false := decide_eq_false (by omega)
      go_wp2_with fail
      go_ret
      exact ⟨rfl, HN.out⟩
end Go.Proofs.YtcimbbllefkdlaaGreatDoor
