/- Texts of this proof, merged: Awj Bu Ta AuX. -/
import Derived.Test.YtcimbbllefkdlaaGreatDoorMag
import Derived.Test.YtcimbbllefkdlaaGreatDoorMaw
import Derived.Test.YtcimbbllefkdlaaGreatDoorMaa
import Derived.Test.YtcimbbllefkdlaaGreatDoorShelf
import Derived.Lib.Builder
import Derived.Lib.AppendStr
import Derived.Lib.UnsafeStr
import Derived.Laws.Externs
import Derived.IntWalk
import Derived.Laws.BitsAllLaws
import Derived.Test.YtcimbbllefkdlaaGreatDoorMab
import Derived.Test.YtcimbbllefkdlaaGreatDoorMac
import Derived.Test.YtcimbbllefkdlaaGreatDoorMad
import Derived.Test.YtcimbbllefkdlaaGreatDoorMae
import Derived.Test.YtcimbbllefkdlaaGreatDoorMaf
import Derived.Test.YtcimbbllefkdlaaGreatDoorMah
import Derived.Test.YtcimbbllefkdlaaGreatDoorMai
import Derived.Test.YtcimbbllefkdlaaGreatDoorMaj
import Derived.Test.YtcimbbllefkdlaaGreatDoorMak
import Derived.Test.YtcimbbllefkdlaaGreatDoorMal
import Derived.Test.YtcimbbllefkdlaaGreatDoorMam
import Derived.Test.YtcimbbllefkdlaaGreatDoorMan
import Derived.Test.YtcimbbllefkdlaaGreatDoorMao
import Derived.Test.YtcimbbllefkdlaaGreatDoorMap
import Derived.Test.YtcimbbllefkdlaaGreatDoorMaq
import Derived.Test.YtcimbbllefkdlaaGreatDoorMar
import Derived.Test.YtcimbbllefkdlaaGreatDoorMas
import Derived.Test.YtcimbbllefkdlaaGreatDoorMat
import Derived.Test.YtcimbbllefkdlaaGreatDoorMau
import Derived.Test.YtcimbbllefkdlaaGreatDoorMav
namespace Go.Proofs.YtcimbbllefkdlaaGreatDoor
set_option linter.unusedVariables false
set_option linter.unusedSimpArgs false
open Go.RowKit Go.Lib Go.Sort
def lst0Z : Value := .slice none 0 0
theorem lst0I : ∃ i, Tryz.prog.info? 55 = some i ∧ i.zero = some lst0Z ∧ i.size = 1 ∧ i.bytes ≤ 65536 := by
  have h : ((Tryz.prog.info? 55).map fun i => (i.zero, i.size, decide (i.bytes ≤ 65536))) = some (some lst0Z, 1, true) := by kernel_rfl
  rcases hi : Tryz.prog.info? 55 with _ | i
  · simp [hi] at h
  · simp [hi] at h
    exact ⟨i, rfl, h.1, h.2.1, h.2.2⟩
set_option maxHeartbeats 8000000 in
set_option maxRecDepth 100000 in
theorem take_new {w : World} {g tb sl ss bc bf bm ep pt p1 p2 : Nat} {wv : Value} {o ip : Nat} {bits : Int} {ns nb : Nat} (hns1 : 1 ≤ ns) (hns : ns ≤ 256) (hnb : nb ≤ 64) (h : BoxN w g tb sl ss bc bf bm ep pt p1 p2 wv o ip bits ns nb) : Calls Tryz.prog 12 #[.pointer (some ⟨g, 0, none⟩)] w fun e w' => ∃ (sa ca : Option Addr) (sc cc : Nat), e = .returned (.agg #[.int .i64 0, .slice sa ns sc, .slice ca nb cc, .slice none 0 0, .slice none 0 0, .int .i64 ns, .int .i64 0, .int .i64 0]) ∧ AtC w' sa ns 16 (fun _ => [.bool false, .bool false, .bool false, .int .u8 0, .int .u32 0, .int .u16 0, .int .u32 0, .int .u16 0, .int .u8 0, .int .u32 0, .int .u16 0, .int .u32 0, .int .u16 0, .int .i64 0, .int .i64 0, .slice none 0 0]) ∧ AtC w' ca nb 1 (fun _ => [.slice none 0 0]) ∧ NoW w w' := by
  have H := Lib.hid h
  clear h
  go_enter Tryz.func12, Tryz.ntmps12
  have HN := Lib.hid (Fp.refl (fun _ => False) w)
  go_upto_region 1 with fail
  refine wp_gen (fun z1 hW => ?_)
  have hp := new_now hW
  have hB := new_blk hW
  clear hW
  have hGe := hid_ge HN
  replace HN := hid_now HN hp
  obtain ⟨gR, hgR⟩ : ∃ gR, gR = w.heap.size := ⟨_, rfl⟩
  have G_gR := Lib.hid (Nat.le_trans hGe (Nat.le_of_eq hgR.symm))
  rw [← hgR] at hB ⊢
  have B_gR := hB
  clear hB hGe hgR
  clear hp
  go_wp2_with fail
  refine (now_new (H.out.low HN.out)).mono ?_
  rintro e z2 ⟨rfl, hp⟩
  replace HN := hid_now HN hp
  replace B_gR := hid_blk B_gR hp
  clear hp
  go_wp2_with fail
  refine (ports_new2 (H.out.low HN.out)).mono ?_
  rintro e z3 ⟨rfl, hp⟩
  replace HN := hid_now HN hp
  replace B_gR := hid_blk B_gR hp
  clear hp
  go_wp2_with fail
  refine (queue_new (H.out.low HN.out)).mono ?_
  rintro e z4 ⟨rfl, hp⟩
  replace HN := hid_now HN hp
  replace B_gR := hid_blk B_gR hp
  clear hp
  go_upto_region 2 with fail
  refine wp_gen (fun z5 hW => ?_)
  have l_gR := hid_lt B_gR
  have hp := new_now hW
  have hB := new_blk hW
  clear hW
  have hGe := hid_ge HN
  replace HN := hid_now HN hp
  replace B_gR := hid_blk B_gR hp
  obtain ⟨gW, hgW⟩ : ∃ gW, gW = z4.heap.size := ⟨_, rfl⟩
  rw [← hgW] at hB hGe l_gR ⊢
  have B_gW := hB
  have G_gW := Lib.hid hGe
  have n_gR_gW : ¬ gR = gW := by omega
  have n_gW_gR : ¬ gW = gR := by omega
  have HRW := Lib.hid l_gR
  clear hB hGe hgW hp l_gR
  go_wp2_with fail
  refine (size_new (H.out.low HN.out)).mono ?_
  rintro e z6 ⟨rfl, hp⟩
  replace HN := hid_now HN hp
  replace B_gR := hid_blk B_gR hp
  replace B_gW := hid_blk B_gW hp
  clear hp
  go_wp2_with fail
  obtain ⟨B, hB⟩ : ∃ B, B = z6.heap.size := ⟨_, rfl⟩
  have HB := Lib.hid hB
  have HBW := Lib.hid (show gW < B by rw [hB]; exact hid_lt B_gW)
  clear hB
  go_loopg [17, 4] (ns + 1) (fun gg kv iv wx => ∃ (k : Nat) (fv : Value), k ≤ ns ∧ gg = ns + 1 - k ∧ kv = .int .i64 (k : Int) ∧ wx.heap[gR]? = some (.cells #[.int .i64 0, .slice none 0 0, .slice none 0 0, .slice none 0 0, .slice none 0 0, .int .i64 0, .int .i64 0, .int .i64 0] 27 (0, 0)) ∧ wx.heap[gW]? = some (.cells #[.int .i64 0, fv, .slice none 0 0, .slice none 0 0, .slice none 0 0, .int .i64 0, .int .i64 0, .int .i64 0] 27 (0, 0)) ∧ LsAt B wx 54 16 k fv (fun _ => [.bool false, .bool false, .bool false, .int .u8 0, .int .u32 0, .int .u16 0, .int .u32 0, .int .u16 0, .int .u8 0, .int .u32 0, .int .u16 0, .int .u32 0, .int .u16 0, .int .i64 0, .int .i64 0, .slice none 0 0]) (fun _ => False) (fun _ => none) (fun _ => []) ∧ B ≤ wx.heap.size ∧ Fp (fun b => b = gW) z6 wx)
  case atStart => exact ⟨0, _, by omega, by omega, rfl, B_gR.out, B_gW.out, LsAt.nil _ _ _ _ _ _ _ _, Nat.le_of_eq HB.out, Fp.refl _ _⟩
  case round =>
    clear B_gR B_gW
    obtain ⟨k, fv, hk, hg, rfl, hbR, hbW, hla, hBs, hF⟩ := hrel
    have Hg := Lib.hid hg
    have B_gR := Lib.hid hbR
    have B_gW := Lib.hid hbW
    have HLA := Lib.hid hla
    have HBs := Lib.hid hBs
    have HNX := Lib.hid (HN.out.trans hF (fun i hi e => by have h1 : i = gW := e; have h2 := G_gW.out; omega))
    have HF := Lib.hid hF
    clear hg hbR hbW hla hBs hF
    by_cases hlt1 : k < ns
    · have ck1 : (k : Int) < (ns : Int) := by omega
      go_wp2_with fail
      refine (slot_new (H.out.low HNX.out) k hlt1).mono ?_
      rintro e y1 ⟨rfl, hp⟩
      replace B_gR := hid_blk B_gR hp
      replace B_gW := hid_blk B_gW hp
      replace HLA := Lib.hid (HLA.out.low hp)
      replace HBs := Lib.hid (Nat.le_trans HBs.out hp.size)
      replace HF := Lib.hid (HF.out.trans hp (fun _ _ h => h.elim))
      clear hp HNX
      go_upto_region 6 with (refine wpList_store_new (o := ⟨none, .store 54 _ _, _, _, _, _⟩) rfl _ _ _ rfl rfl _ #[.bool false, .bool false, .bool false, .int .u8 0, .int .u32 0, .int .u16 0, .int .u32 0, .int .u16 0, .int .u8 0, .int .u32 0, .int .u16 0, .int .u32 0, .int .u16 0, .int .i64 0, .int .i64 0, .slice none 0 0] (by kernel_rfl) (by kernel_rfl) (by kernel_rfl) (by kernel_rfl) (by kernel_rfl) ?_)
      refine wp_gen (fun y2 hW => ?_)
      have hp := new_now hW
      have B_X := new_blk hW
      clear hW
      replace B_gR := hid_blk B_gR hp
      replace B_gW := hid_blk B_gW hp
      replace HLA := Lib.hid (HLA.out.low hp)
      replace HBs := Lib.hid (Nat.le_trans HBs.out hp.size)
      replace HF := Lib.hid (HF.out.trans hp (fun _ _ h => h.elim))
      clear hp
      obtain ⟨gX, hgX⟩ : ∃ x, x = y1.heap.size := ⟨_, rfl⟩
      rw [← hgX] at B_X ⊢
      clear hgX
      have cW1 := cell_at B_gW 1 rfl
      have zW := froz_at B_gW
      have lW := hid_lt B_gW
      go_wp2_with (first | (refine wpList_load_row (o := ⟨some 28, _, _, _, _, _⟩) rfl _ _ rfl gX (by kernel_rfl) _ _ _ _ B_X.out Tryz.underlying54 rfl (by kernel_rfl) ?_) | (at_builtin; go_must (refine wp_append1 rfl _ _ 22 rfl B 54 sltZ 16 Tryz.underlying22 sltI rfl (by decide) fv k ((List.range k).flatMap fun _ => [.bool false, .bool false, .bool false, .int .u8 0, .int .u32 0, .int .u16 0, .int .u32 0, .int .u16 0, .int .u8 0, .int .u32 0, .int .u16 0, .int .u32 0, .int .u16 0, .int .i64 0, .int .i64 0, .slice none 0 0]) rfl (ownsRow_low HLA.out.row ((Fp.refl (fun _ => False) y2).alloc _)) y2.heap.size [.bool false, .bool false, .bool false, .int .u8 0, .int .u32 0, .int .u16 0, .int .u32 0, .int .u16 0, .int .u8 0, .int .u32 0, .int .u16 0, .int .u32 0, .int .u16 0, .int .i64 0, .int .i64 0, .slice none 0 0] rfl rfl (heap_alloc_new y2 _) (by decide) (by omega) (Nat.le_trans HBs.out (by simp)) ?_)))
      intro v' w' hown hgr hne hwh
      obtain ⟨gv, cv, rfl⟩ : ∃ gv cv, v' = .slice (some ⟨gv, 0, none⟩) (k + 1) cv := by rcases hown.2 with ⟨h, _⟩ | ⟨g, cap, cur, e, _⟩; (exact absurd h hne); exact ⟨g, cap, e⟩
      have hal : NoW y2 (y2.alloc (.cells #[.bool false, .bool false, .bool false, .int .u8 0, .int .u32 0, .int .u16 0, .int .u32 0, .int .u16 0, .int .u8 0, .int .u32 0, .int .u16 0, .int .u32 0, .int .u16 0, .int .i64 0, .int .i64 0, .slice none 0 0] 54)) := (Fp.refl _ _).alloc _
      have HLC := HLA.out.low hal
      have HLD := Lib.hid (HLC.push (el' := fun _ => [.bool false, .bool false, .bool false, .int .u8 0, .int .u32 0, .int .u16 0, .int .u32 0, .int .u16 0, .int .u8 0, .int .u32 0, .int .u16 0, .int .u32 0, .int .u16 0, .int .i64 0, .int .i64 0, .slice none 0 0]) (ad' := fun _ => none) (fun j hj => rfl) rfl (fun j hj => rfl) (fun h => h.elim) hown hgr (by first | exact hwh | (simp only [World.size_alloc]; exact hwh)))
      have hf := grown_fp hgr
      replace B_gR := hid_blkS (hid_blk B_gR hal) hf (HLC.ne (by have h1 := HBW.out; have h2 := HRW.out; omega))
      replace B_gW := hid_blkS (hid_blk B_gW hal) hf (HLC.ne HBW.out)
      have HF2 := Lib.hid ((HF.out.trans hal (fun _ _ h => h.elim)).trans hf (fun i hi e => absurd e (HLC.ne (by have h3 := HB.out; omega))))
      have HBs3 := Lib.hid (Nat.le_trans HBs.out (Nat.le_trans hal.size hf.size))
      clear hown hgr hne hwh hal HLC hf cW1 zW lW B_X
      have cW1 := cell_at B_gW 1 rfl
      have zW := froz_at B_gW
      have lW := hid_lt B_gW
      go_wp2_with fail
      clear cW1 zW lW
      have hB := set_blk (W := (w'.setCell ⟨gW, 1, none⟩ (.slice (some ⟨gv, 0, none⟩) (k + 1) cv))) rfl B_gW
      simp only [List.setIfInBounds_toArray, List.set_cons_zero, List.set_cons_succ] at hB
      have hfs := set_now (W := (w'.setCell ⟨gW, 1, none⟩ (.slice (some ⟨gv, 0, none⟩) (k + 1) cv))) rfl
      replace B_gR := hid_blkS B_gR hfs n_gR_gW
      have HLE := Lib.hid (HLD.out.fp hfs (fun b hb e => by have h1 : b = gW := e; have h2 := HBW.out; omega))
      have HF3 := Lib.hid (HF2.out.trans hfs (fun i hi e => e))
      have HBs4 := Lib.hid (Nat.le_trans HBs3.out hfs.size)
      clear hfs
      go_roundg (ns - k)
      case measure => have := Hg.out; omega
      case rel => exact ⟨k + 1, _, by omega, by omega, by go_num, B_gR.out, hB.out, HLE.out, HBs4.out, HF3.out⟩
    · obtain rfl : ns = k := by omega
      go_wp2_with fail
      refine (buckets_new (H.out.low HNX.out)).mono ?_
      rintro e y0 ⟨rfl, hp⟩
      replace B_gR := hid_blk B_gR hp
      replace B_gW := hid_blk B_gW hp
      replace HLA := Lib.hid (HLA.out.low hp)
      replace HNX := hid_now HNX hp
      clear hp HF HBs Hg hlt1
      go_wp2_with fail
      obtain ⟨B2, hB2⟩ : ∃ x, x = y0.heap.size := ⟨_, rfl⟩
      have HB2 := Lib.hid hB2
      have HBW2 := Lib.hid (show gW < B2 by rw [hB2]; exact hid_lt B_gW)
      clear hB2
      go_loopg [35, 7] (nb + 1) (fun gg kv iv wx => ∃ (j : Nat) (fc : Value), j ≤ nb ∧ gg = nb + 1 - j ∧ kv = .int .i64 (j : Int) ∧ wx.heap[gR]? = some (.cells #[.int .i64 0, .slice none 0 0, .slice none 0 0, .slice none 0 0, .slice none 0 0, .int .i64 0, .int .i64 0, .int .i64 0] 27 (0, 0)) ∧ wx.heap[gW]? = some (.cells #[.int .i64 0, fv, fc, .slice none 0 0, .slice none 0 0, .int .i64 0, .int .i64 0, .int .i64 0] 27 (0, 0)) ∧ LsAt B2 wx 55 1 j fc (fun _ => [.slice none 0 0]) (fun _ => False) (fun _ => none) (fun _ => []) ∧ B2 ≤ wx.heap.size ∧ Fp (fun b => b = gW) y0 wx)
      case atStart => exact ⟨0, _, by omega, by omega, rfl, B_gR.out, B_gW.out, LsAt.nil _ _ _ _ _ _ _ _, Nat.le_of_eq HB2.out, Fp.refl _ _⟩
      case round =>
        clear B_gR B_gW
        obtain ⟨j, fc, hj, hg, rfl, hbR, hbW, hlb, hBs, hF⟩ := hrel
        have Hg := Lib.hid hg
        have B_gR := Lib.hid hbR
        have B_gW := Lib.hid hbW
        have HLB := Lib.hid hlb
        have HBs := Lib.hid hBs
        have HNY := Lib.hid (HNX.out.trans hF (fun i hi e => by have h1 : i = gW := e; have h2 := G_gW.out; omega))
        have HF := Lib.hid hF
        clear hg hbR hbW hlb hBs hF
        by_cases hlt2 : j < nb
        · have ck2 : (j : Int) < (nb : Int) := by omega
          go_upto_region 11 with fail
          have HBd := HF
          refine wp_region_held_drew (S := fun wx => Fp (fun b => gW ≤ b) wr wx) (by kernel_rfl) (Fp.drew (Fp.refl _ _)) (fun hHeld0 => ?_)
          refine any_eq hHeld0 (fun p1 hW hHeld => ?_)
          clear hHeld0
          replace B_gR := hid_blk B_gR (noW_drew hW)
          replace B_gW := hid_blk B_gW (noW_drew hW)
          replace HLB := Lib.hid (HLB.out.low (noW_drew hW))
          replace HBd := Lib.hid (HBd.out.trans (noW_drew hW) (fun _ _ h => h.elim))
          clear hW
          (refine tk 0 (some 38) ?_ ?_ ?_; rotate_left; (focus (intro wS hSw; go_simp; try with_reducible rfl)); (try simp only [Act.put, List.setIfInBounds_toArray, List.set_cons_zero, List.set_cons_succ]))
          (refine tk 2 (some 40) ?_ ?_ ?_; rotate_left; (focus (intro wS hSw; go_simp; try with_reducible rfl)); (try simp only [Act.put, List.setIfInBounds_toArray, List.set_cons_zero, List.set_cons_succ]))
          (refine tk 3 (some 41) ?_ ?_ ?_; rotate_left; (focus (intro wS hSw; go_simp; try with_reducible rfl)); (try simp only [Act.put, List.setIfInBounds_toArray, List.set_cons_zero, List.set_cons_succ]))
          refine wpAnyH_ready (rs := [1, 4]) (by kernel_rfl) (by simp) ?_
          refine AllReadyH.cons rfl (fun K hK => ?_) (AllReadyH.cons rfl (fun K hK => ?_) AllReadyH.nil)
          · have cW2 := cell_at B_gW 2 rfl
            go_simp
            refine k_now hK hHeld ?_
            clear hK K cW2
            try simp only [Act.put, List.setIfInBounds_toArray, List.set_cons_zero, List.set_cons_succ]
            refine wpAnyH_ready (rs := [4]) (by kernel_rfl) (by simp) ?_
            refine AllReadyH.cons rfl (fun K hK => ?_) AllReadyH.nil
            go_simp
            go_at_call 36
            refine (show Calls _ _ _ _ _ from chain_new (H.out.low (HNY.out.trans hHeld (fun i hi e => by have h1 : gW ≤ i := e; have h2 := G_gW.out; omega))) j hlt2).mono ?_
            rintro e p3 ⟨rfl, hp⟩
            have hn := Fp.trans hHeld hp (fun _ _ h => h.elim)
            replace HLB := Lib.hid (HLB.out.low hp)
            replace HBd := Lib.hid (HBd.out.trans hp (fun _ _ h => h.elim))
            replace B_gR := hid_blk B_gR hp
            replace B_gW := hid_blk B_gW hp
            refine k_now hK hn ?_
            clear hK K hp hHeld
            have hHeld := hn
            clear hn
            try simp only [Act.put, List.setIfInBounds_toArray, List.set_cons_zero, List.set_cons_succ]
            refine wpAnyH_ready (rs := [5]) (by kernel_rfl) (by simp) ?_
            refine AllReadyH.cons rfl (fun K hK => ?_) AllReadyH.nil
            go_simp
            refine k_gen hK (fun p4 hW => ?_)
            have l2gR := hid_lt B_gR
            have l2gW := hid_lt B_gW
            have hp := new_now hW
            have hB := new_blk hW
            have hGe := Fp.size hHeld
            clear hW
            refine ⟨Fp.trans hHeld hp (fun _ _ h => h.elim), ?_⟩
            replace hHeld := Fp.trans hHeld hp (fun _ _ h => h.elim)
            clear hK K
            try simp only [Act.put, List.setIfInBounds_toArray, List.set_cons_zero, List.set_cons_succ]
            obtain ⟨gS, hgS⟩ : ∃ gS, gS = p3.heap.size := ⟨_, rfl⟩
            have R_gS := Lib.hid (Nat.le_trans hGe (Nat.le_of_eq hgS.symm))
            have n_gR_gS : ¬ gR = gS := by omega
            have n_gS_gR : ¬ gS = gR := by omega
            clear l2gR
            replace B_gR := hid_blk B_gR hp
            have n_gW_gS : ¬ gW = gS := by omega
            have n_gS_gW : ¬ gS = gW := by omega
            clear l2gW
            replace B_gW := hid_blk B_gW hp
            replace HLB := Lib.hid (HLB.out.low hp)
            replace HBd := Lib.hid (HBd.out.trans hp (fun _ _ h => h.elim))
            rw [← hgS] at hB ⊢
            have B_gS := hB
            clear hB hgS hp hGe
            refine wpAnyH_ready (rs := [6]) (by kernel_rfl) (by simp) ?_
            refine AllReadyH.cons rfl (fun K hK => ?_) AllReadyH.nil
            rw [if_pos (by kernel_rfl)]
            refine op_append1w _ _ 23 rfl B2 55 lst0Z 1 Tryz.underlying23 lst0I rfl (by decide) fc j _ rfl HLB.out.row gS [.slice none 0 0] rfl rfl B_gS.out (by simp [Value.oneCell']) (by omega) (Nat.le_trans HBs.out hHeld.size) ?_
            intro v2 p5 hown hgr hne hwh
            obtain ⟨gv, cv, rfl⟩ : ∃ gv cv, v2 = .slice (some ⟨gv, 0, none⟩) (j + 1) cv := by rcases hown.2 with ⟨h, _⟩ | ⟨g, cap, cur, e, _⟩; (exact absurd h hne); exact ⟨g, cap, e⟩
            have hf := grown_fp hgr
            have hn := Fp.trans hHeld hf (fun k hk e => by have h1 := (HLB.out.lt e).1; have h2 := HBW2.out; show gW ≤ k; omega)
            have HBd2 := Lib.hid (HBd.out.trans hf (fun k hk e => absurd e (HLB.out.ne (by have h3 := HB2.out; omega))))
            have hl1 := HBW2.out
            have hl2 := HRW.out
            replace B_gR := hid_blkS B_gR hf (HLB.out.ne (by omega))
            replace B_gW := hid_blkS B_gW hf (HLB.out.ne (by omega))
            replace HLB := Lib.hid (HLB.out.push (el' := fun _ => [.slice none 0 0]) (ad' := fun _ => none) (fun k hk => rfl) rfl (fun k hk => rfl) (fun h => h.elim) hown hgr hwh)
            refine k_now hK hn ?_
            clear hK K hHeld hf hown hgr hne hwh B_gS HBd hl1 hl2
            have HBd := HBd2
            clear HBd2
            have hHeld := hn
            clear hn
            try simp only [Act.put, List.setIfInBounds_toArray, List.set_cons_zero, List.set_cons_succ]
            (refine tk 7 (some 45) ?_ ?_ ?_; rotate_left; (focus (intro wS hSw; go_simp; try with_reducible rfl)); (try simp only [Act.put, List.setIfInBounds_toArray, List.set_cons_zero, List.set_cons_succ]))
            refine wpAnyH_ready (rs := [8]) (by kernel_rfl) (by simp) ?_
            refine AllReadyH.cons rfl (fun K hK => ?_) AllReadyH.nil
            have cW2 := cell_at B_gW 2 rfl
            have zW := froz_at B_gW
            have lW := hid_lt B_gW
            go_simp
            refine k_gen hK (fun p6 hW => ?_)
            have hB := set_blk hW B_gW
            have hf := set_now hW
            clear hW zW lW cW2
            simp only [List.setIfInBounds_toArray, List.set_cons_zero, List.set_cons_succ] at hB
            have hn := Fp.trans hHeld hf (fun k hk e => by have h1 : k = gW := e; show gW ≤ k; omega)
            refine ⟨hn, ?_⟩
            clear hK K hHeld
            have hHeld := hn
            clear hn
            try simp only [Act.put, List.setIfInBounds_toArray, List.set_cons_zero, List.set_cons_succ]
            replace B_gR := hid_blkS B_gR hf n_gR_gW
            replace B_gW := hB
            replace HLB := Lib.hid (HLB.out.fp hf (fun b hb e => by have h1 : b = gW := e; have h2 := HBW2.out; omega))
            replace HBd := Lib.hid (HBd.out.trans hf (fun _ _ e => e))
            clear hB hf
            refine wpAnyH_done (by kernel_rfl) ?_ _
            have hBs4 := Nat.le_trans HBs.out hHeld.size
            clear hHeld
            go_wp2_with fail
            go_roundg (nb - j)
            case measure => have := Hg.out; omega
            case rel => exact ⟨j + 1, _, by omega, by omega, by go_num, B_gR.out, B_gW.out, HLB.out, hBs4, HBd.out⟩
          · go_simp
            go_at_call 36
            refine (show Calls _ _ _ _ _ from chain_new (H.out.low (HNY.out.trans hHeld (fun i hi e => by have h1 : gW ≤ i := e; have h2 := G_gW.out; omega))) j hlt2).mono ?_
            rintro e p7 ⟨rfl, hp⟩
            have hn := Fp.trans hHeld hp (fun _ _ h => h.elim)
            replace HLB := Lib.hid (HLB.out.low hp)
            replace HBd := Lib.hid (HBd.out.trans hp (fun _ _ h => h.elim))
            replace B_gR := hid_blk B_gR hp
            replace B_gW := hid_blk B_gW hp
            refine k_now hK hn ?_
            clear hK K hp hHeld
            have hHeld := hn
            clear hn
            try simp only [Act.put, List.setIfInBounds_toArray, List.set_cons_zero, List.set_cons_succ]
            refine wpAnyH_ready (rs := [1, 5]) (by kernel_rfl) (by simp) ?_
            refine AllReadyH.cons rfl (fun K hK => ?_) (AllReadyH.cons rfl (fun K hK => ?_) AllReadyH.nil)
            · have cW2 := cell_at B_gW 2 rfl
              go_simp
              refine k_now hK hHeld ?_
              clear hK K cW2
              try simp only [Act.put, List.setIfInBounds_toArray, List.set_cons_zero, List.set_cons_succ]
              refine wpAnyH_ready (rs := [5]) (by kernel_rfl) (by simp) ?_
              refine AllReadyH.cons rfl (fun K hK => ?_) AllReadyH.nil
              go_simp
              refine k_gen hK (fun p9 hW => ?_)
              have l2gR := hid_lt B_gR
              have l2gW := hid_lt B_gW
              have hp := new_now hW
              have hB := new_blk hW
              have hGe := Fp.size hHeld
              clear hW
              refine ⟨Fp.trans hHeld hp (fun _ _ h => h.elim), ?_⟩
              replace hHeld := Fp.trans hHeld hp (fun _ _ h => h.elim)
              clear hK K
              try simp only [Act.put, List.setIfInBounds_toArray, List.set_cons_zero, List.set_cons_succ]
              obtain ⟨gS, hgS⟩ : ∃ gS, gS = p7.heap.size := ⟨_, rfl⟩
              have R_gS := Lib.hid (Nat.le_trans hGe (Nat.le_of_eq hgS.symm))
              have n_gR_gS : ¬ gR = gS := by omega
              have n_gS_gR : ¬ gS = gR := by omega
              clear l2gR
              replace B_gR := hid_blk B_gR hp
              have n_gW_gS : ¬ gW = gS := by omega
              have n_gS_gW : ¬ gS = gW := by omega
              clear l2gW
              replace B_gW := hid_blk B_gW hp
              replace HLB := Lib.hid (HLB.out.low hp)
              replace HBd := Lib.hid (HBd.out.trans hp (fun _ _ h => h.elim))
              rw [← hgS] at hB ⊢
              have B_gS := hB
              clear hB hgS hp hGe
              refine wpAnyH_ready (rs := [6]) (by kernel_rfl) (by simp) ?_
              refine AllReadyH.cons rfl (fun K hK => ?_) AllReadyH.nil
              rw [if_pos (by kernel_rfl)]
              refine op_append1w _ _ 23 rfl B2 55 lst0Z 1 Tryz.underlying23 lst0I rfl (by decide) fc j _ rfl HLB.out.row gS [.slice none 0 0] rfl rfl B_gS.out (by simp [Value.oneCell']) (by omega) (Nat.le_trans HBs.out hHeld.size) ?_
              intro v2 p10 hown hgr hne hwh
              obtain ⟨gv, cv, rfl⟩ : ∃ gv cv, v2 = .slice (some ⟨gv, 0, none⟩) (j + 1) cv := by rcases hown.2 with ⟨h, _⟩ | ⟨g, cap, cur, e, _⟩; (exact absurd h hne); exact ⟨g, cap, e⟩
              have hf := grown_fp hgr
              have hn := Fp.trans hHeld hf (fun k hk e => by have h1 := (HLB.out.lt e).1; have h2 := HBW2.out; show gW ≤ k; omega)
              have HBd2 := Lib.hid (HBd.out.trans hf (fun k hk e => absurd e (HLB.out.ne (by have h3 := HB2.out; omega))))
              have hl1 := HBW2.out
              have hl2 := HRW.out
              replace B_gR := hid_blkS B_gR hf (HLB.out.ne (by omega))
              replace B_gW := hid_blkS B_gW hf (HLB.out.ne (by omega))
              replace HLB := Lib.hid (HLB.out.push (el' := fun _ => [.slice none 0 0]) (ad' := fun _ => none) (fun k hk => rfl) rfl (fun k hk => rfl) (fun h => h.elim) hown hgr hwh)
              refine k_now hK hn ?_
              clear hK K hHeld hf hown hgr hne hwh B_gS HBd hl1 hl2
              have HBd := HBd2
              clear HBd2
              have hHeld := hn
              clear hn
              try simp only [Act.put, List.setIfInBounds_toArray, List.set_cons_zero, List.set_cons_succ]
              (refine tk 7 (some 45) ?_ ?_ ?_; rotate_left; (focus (intro wS hSw; go_simp; try with_reducible rfl)); (try simp only [Act.put, List.setIfInBounds_toArray, List.set_cons_zero, List.set_cons_succ]))
              refine wpAnyH_ready (rs := [8]) (by kernel_rfl) (by simp) ?_
              refine AllReadyH.cons rfl (fun K hK => ?_) AllReadyH.nil
              have cW2 := cell_at B_gW 2 rfl
              have zW := froz_at B_gW
              have lW := hid_lt B_gW
              go_simp
              refine k_gen hK (fun p11 hW => ?_)
              have hB := set_blk hW B_gW
              have hf := set_now hW
              clear hW zW lW cW2
              simp only [List.setIfInBounds_toArray, List.set_cons_zero, List.set_cons_succ] at hB
              have hn := Fp.trans hHeld hf (fun k hk e => by have h1 : k = gW := e; show gW ≤ k; omega)
              refine ⟨hn, ?_⟩
              clear hK K hHeld
              have hHeld := hn
              clear hn
              try simp only [Act.put, List.setIfInBounds_toArray, List.set_cons_zero, List.set_cons_succ]
              replace B_gR := hid_blkS B_gR hf n_gR_gW
              replace B_gW := hB
              replace HLB := Lib.hid (HLB.out.fp hf (fun b hb e => by have h1 : b = gW := e; have h2 := HBW2.out; omega))
              replace HBd := Lib.hid (HBd.out.trans hf (fun _ _ e => e))
              clear hB hf
              refine wpAnyH_done (by kernel_rfl) ?_ _
              have hBs4 := Nat.le_trans HBs.out hHeld.size
              clear hHeld
              go_wp2_with fail
              go_roundg (nb - j)
              case measure => have := Hg.out; omega
              case rel => exact ⟨j + 1, _, by omega, by omega, by go_num, B_gR.out, B_gW.out, HLB.out, hBs4, HBd.out⟩
            · go_simp
              refine k_gen hK (fun p12 hW => ?_)
              have l2gR := hid_lt B_gR
              have l2gW := hid_lt B_gW
              have hp := new_now hW
              have hB := new_blk hW
              have hGe := Fp.size hHeld
              clear hW
              refine ⟨Fp.trans hHeld hp (fun _ _ h => h.elim), ?_⟩
              replace hHeld := Fp.trans hHeld hp (fun _ _ h => h.elim)
              clear hK K
              try simp only [Act.put, List.setIfInBounds_toArray, List.set_cons_zero, List.set_cons_succ]
              obtain ⟨gS, hgS⟩ : ∃ gS, gS = p7.heap.size := ⟨_, rfl⟩
              have R_gS := Lib.hid (Nat.le_trans hGe (Nat.le_of_eq hgS.symm))
              have n_gR_gS : ¬ gR = gS := by omega
              have n_gS_gR : ¬ gS = gR := by omega
              clear l2gR
              replace B_gR := hid_blk B_gR hp
              have n_gW_gS : ¬ gW = gS := by omega
              have n_gS_gW : ¬ gS = gW := by omega
              clear l2gW
              replace B_gW := hid_blk B_gW hp
              replace HLB := Lib.hid (HLB.out.low hp)
              replace HBd := Lib.hid (HBd.out.trans hp (fun _ _ h => h.elim))
              rw [← hgS] at hB ⊢
              have B_gS := hB
              clear hB hgS hp hGe
              refine wpAnyH_ready (rs := [1]) (by kernel_rfl) (by simp) ?_
              refine AllReadyH.cons rfl (fun K hK => ?_) AllReadyH.nil
              have cW2 := cell_at B_gW 2 rfl
              go_simp
              refine k_now hK hHeld ?_
              clear hK K cW2
              try simp only [Act.put, List.setIfInBounds_toArray, List.set_cons_zero, List.set_cons_succ]
              refine wpAnyH_ready (rs := [6]) (by kernel_rfl) (by simp) ?_
              refine AllReadyH.cons rfl (fun K hK => ?_) AllReadyH.nil
              rw [if_pos (by kernel_rfl)]
              refine op_append1w _ _ 23 rfl B2 55 lst0Z 1 Tryz.underlying23 lst0I rfl (by decide) fc j _ rfl HLB.out.row gS [.slice none 0 0] rfl rfl B_gS.out (by simp [Value.oneCell']) (by omega) (Nat.le_trans HBs.out hHeld.size) ?_
              intro v2 p14 hown hgr hne hwh
              obtain ⟨gv, cv, rfl⟩ : ∃ gv cv, v2 = .slice (some ⟨gv, 0, none⟩) (j + 1) cv := by rcases hown.2 with ⟨h, _⟩ | ⟨g, cap, cur, e, _⟩; (exact absurd h hne); exact ⟨g, cap, e⟩
              have hf := grown_fp hgr
              have hn := Fp.trans hHeld hf (fun k hk e => by have h1 := (HLB.out.lt e).1; have h2 := HBW2.out; show gW ≤ k; omega)
              have HBd2 := Lib.hid (HBd.out.trans hf (fun k hk e => absurd e (HLB.out.ne (by have h3 := HB2.out; omega))))
              have hl1 := HBW2.out
              have hl2 := HRW.out
              replace B_gR := hid_blkS B_gR hf (HLB.out.ne (by omega))
              replace B_gW := hid_blkS B_gW hf (HLB.out.ne (by omega))
              replace HLB := Lib.hid (HLB.out.push (el' := fun _ => [.slice none 0 0]) (ad' := fun _ => none) (fun k hk => rfl) rfl (fun k hk => rfl) (fun h => h.elim) hown hgr hwh)
              refine k_now hK hn ?_
              clear hK K hHeld hf hown hgr hne hwh B_gS HBd hl1 hl2
              have HBd := HBd2
              clear HBd2
              have hHeld := hn
              clear hn
              try simp only [Act.put, List.setIfInBounds_toArray, List.set_cons_zero, List.set_cons_succ]
              (refine tk 7 (some 45) ?_ ?_ ?_; rotate_left; (focus (intro wS hSw; go_simp; try with_reducible rfl)); (try simp only [Act.put, List.setIfInBounds_toArray, List.set_cons_zero, List.set_cons_succ]))
              refine wpAnyH_ready (rs := [8]) (by kernel_rfl) (by simp) ?_
              refine AllReadyH.cons rfl (fun K hK => ?_) AllReadyH.nil
              have cW2 := cell_at B_gW 2 rfl
              have zW := froz_at B_gW
              have lW := hid_lt B_gW
              go_simp
              refine k_gen hK (fun p15 hW => ?_)
              have hB := set_blk hW B_gW
              have hf := set_now hW
              clear hW zW lW cW2
              simp only [List.setIfInBounds_toArray, List.set_cons_zero, List.set_cons_succ] at hB
              have hn := Fp.trans hHeld hf (fun k hk e => by have h1 : k = gW := e; show gW ≤ k; omega)
              refine ⟨hn, ?_⟩
              clear hK K hHeld
              have hHeld := hn
              clear hn
              try simp only [Act.put, List.setIfInBounds_toArray, List.set_cons_zero, List.set_cons_succ]
              replace B_gR := hid_blkS B_gR hf n_gR_gW
              replace B_gW := hB
              replace HLB := Lib.hid (HLB.out.fp hf (fun b hb e => by have h1 : b = gW := e; have h2 := HBW2.out; omega))
              replace HBd := Lib.hid (HBd.out.trans hf (fun _ _ e => e))
              clear hB hf
              refine wpAnyH_done (by kernel_rfl) ?_ _
              have hBs4 := Nat.le_trans HBs.out hHeld.size
              clear hHeld
              go_wp2_with fail
              go_roundg (nb - j)
              case measure => have := Hg.out; omega
              case rel => exact ⟨j + 1, _, by omega, by omega, by go_num, B_gR.out, B_gW.out, HLB.out, hBs4, HBd.out⟩
        · obtain rfl : nb = j := by omega
          have HLA2 := Lib.hid (HLA.out.fp HF.out (fun b hb e => by have h1 : b = gW := e; have h2 := HBW.out; omega))
          go_wp2_with fail
          refine (count_new hns1 (H.out.low HNY.out)).mono ?_
          rintro e y5 ⟨rfl, hp⟩
          replace B_gR := hid_blk B_gR hp
          replace B_gW := hid_blk B_gW hp
          replace HLA2 := Lib.hid (HLA2.out.low hp)
          replace HLB := Lib.hid (HLB.out.low hp)
          replace HNY := hid_now HNY hp
          clear hp HF HBs Hg HLA
          obtain ⟨sa, sc, rfl, _, _⟩ := HLA2.out.at' (fun i => rfl)
          obtain ⟨ca, cc, rfl, _, _⟩ := HLB.out.at' (fun i => rfl)
          have cW5 := cell_at B_gW 5 rfl
          have cW6 := cell_at B_gW 6 rfl
          have cW7 := cell_at B_gW 7 rfl
          have zW := froz_at B_gW
          have lW := hid_lt B_gW
          go_upto_region 14 with fail
          clear cW5 cW6 cW7 zW lW
          refine wp_gen (fun y6 hW => ?_)
          obtain ⟨u1, hu1⟩ : ∃ u, u = y5.setCell ⟨gW, 5, none⟩ (.int .i64 ns) := ⟨_, rfl⟩
          obtain ⟨u2, hu2⟩ : ∃ u, u = u1.setCell ⟨gW, 6, none⟩ (.int .i64 0) := ⟨_, rfl⟩
          rw [← hu1, ← hu2] at hW
          have hB := set_blk hW (set_blk hu2 (set_blk hu1 B_gW))
          simp only [List.setIfInBounds_toArray, List.set_cons_zero, List.set_cons_succ] at hB
          have hfs := ((set_now hu1).trans (set_now hu2) (fun _ _ e => e)).trans (set_now hW) (fun _ _ e => e)
          clear hW hu1 hu2
          replace B_gR := hid_blkS B_gR hfs n_gR_gW
          replace B_gW := hB
          replace HLA2 := Lib.hid (HLA2.out.fp hfs (fun b hb e => by have h1 : b = gW := e; have h2 := HBW.out; omega))
          replace HLB := Lib.hid (HLB.out.fp hfs (fun b hb e => by have h1 : b = gW := e; have h2 := HBW2.out; omega))
          replace HNY := Lib.hid (HNY.out.trans hfs (fun i hi e => by have h1 : i = gW := e; have h2 := G_gW.out; omega))
          clear hB hfs
          have cW0 := cell_at B_gW 0 rfl
          have cW1 := cell_at B_gW 1 rfl
          have cW2 := cell_at B_gW 2 rfl
          have cW3 := cell_at B_gW 3 rfl
          have cW4 := cell_at B_gW 4 rfl
          have cW5 := cell_at B_gW 5 rfl
          have cW6 := cell_at B_gW 6 rfl
          have cW7 := cell_at B_gW 7 rfl
          have cR0 := cell_at B_gR 0 rfl
          have cR1 := cell_at B_gR 1 rfl
          have cR2 := cell_at B_gR 2 rfl
          have cR3 := cell_at B_gR 3 rfl
          have cR4 := cell_at B_gR 4 rfl
          have cR5 := cell_at B_gR 5 rfl
          have cR6 := cell_at B_gR 6 rfl
          have cR7 := cell_at B_gR 7 rfl
          have zR := froz_at B_gR
          have lW := hid_lt B_gW
          have lR := hid_lt B_gR
          go_wp2_with fail
          refine post_gen (fun W hW => ?_)
          obtain ⟨hB, hf⟩ := setE8 hW B_gR
          clear hW cR0 cW0 cR1 cW1 cR2 cW2 cR3 cW3 cR4 cW4 cR5 cW5 cR6 cW6 cR7 cW7 zR lW lR
          have cR0 := cell_at hB 0 rfl
          have cR1 := cell_at hB 1 rfl
          have cR2 := cell_at hB 2 rfl
          have cR3 := cell_at hB 3 rfl
          have cR4 := cell_at hB 4 rfl
          have cR5 := cell_at hB 5 rfl
          have cR6 := cell_at hB 6 rfl
          have cR7 := cell_at hB 7 rfl
          refine bodyPost_ret (v := .agg #[.int .i64 0, .slice sa ns sc, .slice ca nb cc, .slice none 0 0, .slice none 0 0, .int .i64 ns, .int .i64 0, .int .i64 0]) (by simp only [results, Tryz.results12]; go_simp) rfl ⟨sa, ca, sc, cc, rfl, ?_, ?_, ?_⟩
          · exact (HLA2.out.fp hf (fun b hb e => by have h1 : b = gR := e; have h2 := HBW.out; have h3 := HRW.out; omega)).at2 (fun i => rfl)
          · exact (HLB.out.fp hf (fun b hb e => by have h1 : b = gR := e; have h2 := HBW2.out; have h3 := HRW.out; omega)).at2 (fun i => rfl)
          · exact HNY.out.trans hf (fun i hi e => by have h1 : i = gR := e; have h2 := G_gR.out; omega)
end Go.Proofs.YtcimbbllefkdlaaGreatDoor

namespace Go.Proofs.YtcimbbllefkdlaaGreatDoor
set_option linter.unusedVariables false
set_option linter.unusedSimpArgs false
open Go.RowKit Go.Lib Go.Sort

theorem bu_size : (Tryz.prog.info? 245).map (·.size) = some 2 := by kernel_rfl
theorem bu_lies : liesAt Tryz.prog Tryz.prog.depth 245 (2 / Tryz.prog.cellsOf 245) 0 245 1 = true := by kernel_rfl
set_option maxHeartbeats 1000000 in
set_option maxRecDepth 100000 in
theorem bu_check_used (b : Nat) (w : World) (h0 : w.cell? ⟨b, 0, none⟩ = some (.pointer (some ⟨b, 0, none⟩))) :
    Calls Tryz.prog 131 #[.pointer (some ⟨b, 0, none⟩)] w fun e w' => e = .returned (.tuple #[]) ∧ w' = w := by
  obtain ⟨j, hj, _⟩ := Option.map_eq_some_iff.1 bu_size
  have e0 : ∀ W, (binOp .neq 243 (.pointer (some ⟨b, 0, none⟩)) (.pointer (some ⟨b, 0, none⟩))).run Tryz.prog W = .ok (.bool false) W := fun W => Lib.run_neq_ptr_same W _ Tryz.underlying243 hj
  go_enter Tryz.func131, Tryz.ntmps131
  go_wp2_with fail
  go_end0
  exact ⟨rfl, rfl⟩
set_option maxHeartbeats 1000000 in
set_option maxRecDepth 100000 in
theorem bu_check_fresh (b : Nat) (w : World) (h0 : w.cell? ⟨b, 0, none⟩ = some (.pointer none)) (hsh : w.shape? b = some (245, 2)) (hfz : w.frozen? ⟨b, 0, none⟩ = false) :
    Calls Tryz.prog 131 #[.pointer (some ⟨b, 0, none⟩)] w fun e w' => e = .returned (.tuple #[]) ∧ w' = w.setCell ⟨b, 0, none⟩ (.pointer (some ⟨b, 0, none⟩)) := by
  obtain ⟨j, hj, hjs⟩ := Option.map_eq_some_iff.1 bu_size
  have e1 := Lib.run_to_unsafe w ⟨b, 0, none⟩ Tryz.underlying243 Tryz.underlying254 hj (by rw [hjs]; decide) hsh (Nat.zero_lt_succ 1)
  have e2 := Lib.run_from_unsafe w ⟨b, 0, none⟩ Tryz.underlying254 Tryz.underlying243 hj hsh bu_lies
  go_enter Tryz.func131, Tryz.ntmps131
  go_wp2_with fail
  rw [run_callFunc_extern Tryz.func132 (by kernel_rfl) (by kernel_rfl) (by kernel_rfl) (e := Extern.AbiNoEscape.same) (by kernel_rfl)]
  rw [Lib.run_noEscape]
  simp only [Result.andThen]
  rw [Oper.upon_value]
  go_wp2_with fail
  go_end0
  exact ⟨rfl, rfl⟩
theorem bu_check (B b : Nat) (bs : List Value) (w : World) (h : Lib.IsBuilder 245 5 B b bs w) :
    Calls Tryz.prog 131 #[.pointer (some ⟨b, 0, none⟩)] w fun e w' => e = .returned (.tuple #[]) ∧ (Lib.BuilderAt 245 5 B b (.pointer (some ⟨b, 0, none⟩)) bs w' ∧ Below B w w') := by
  rcases h with h | h
  · refine (bu_check_fresh b w h.cell0 h.shape h.frozen0).mono ?_
    rintro e w' ⟨rfl, rfl⟩
    exact ⟨rfl, h.used _, (Below.refl B w).setCell (p := ⟨b, 0, none⟩) h.1 _⟩
  · refine (bu_check_used b w h.cell0).mono ?_
    rintro e w' ⟨rfl, rfl⟩
    exact ⟨rfl, h, Below.refl B _⟩
theorem bu_info : ∃ i, Tryz.prog.info? 5 = some i ∧ i.zero = some (.int .u8 0) ∧ i.size = 1 ∧ i.bytes = 1 := by
  have h : (Tryz.prog.info? 5).map (fun i => (i.zero, i.size, i.bytes)) = some (some (.int .u8 0), 1, 1) := by kernel_rfl
  exact info_parts h
set_option maxHeartbeats 2000000 in
set_option maxRecDepth 100000 in
theorem bu_byte (B b : Nat) (bs : List Value) (c : Int) (w : World) (h : Lib.IsBuilder 245 5 B b bs w) (hlen : bs.length + 1 ≤ 140737488355328) (hBw : B ≤ w.heap.size) :
    Calls Tryz.prog 128 #[.pointer (some ⟨b, 0, none⟩), .int .u8 c] w fun e w' => e = .returned .nilIface ∧ (Lib.BuilderAt 245 5 B b (.pointer (some ⟨b, 0, none⟩)) (bs ++ [.int .u8 c]) w' ∧ Below B w w') := by
  obtain ⟨i0, hi, hz0, hz1, hz2⟩ := bu_info
  go_enter Tryz.func128, Tryz.ntmps128
  go_wp2_with fail
  refine (bu_check B b bs _ h).mono ?_
  rintro e w1 ⟨rfl, h1, hb1⟩
  obtain ⟨hB, v, hbk, hown, hne⟩ := h1
  have c0 : w1.cell? ⟨b, 0, none⟩ = some (.pointer (some ⟨b, 0, none⟩)) := by simp [World.cell?, hbk]
  have c1 : w1.cell? ⟨b, 1, none⟩ = some v := by simp [World.cell?, hbk]
  go_wp2_with (at_builtin; refine wpList_append_own _ rfl _ _ 201 rfl B 5 i0 (.int .u8 0) 1 1 Tryz.underlying201 hi hz0 hz1 hz2 rfl (by decide) _ _ _ rfl (hown.alloc _) ⟨w1.heap.size, 0, none⟩ 1 1 [.int .u8 c] rfl rfl ?c1 ?c2 ?c3 ?c4 ?c5 ?_)
  case c1 =>
    intro j u hj
    match j, hj with
    | 0, hj => simp at hj; subst hj; simp [Addr.add]
  case c2 => intro u hu; simp at hu; subst hu; rfl
  case c3 => unfold maxLen; omega
  case c4 => omega
  case c5 => have := hb1.size; simp; omega
  intro v' w2 hown' hgrow _
  have hlt : b < w1.heap.size := (Array.getElem?_eq_some_iff.1 hbk).1
  have hb2 : w2.heap[b]? = some (.cells #[.pointer (some ⟨b, 0, none⟩), v] 245 (0, 0)) := by
    rw [hgrow.block b (by simp; omega) (fun e => hne e.symm), Lib.alloc_old w1 _ b hlt]
    exact hbk
  have d0 : w2.cell? ⟨b, 0, none⟩ = some (.pointer (some ⟨b, 0, none⟩)) := by simp [World.cell?, hb2]
  have d1 : w2.cell? ⟨b, 1, none⟩ = some v := by simp [World.cell?, hb2]
  have f1 : w2.frozen? ⟨b, 1, none⟩ = false := by simp [World.frozen?, hb2]
  obtain ⟨g, cap, rfl⟩ : ∃ g cap, v' = .slice (some ⟨g, 0, none⟩) (bs.length + 1) cap := by
    rcases hown'.2 with ⟨_, h0⟩ | ⟨g, cap, cur, hv, _⟩
    · omega
    · exact ⟨g, cap, hv⟩
  go_wp2_with fail
  go_ret
  refine ⟨rfl, ?_, ?_⟩
  · exact Lib.BuilderAt.put (T := 245) (e := 5) hB hb2 (bs' := bs ++ [.int .u8 c]) (by simpa using hown') (by decide)
  · exact ((hb1.alloc (by have := hb1.size; omega) _).grown hgrow (by have := hb1.size; simp; omega) (fun k hk => (hown.lt k hk).1)).setCell (p := ⟨b, 1, none⟩) hB _
end Go.Proofs.YtcimbbllefkdlaaGreatDoor

namespace Go.Proofs.YtcimbbllefkdlaaGreatDoor
set_option linter.unusedVariables false
set_option linter.unusedSimpArgs false

/-- The byte at a place (0: there is none). -/
def byt (l : List UInt8) (i : Nat) : Nat := (l[i]?.getD 0).toNat
def g16 (l : List UInt8) (i : Nat) : Nat := if i + 2 ≤ l.length then byt l i * 256 + byt l (i + 1) else 0
def addC (a b : Nat) : Nat := if 65535 < a + b then a + b - 65535 else a + b
def sumW : Nat → List UInt8 → Nat
  | s, a :: b :: t => sumW (addC s (a.toNat * 256 + b.toNat)) t
  | s, [a] => addC s (a.toNat * 256)
  | s, [] => s
def sumL : Nat → List (List UInt8) → Nat
  | s, [] => s
  | s, l :: t => sumL (sumW s l) t
def csum (ls : List (List UInt8)) : Nat := 65535 - sumL 0 ls
def b16 (n : Nat) : List UInt8 := [UInt8.ofNat (n / 256), UInt8.ofNat (n % 256)]
def b32 (n : Nat) : List UInt8 := b16 (n / 65536) ++ b16 (n % 65536)

def ipOwn (l : List UInt8) : Nat := byt l 0 % 16 * 4
/-- What is seen of a packet: kind, flags, ports, whether it asks. -/
structure Sn where
  proto : Nat
  src : Nat
  sp : Nat
  dst : Nat
  dp : Nat
  kind : Nat
  flags : Nat
  ask : Bool
  ttl : Nat
deriving DecidableEq

end Go.Proofs.YtcimbbllefkdlaaGreatDoor
namespace Go.Proofs.YtcimbbllefkdlaaGreatDoor
set_option linter.unusedVariables false
set_option linter.unusedSimpArgs false

structure IpOk (l : List UInt8) : Prop where
  len : 20 ≤ l.length
  ver : byt l 0 / 16 = 4
  own : 20 ≤ ipOwn l
  all : ipOwn l ≤ g16 l 2
  has : g16 l 2 ≤ l.length
  most : g16 l 2 ≤ 2048
  sum : csum [l.take (ipOwn l)] = 0
  pieces : g16 l 6 = 0 ∨ g16 l 6 = 16384

end Go.Proofs.YtcimbbllefkdlaaGreatDoor
namespace Go.Proofs.YtcimbbllefkdlaaGreatDoor
set_option linter.unusedVariables false
set_option linter.unusedSimpArgs false

theorem b16_len (n : Nat) : (b16 n).length = 2 := rfl
theorem ofNat_toNat {n : Nat} (h : n < 256) : (UInt8.ofNat n).toNat = n := by rw [UInt8.toNat_ofNat']; omega
end Go.Proofs.YtcimbbllefkdlaaGreatDoor

namespace Go.Proofs.YtcimbbllefkdlaaGreatDoor
set_option linter.unusedVariables false
set_option linter.unusedSimpArgs false
open Go.RowKit Go.Lib Go.Sort
theorem r12_add (a b : Nat) (ha : a < 4294967296) (hb : b < 4294967296) (w : World) : Calls Tryz.prog 76 #[.int .u64 a, .int .u64 b] w fun e w' => e = .returned (.int .u64 ((a + b) % 4294967296 : Nat)) ∧ w' = w := by
  have s1 : IntKind.u64.wrap ((a : Int) + (b : Int)) = ((a + b : Nat) : Int) := by rw [IntWalk.u64_in _ (by omega)]; omega
  have s2 : ((a + b : Nat) : Int).tmod 4294967296 = (((a + b) % 4294967296 : Nat) : Int) := by rw [Int.tmod_eq_emod_of_nonneg (by omega)]; omega
  have s3 : (a : Int) + (b : Int) = ((a + b : Nat) : Int) := by omega
  have s4 : ((a + b : Nat) : Int) % 4294967296 = (((a + b) % 4294967296 : Nat) : Int) := by omega
  obtain ⟨z, hz⟩ : ∃ z, z = (a + b) % 4294967296 := ⟨_, rfl⟩
  obtain ⟨y, hy⟩ : ∃ y, y = a + b := ⟨_, rfl⟩
  rw [← hz] at s2 s4 ⊢
  rw [← hy] at s1 s2 s3 s4
  have hyl : y < 8589934592 := by omega
  have hzl : z < 4294967296 := by omega
  have s5 : IntKind.u64.wrap (z : Int) = (z : Int) := IntWalk.u64_in _ (by omega)
  have s6 : IntKind.u64.wrap (y : Int) = (y : Int) := IntWalk.u64_in _ (by omega)
  clear hy hz
  go_enter Tryz.func76, Tryz.ntmps76
  go_wp2_with fail
  go_ret
  exact ⟨rfl, rfl⟩
def shl (n : Nat) : Nat → Nat
  | 0 => n
  | k + 1 => 2 * shl n k % 4294967296
theorem shl_lt {n : Nat} (h : n < 4294967296) : ∀ k, shl n k < 4294967296
  | 0 => h
  | k + 1 => Nat.mod_lt _ (by omega)
theorem shl_eq {n : Nat} (h : n < 4294967296) : ∀ k, shl n k = n * 2 ^ k % 4294967296
  | 0 => by simp [shl, Nat.mod_eq_of_lt h]
  | k + 1 => by
    rw [shl, shl_eq h k, Nat.pow_succ, ← Nat.mul_assoc]
    omega
def shr (n : Nat) : Nat → Nat
  | 0 => n
  | k + 1 => shr n k / 2
theorem shr_le (n : Nat) : ∀ k, shr n k ≤ n
  | 0 => Nat.le_refl _
  | k + 1 => Nat.le_trans (Nat.div_le_self _ _) (shr_le n k)
theorem shr_eq (n : Nat) : ∀ k, shr n k = n / 2 ^ k
  | 0 => by simp [shr]
  | k + 1 => by rw [shr, shr_eq n k, Nat.pow_succ, Nat.div_div_eq_div_mul]
set_option maxHeartbeats 1000000 in
theorem r12_shl (n k : Nat) (hn : n < 4294967296) (hk : k ≤ 64) (w : World) : Calls Tryz.prog 77 #[.int .u64 n, .int .i64 k] w fun e w' => e = .returned (.int .u64 (shl n k : Nat)) ∧ w' = w := by
  have HL := Lib.hid (fun k => shl_lt hn k)
  clear hn
  go_enter Tryz.func77, Tryz.ntmps77
  go_wp2_with fail
  go_loop [5, 0] (fun iv nv => ∃ i : Nat, i ≤ k ∧ iv = .int .i64 (i : Int) ∧ nv = .int .u64 (shl n i : Nat)) (fun iv _ => k - (RowKit.intOf iv).toNat)
  case atStart => exact ⟨0, by omega, rfl, rfl⟩
  case round =>
    obtain ⟨i, hi, rfl, rfl⟩ := hrel
    have hl := HL.out i
    have hs : shl n (i + 1) = 2 * shl n i % 4294967296 := rfl
    obtain ⟨z, hz⟩ : ∃ z, z = shl n (i + 1) := ⟨_, rfl⟩
    rw [← hz] at hs
    have HZ := Lib.hid hz
    clear hz
    obtain ⟨x, hx⟩ : ∃ x, x = shl n i := ⟨_, rfl⟩
    rw [← hx] at hl hs ⊢
    obtain ⟨y, hy⟩ : ∃ y, y = 2 * x := ⟨_, rfl⟩
    rw [← hy] at hs
    have s1 : IntKind.u64.wrap (2 * (x : Int)) = (y : Int) := by rw [IntWalk.u64_in _ (by omega)]; omega
    have s3 : 2 * (x : Int) = (y : Int) := by omega
    have s2 : (y : Int).tmod 4294967296 = (z : Int) := by rw [Int.tmod_eq_emod_of_nonneg (by omega)]; omega
    have s4 : (y : Int) % 4294967296 = (z : Int) := by omega
    have s5 : IntKind.u64.wrap (z : Int) = (z : Int) := IntWalk.u64_in _ (by omega)
    have s6 : IntKind.u64.wrap (y : Int) = (y : Int) := IntWalk.u64_in _ (by omega)
    have HXx := Lib.hid hx
    clear hx hy hs
    by_cases hlt : i < k
    · have pk : decide ((i : Int) < (k : Int)) = true := decide_eq_true (by omega)
      go_wp2_with fail
      go_round
      case rel => exact ⟨i + 1, by omega, by go_num, by rw [HZ.out]⟩
      case measure => simp [RowKit.intOf]; omega
    · obtain rfl : i = k := by omega
      have pk : decide ((i : Int) < (i : Int)) = false := decide_eq_false (by omega)
      go_wp2_with fail
      go_ret
      exact ⟨by rw [← HXx.out]; rfl, rfl⟩
set_option maxHeartbeats 1000000 in
theorem r12_shr (n k : Nat) (hn : n < 4294967296) (hk : k ≤ 64) (w : World) : Calls Tryz.prog 78 #[.int .u64 n, .int .i64 k] w fun e w' => e = .returned (.int .u64 (shr n k : Nat)) ∧ w' = w := by
  have HL := Lib.hid (fun k => Nat.lt_of_le_of_lt (shr_le n k) hn)
  clear hn
  go_enter Tryz.func78, Tryz.ntmps78
  go_wp2_with fail
  go_loop [5, 0] (fun iv nv => ∃ i : Nat, i ≤ k ∧ iv = .int .i64 (i : Int) ∧ nv = .int .u64 (shr n i : Nat)) (fun iv _ => k - (RowKit.intOf iv).toNat)
  case atStart => exact ⟨0, by omega, rfl, rfl⟩
  case round =>
    obtain ⟨i, hi, rfl, rfl⟩ := hrel
    have hl := HL.out i
    have hs : shr n (i + 1) = shr n i / 2 := rfl
    obtain ⟨z, hz⟩ : ∃ z, z = shr n (i + 1) := ⟨_, rfl⟩
    rw [← hz] at hs
    have HZ := Lib.hid hz
    clear hz
    obtain ⟨x, hx⟩ : ∃ x, x = shr n i := ⟨_, rfl⟩
    rw [← hx] at hl hs ⊢
    have s2 : (x : Int).tdiv 2 = (z : Int) := by rw [Int.tdiv_eq_ediv_of_nonneg (by omega)]; omega
    have s4 : (x : Int) / 2 = (z : Int) := by omega
    have s5 : IntKind.u64.wrap (z : Int) = (z : Int) := IntWalk.u64_in _ (by omega)
    have HXx := Lib.hid hx
    clear hx hs
    by_cases hlt : i < k
    · have pk : decide ((i : Int) < (k : Int)) = true := decide_eq_true (by omega)
      go_wp2_with fail
      go_round
      case rel => exact ⟨i + 1, by omega, by go_num, by rw [HZ.out]⟩
      case measure => simp [RowKit.intOf]; omega
    · obtain rfl : i = k := by omega
      have pk : decide ((i : Int) < (i : Int)) = false := decide_eq_false (by omega)
      go_wp2_with fail
      go_ret
      exact ⟨by rw [← HXx.out]; rfl, rfl⟩
end Go.Proofs.YtcimbbllefkdlaaGreatDoor
