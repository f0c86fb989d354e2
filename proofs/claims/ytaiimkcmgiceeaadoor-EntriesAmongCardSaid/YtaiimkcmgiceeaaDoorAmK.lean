/- Chapter 18, EntriesAmong: the law's walk (written by genamk.py). -/
import Derived.Test.YtaiimkcmgiceeaaDoorAmN
import Derived.Test.YtaiimkcmgiceeaaDoorErS
namespace Go.Proofs.YtaiimkcmgiceeaaDoor
set_option linter.unusedVariables false
set_option linter.unusedSimpArgs false
open Go.RowKit Go.Lib Go.Sort
set_option maxHeartbeats 16000000 in
set_option maxRecDepth 100000 in
theorem am_long1 (sl : Option Addr) (n c : Nat) (E : Nat → EntD) (O : Nat → HoldO) (x : EntD) (o : HoldO) (now : Int) (hnm : n ≤ maxLen) (hnc : n ≤ c) (hx : x.Ok) (w : World) (ht : Tb w) (hE : Ents w sl n E) (hH : ∀ i, i < n → HoldsIn w (E i).ad (E i).n (hv (O i) (E i).n)) (hX : HoldsIn w x.ad x.n (hv o x.n)) (h1 : longB n (fun i => (E i).n) 40 = true) :
    Calls Tryd.prog 3 #[.slice sl n c, .agg #[.int .u8 x.r, .int .u32 x.a, .int .u16 x.p, .int .u32 x.b, .int .u16 x.q, .int .u8 x.r2, .int .u32 x.a2, .int .u16 x.p2, .int .u32 x.b2, .int .u16 x.q2, .int .i64 x.st, .int .i64 x.dl, .slice x.ad x.n x.c], .int .i64 now] w (Ret1 (.bool true) w) := by
  have HE := Lib.hid hE
  have HHo := Lib.hid hH
  have HXh := Lib.hid hX
  have KL1 := Lib.hid (fun W (hW : NoW w W) => long_ok sl n c (fun i => (E i).n) (fun i => (E i).c) (fun i => (E i).ad) 40 hnm hnc W (fun i hi => by
    obtain ⟨b, o, e, hc⟩ := (hE.low hW).at' i hi
    exact ⟨b, o, e, hc 12 _ rfl, (hE.ok i hi).nm⟩))
  have KL2 := Lib.hid (fun W b (hB : Hid (W.heap[b]? = some (.cells #[.int .u8 x.r, .int .u32 x.a, .int .u16 x.p, .int .u32 x.b, .int .u16 x.q, .int .u8 x.r2, .int .u32 x.a2, .int .u16 x.p2, .int .u32 x.b2, .int .u16 x.q2, .int .i64 x.st, .int .i64 x.dl, .slice x.ad x.n x.c] 32))) => long_ok (some ⟨b, 0, none⟩) 1 1 (fun _ => x.n) (fun _ => x.c) (fun _ => x.ad) 1 (by unfold maxLen; omega) (Nat.le_refl _) W (fun i hi => by
    obtain rfl : i = 0 := by omega
    exact ⟨b, 0, rfl, by have := cell_at hB 12 rfl; simpa using this, hx.nm⟩))
  have KP := Lib.hid (fun W (hW : Tb W) => passes18 W hW)
  rw [h1] at KL1
  clear hE hH hX h1 hx hnm
  go_enter Tryd.func3, Tryd.ntmps3
  have HN := Lib.hid (Fp.refl (fun _ => False) w)
  have HT := Lib.hid ht
  go_upto_region 1 with fail
  refine wp_gen (fun x1 hW => ?_)
  have hp := new_now hW
  have hB := new_blk hW
  clear hW
  have hGe := hid_ge HN
  replace HN := hid_now HN hp
  obtain ⟨gx, hgx⟩ : ∃ gx, gx = w.heap.size := ⟨_, rfl⟩
  have G_gx := Lib.hid (Nat.le_trans hGe (Nat.le_of_eq hgx.symm))
  rw [← hgx] at hB ⊢
  have B_gx := hB
  clear hB hGe hgx
  clear hp
  go_wp2_with fail
  refine (show Calls _ _ _ _ _ from KL1.out _ HN.out).mono ?_
  rintro e x2 ⟨rfl, hp⟩
  replace HN := hid_now HN hp
  replace B_gx := hid_blk B_gx hp
  clear hp
  go_wp2_with fail
  refine (show Calls _ _ _ _ _ from KP.out _ (HT.out.low HN.out)).mono ?_
  rintro e x3 ⟨rfl, hp⟩
  replace HN := hid_now HN hp
  replace B_gx := hid_blk B_gx hp
  clear hp
  go_wp2_with fail
  go_ret
  exact ⟨rfl, HN.out⟩
set_option maxHeartbeats 16000000 in
set_option maxRecDepth 100000 in
theorem am_long2 (sl : Option Addr) (n c : Nat) (E : Nat → EntD) (O : Nat → HoldO) (x : EntD) (o : HoldO) (now : Int) (hnm : n ≤ maxLen) (hnc : n ≤ c) (hx : x.Ok) (w : World) (ht : Tb w) (hE : Ents w sl n E) (hH : ∀ i, i < n → HoldsIn w (E i).ad (E i).n (hv (O i) (E i).n)) (hX : HoldsIn w x.ad x.n (hv o x.n)) (h1 : longB n (fun i => (E i).n) 40 = false) (h2 : longB 1 (fun _ => x.n) 1 = true) :
    Calls Tryd.prog 3 #[.slice sl n c, .agg #[.int .u8 x.r, .int .u32 x.a, .int .u16 x.p, .int .u32 x.b, .int .u16 x.q, .int .u8 x.r2, .int .u32 x.a2, .int .u16 x.p2, .int .u32 x.b2, .int .u16 x.q2, .int .i64 x.st, .int .i64 x.dl, .slice x.ad x.n x.c], .int .i64 now] w (Ret1 (.bool true) w) := by
  have HE := Lib.hid hE
  have HHo := Lib.hid hH
  have HXh := Lib.hid hX
  have KL1 := Lib.hid (fun W (hW : NoW w W) => long_ok sl n c (fun i => (E i).n) (fun i => (E i).c) (fun i => (E i).ad) 40 hnm hnc W (fun i hi => by
    obtain ⟨b, o, e, hc⟩ := (hE.low hW).at' i hi
    exact ⟨b, o, e, hc 12 _ rfl, (hE.ok i hi).nm⟩))
  have KL2 := Lib.hid (fun W b (hB : Hid (W.heap[b]? = some (.cells #[.int .u8 x.r, .int .u32 x.a, .int .u16 x.p, .int .u32 x.b, .int .u16 x.q, .int .u8 x.r2, .int .u32 x.a2, .int .u16 x.p2, .int .u32 x.b2, .int .u16 x.q2, .int .i64 x.st, .int .i64 x.dl, .slice x.ad x.n x.c] 32))) => long_ok (some ⟨b, 0, none⟩) 1 1 (fun _ => x.n) (fun _ => x.c) (fun _ => x.ad) 1 (by unfold maxLen; omega) (Nat.le_refl _) W (fun i hi => by
    obtain rfl : i = 0 := by omega
    exact ⟨b, 0, rfl, by have := cell_at hB 12 rfl; simpa using this, hx.nm⟩))
  have KP := Lib.hid (fun W (hW : Tb W) => passes18 W hW)
  rw [h1] at KL1
  rw [h2] at KL2
  clear hE hH hX h1 h2 hx hnm
  go_enter Tryd.func3, Tryd.ntmps3
  have HN := Lib.hid (Fp.refl (fun _ => False) w)
  have HT := Lib.hid ht
  go_upto_region 1 with fail
  refine wp_gen (fun x1 hW => ?_)
  have hp := new_now hW
  have hB := new_blk hW
  clear hW
  have hGe := hid_ge HN
  replace HN := hid_now HN hp
  obtain ⟨gx, hgx⟩ : ∃ gx, gx = w.heap.size := ⟨_, rfl⟩
  have G_gx := Lib.hid (Nat.le_trans hGe (Nat.le_of_eq hgx.symm))
  rw [← hgx] at hB ⊢
  have B_gx := hB
  clear hB hGe hgx
  clear hp
  go_wp2_with fail
  refine (show Calls _ _ _ _ _ from KL1.out _ HN.out).mono ?_
  rintro e x2 ⟨rfl, hp⟩
  replace HN := hid_now HN hp
  replace B_gx := hid_blk B_gx hp
  clear hp
  have cgx0 := cell_at B_gx 0 rfl
  have cgx1 := cell_at B_gx 1 rfl
  have cgx2 := cell_at B_gx 2 rfl
  have cgx3 := cell_at B_gx 3 rfl
  have cgx4 := cell_at B_gx 4 rfl
  have cgx5 := cell_at B_gx 5 rfl
  have cgx6 := cell_at B_gx 6 rfl
  have cgx7 := cell_at B_gx 7 rfl
  have cgx8 := cell_at B_gx 8 rfl
  have cgx9 := cell_at B_gx 9 rfl
  have cgx10 := cell_at B_gx 10 rfl
  have cgx11 := cell_at B_gx 11 rfl
  have cgx12 := cell_at B_gx 12 rfl
  have zgx := froz_at B_gx
  have lgx := hid_lt B_gx
  go_wp2_with fail
  clear cgx0 cgx1 cgx2 cgx3 cgx4 cgx5 cgx6 cgx7 cgx8 cgx9 cgx10 cgx11 cgx12 zgx lgx
  refine calls_gen (fun x3 hW => ?_)
  have l2gx := hid_lt B_gx
  have hp := new_now hW
  have hB := new_blk hW
  clear hW
  have hGe := hid_ge HN
  replace HN := hid_now HN hp
  replace B_gx := hid_blk B_gx hp
  obtain ⟨gb, hgb⟩ : ∃ gb, gb = x2.heap.size := ⟨_, rfl⟩
  have G_gb := Lib.hid (Nat.le_trans hGe (Nat.le_of_eq hgb.symm))
  have n_gx_gb : ¬ gx = gb := by omega
  have n_gb_gx : ¬ gb = gx := by omega
  clear l2gx
  rw [← hgb] at hB ⊢
  have B_gb := hB
  clear hB hGe hgb
  clear hp
  refine (show Calls _ _ _ _ _ from KL2.out _ _ B_gb).mono ?_
  rintro e x4 ⟨rfl, hp⟩
  replace HN := hid_now HN hp
  replace B_gx := hid_blk B_gx hp
  replace B_gb := hid_blk B_gb hp
  clear hp
  go_wp2_with fail
  refine (show Calls _ _ _ _ _ from KP.out _ (HT.out.low HN.out)).mono ?_
  rintro e x5 ⟨rfl, hp⟩
  replace HN := hid_now HN hp
  replace B_gx := hid_blk B_gx hp
  replace B_gb := hid_blk B_gb hp
  clear hp
  go_wp2_with fail
  go_ret
  exact ⟨rfl, HN.out⟩
set_option maxHeartbeats 16000000 in
set_option maxRecDepth 100000 in
theorem am_main (sl : Option Addr) (n c : Nat) (E : Nat → EntD) (O : Nat → HoldO) (x : EntD) (o : HoldO) (now : Int) (hnm : n ≤ maxLen) (hnc : n ≤ c) (hx : x.Ok) (w : World) (ht : Tb w) (hE : Ents w sl n E) (hH : ∀ i, i < n → HoldsIn w (E i).ad (E i).n (hv (O i) (E i).n)) (hX : HoldsIn w x.ad x.n (hv o x.n)) (h1 : longB n (fun i => (E i).n) 40 = false) (h2 : longB 1 (fun _ => x.n) 1 = false) :
    Calls Tryd.prog 3 #[.slice sl n c, .agg #[.int .u8 x.r, .int .u32 x.a, .int .u16 x.p, .int .u32 x.b, .int .u16 x.q, .int .u8 x.r2, .int .u32 x.a2, .int .u16 x.p2, .int .u32 x.b2, .int .u16 x.q2, .int .i64 x.st, .int .i64 x.dl, .slice x.ad x.n x.c], .int .i64 now] w (Ret1 (.bool true) w) := by
  have HE := Lib.hid hE
  have HHo := Lib.hid hH
  have HXh := Lib.hid hX
  have KL1 := Lib.hid (fun W (hW : NoW w W) => long_ok sl n c (fun i => (E i).n) (fun i => (E i).c) (fun i => (E i).ad) 40 hnm hnc W (fun i hi => by
    obtain ⟨b, o, e, hc⟩ := (hE.low hW).at' i hi
    exact ⟨b, o, e, hc 12 _ rfl, (hE.ok i hi).nm⟩))
  have KL2 := Lib.hid (fun W b (hB : Hid (W.heap[b]? = some (.cells #[.int .u8 x.r, .int .u32 x.a, .int .u16 x.p, .int .u32 x.b, .int .u16 x.q, .int .u8 x.r2, .int .u32 x.a2, .int .u16 x.p2, .int .u32 x.b2, .int .u16 x.q2, .int .i64 x.st, .int .i64 x.dl, .slice x.ad x.n x.c] 32))) => long_ok (some ⟨b, 0, none⟩) 1 1 (fun _ => x.n) (fun _ => x.c) (fun _ => x.ad) 1 (by unfold maxLen; omega) (Nat.le_refl _) W (fun i hi => by
    obtain rfl : i = 0 := by omega
    exact ⟨b, 0, rfl, by have := cell_at hB 12 rfl; simpa using this, hx.nm⟩))
  have KP := Lib.hid (fun W (hW : Tb W) => passes18 W hW)
  have hn : n ≤ 40 := by simp only [longB, Bool.or_eq_false_iff, decide_eq_false_iff_not] at h1; omega
  have hh : ∀ i, i < n → (E i).n ≤ 100 := fun i hi => by simp only [longB, Bool.or_eq_false_iff, List.any_eq_false, List.mem_range, decide_eq_true_eq] at h1; have := h1.1 i hi; omega
  have hxn : x.n ≤ 100 := by simp only [longB, Bool.or_eq_false_iff, List.any_eq_false, List.mem_range, decide_eq_true_eq] at h2; have := h2.1 0 (by omega); omega
  have KDocs := Lib.hid (fun W (hW : NoW w W) => docs_ok sl n c E O (by omega) hh W (hE.low hW) (fun i hi => (hH i hi).low hW))
  have KSort := Lib.hid (fun W (hW : NoW w W) => sort_ok sl n c E O hn hh W (hE.low hW) (fun i hi => (hH i hi).low hW))
  have KVic := Lib.hid (fun W (hW : NoW w W) (hT : Tb W) => victim_ok sl n c E now hnm hnc W hT (hE.low hW))
  have KCl := Lib.hid (fun W (hW : NoW w W) => clash_ok sl n c E now x.r x.a x.p x.b x.q x.r2 x.a2 x.p2 x.b2 x.q2 x.st x.dl (.slice x.ad x.n x.c) (by omega) W (hE.low hW))
  obtain ⟨tc, htc⟩ : ∃ z, z = (clR (clE E now x.r x.a x.p x.b x.q) (clE E now x.r2 x.a2 x.p2 x.b2 x.q2) n 0 0) := ⟨_, rfl⟩
  rw [← htc] at KCl
  have HTC := Lib.hid htc
  clear htc
  have KDx := Lib.hid (fun W (hW : NoW w W) => doc_new x.r x.a x.p x.b x.q x.r2 x.a2 x.p2 x.b2 x.q2 x.st x.dl x.ad x.n x.c o.1 o.2.1 o.2.2.1 o.2.2.2 hxn W (hX.low hW))
  have Hok := Lib.hid (fun i (hi : i < n) => hE.ok i hi)
  have Hh := Lib.hid hh
  have Hn := Lib.hid hn
  rw [h1] at KL1
  rw [h2] at KL2
  clear hE hH hX h1 h2 hx hnm hh hxn
  go_enter Tryd.func3, Tryd.ntmps3
  have HN := Lib.hid (Fp.refl (fun _ => False) w)
  have HT := Lib.hid ht
  go_upto_region 1 with fail
  refine wp_gen (fun x1 hW => ?_)
  have hp := new_now hW
  have hB := new_blk hW
  clear hW
  have hGe := hid_ge HN
  replace HN := hid_now HN hp
  obtain ⟨gx, hgx⟩ : ∃ gx, gx = w.heap.size := ⟨_, rfl⟩
  have G_gx := Lib.hid (Nat.le_trans hGe (Nat.le_of_eq hgx.symm))
  rw [← hgx] at hB ⊢
  have B_gx := hB
  clear hB hGe hgx
  clear hp
  go_wp2_with fail
  refine (show Calls _ _ _ _ _ from KL1.out _ HN.out).mono ?_
  rintro e x2 ⟨rfl, hp⟩
  replace HN := hid_now HN hp
  replace B_gx := hid_blk B_gx hp
  clear hp
  have cgx0 := cell_at B_gx 0 rfl
  have cgx1 := cell_at B_gx 1 rfl
  have cgx2 := cell_at B_gx 2 rfl
  have cgx3 := cell_at B_gx 3 rfl
  have cgx4 := cell_at B_gx 4 rfl
  have cgx5 := cell_at B_gx 5 rfl
  have cgx6 := cell_at B_gx 6 rfl
  have cgx7 := cell_at B_gx 7 rfl
  have cgx8 := cell_at B_gx 8 rfl
  have cgx9 := cell_at B_gx 9 rfl
  have cgx10 := cell_at B_gx 10 rfl
  have cgx11 := cell_at B_gx 11 rfl
  have cgx12 := cell_at B_gx 12 rfl
  have zgx := froz_at B_gx
  have lgx := hid_lt B_gx
  go_wp2_with fail
  clear cgx0 cgx1 cgx2 cgx3 cgx4 cgx5 cgx6 cgx7 cgx8 cgx9 cgx10 cgx11 cgx12 zgx lgx
  refine calls_gen (fun x3 hW => ?_)
  have l2gx := hid_lt B_gx
  have hp := new_now hW
  have hB := new_blk hW
  clear hW
  have hGe := hid_ge HN
  replace HN := hid_now HN hp
  replace B_gx := hid_blk B_gx hp
  obtain ⟨gb, hgb⟩ : ∃ gb, gb = x2.heap.size := ⟨_, rfl⟩
  have G_gb := Lib.hid (Nat.le_trans hGe (Nat.le_of_eq hgb.symm))
  have n_gx_gb : ¬ gx = gb := by omega
  have n_gb_gx : ¬ gb = gx := by omega
  clear l2gx
  rw [← hgb] at hB ⊢
  have B_gb := hB
  clear hB hGe hgb
  clear hp
  refine (show Calls _ _ _ _ _ from KL2.out _ _ B_gb).mono ?_
  rintro e x4 ⟨rfl, hp⟩
  replace HN := hid_now HN hp
  replace B_gx := hid_blk B_gx hp
  replace B_gb := hid_blk B_gb hp
  clear hp
  go_wp2_with fail
  refine (show Calls _ _ _ _ _ from KDocs.out _ HN.out).mono ?_
  rintro e x5 ⟨v1, Fm, Hm, rfl, hOm, hp⟩
  replace HN := hid_now HN hp
  replace B_gx := hid_blk B_gx hp
  replace B_gb := hid_blk B_gb hp
  clear hp
  have HOm := Lib.hid hOm
  clear hOm
  obtain ⟨slm, cm, rfl, hcm, hEm, hgm⟩ := HOm.out.ents (fun i hi => Hok.out i hi)
  have HEm := Lib.hid hEm
  have Hgm := Lib.hid hgm
  have hLm : Like n E Fm := HOm.out.same
  have HLm := Lib.hid hLm
  clear hEm hgm hLm
  skip
  go_wp2_with fail
  have HLt := Lib.hid HOm.out.lts
  have HN0 := HN
  refine (show Calls _ _ _ _ _ from KSort.out _ HN.out).mono ?_
  rintro e x6 ⟨v2, Fs, Hs, π, rfl, hLs, hinj, hS⟩
  have hp := hS.low
  have HS := Lib.hid hS
  have HLs := Lib.hid (show Like n E Fs from hLs)
  have Hinj := Lib.hid hinj
  clear hS hLs hinj
  replace HN := hid_now HN hp
  replace B_gx := hid_blk B_gx hp
  replace B_gb := hid_blk B_gb hp
  replace HOm := Lib.hid (HOm.out.low hp)
  replace HEm := Lib.hid (HEm.out.low hp)
  clear hp
  have HPs := Lib.hid (Fp.refl (fun _ => False) x6)
  go_wp2_with fail
  refine (show Calls _ _ _ _ _ from rsort_ok slm n cm Fm (by have := Hn.out; omega) _ HEm.out).mono ?_
  rintro e x7 ⟨v3, Lr, rfl, hI, hrow, hp⟩
  replace HN := hid_now HN hp
  replace B_gx := hid_blk B_gx hp
  replace B_gb := hid_blk B_gb hp
  replace HOm := Lib.hid (HOm.out.low hp)
  replace HEm := Lib.hid (HEm.out.low hp)
  replace HPs := hid_now HPs hp
  clear hp
  have HPt := Lib.hid (Fp.refl (fun _ => False) x7)
  have HI := Lib.hid hI
  have HR := Lib.hid hrow
  clear hI hrow
  obtain ⟨sls, cs, rfl, hns, hcs⟩ := HS.out.ents
  have Hcs := Lib.hid hcs
  clear hcs
  obtain ⟨slt, ct, rfl, hnt⟩ : ∃ slt ct, v3 = .slice slt n ct ∧ n ≤ ct := by
    have hl := HI.out.len
    rcases HR.out.2 with ⟨e, h0⟩ | ⟨g, cap, cur, e, _, _, h1, _⟩
    · exact ⟨none, 0, by rw [e, ← hl, h0], by omega⟩
    · exact ⟨some ⟨g, 0, none⟩, cap, by rw [e, hl], by omega⟩
  go_upto_region 5 with fail
  have lgx := hid_lt B_gx
  have g0 := cell_at B_gx 0 rfl
  have g1 := cell_at B_gx 1 rfl
  have g2 := cell_at B_gx 2 rfl
  have g3 := cell_at B_gx 3 rfl
  have g4 := cell_at B_gx 4 rfl
  have g5 := cell_at B_gx 5 rfl
  have g6 := cell_at B_gx 6 rfl
  have g7 := cell_at B_gx 7 rfl
  have g8 := cell_at B_gx 8 rfl
  have g9 := cell_at B_gx 9 rfl
  have g10 := cell_at B_gx 10 rfl
  have g11 := cell_at B_gx 11 rfl
  have g12 := cell_at B_gx 12 rfl
  refine wp_region_held_drew (S := fun wx => NoW x7 wx) (by kernel_rfl) (Fp.drew (Fp.refl _ _)) (fun hHeld0 => ?_)
  refine any_eq hHeld0 (fun x8 hW hHeld => ?_)
  clear hHeld0
  replace B_gx := hid_blk B_gx (noW_drew hW)
  replace B_gb := hid_blk B_gb (noW_drew hW)
  clear hW
  (refine take_at 0 (some 27) rfl rfl (by kernel_rfl) (by kernel_rfl) (by kernel_rfl) (fun _ _ _ h => h) (v := ?_) (by kernel_rfl) ?_ (by assumption) ?_; rotate_left; (focus (intro wS hSw; skip; go_simp; try with_reducible rfl)); (try simp only [Act.put, List.setIfInBounds_toArray, List.set_cons_zero, List.set_cons_succ]))
  (refine take_at 1 (some 28) rfl rfl (by kernel_rfl) (by kernel_rfl) (by kernel_rfl) (fun _ _ _ h => h) (v := ?_) (by kernel_rfl) ?_ (by assumption) ?_; rotate_left; (focus (intro wS hSw; skip; go_simp; try with_reducible rfl)); (try simp only [Act.put, List.setIfInBounds_toArray, List.set_cons_zero, List.set_cons_succ]))
  (refine take_at 3 (some 30) rfl rfl (by kernel_rfl) (by kernel_rfl) (by kernel_rfl) (fun _ _ _ h => h) (v := ?_) (by kernel_rfl) ?_ (by assumption) ?_; rotate_left; (focus (intro wS hSw; skip; go_simp; try with_reducible rfl)); (try simp only [Act.put, List.setIfInBounds_toArray, List.set_cons_zero, List.set_cons_succ]))
  (refine take_at 4 (some 31) rfl rfl (by kernel_rfl) (by kernel_rfl) (by kernel_rfl) (fun _ _ _ h => h) (v := ?_) (by kernel_rfl) ?_ (by assumption) ?_; rotate_left; (focus (intro wS hSw; skip; go_simp; try with_reducible rfl)); (try simp only [Act.put, List.setIfInBounds_toArray, List.set_cons_zero, List.set_cons_succ]))
  refine wpAnyH_ready (rs := [2]) (by kernel_rfl) (by simp) ?_
  refine AllReadyH.cons rfl (fun K hK => ?_) AllReadyH.nil
  go_simp
  go_at_call 9
  refine (show Calls _ _ _ _ _ from KVic.out _ (HN.out.trans hHeld (fun _ _ h => h)) (HT.out.low (HN.out.trans hHeld (fun _ _ h => h.elim)))).mono ?_
  rintro e x9 ⟨at1, rfl, hv, hp⟩
  have HV := Lib.hid hv
  clear hv
  have hn := Fp.trans hHeld hp (fun _ _ h => h.elim)
  replace B_gx := hid_blk B_gx hp
  replace B_gb := hid_blk B_gb hp
  refine k_now hK hn ?_
  clear hK K hp hHeld
  have hHeld := hn
  clear hn
  try simp only [Act.put, List.setIfInBounds_toArray, List.set_cons_zero, List.set_cons_succ]
  refine wpAnyH_ready (rs := [5]) (by kernel_rfl) (by simp) ?_
  refine AllReadyH.cons rfl (fun K hK => ?_) AllReadyH.nil
  go_simp
  go_at_call 10
  refine (show Calls _ _ _ _ _ from rvic_ok slm n cm Fm now (by have := Hn.out; omega) _ (HEm.out.low hHeld)).mono ?_
  rintro e x10 ⟨r1, rfl, hr, hp⟩
  obtain rfl : r1 = at1 := HLm.out.vic HV.out hr
  clear hr
  have hn := Fp.trans hHeld hp (fun _ _ h => h.elim)
  replace B_gx := hid_blk B_gx hp
  replace B_gb := hid_blk B_gb hp
  refine k_now hK hn ?_
  clear hK K hp hHeld
  have hHeld := hn
  clear hn
  try simp only [Act.put, List.setIfInBounds_toArray, List.set_cons_zero, List.set_cons_succ]
  (refine take_at 6 (some 33) rfl rfl (by kernel_rfl) (by kernel_rfl) (by kernel_rfl) (fun _ _ _ h => h) (v := ?_) (by kernel_rfl) ?_ (by assumption) ?_; rotate_left; (focus (intro wS hSw; skip; go_simp; try with_reducible rfl)); (try simp only [Act.put, List.setIfInBounds_toArray, List.set_cons_zero, List.set_cons_succ]))
  (refine take_at 7 (some 34) rfl rfl (by kernel_rfl) (by kernel_rfl) (by kernel_rfl) (fun _ _ _ h => h) (v := ?_) (by kernel_rfl) ?_ (by assumption) ?_; rotate_left; (focus (intro wS hSw; skip; go_simp; try with_reducible rfl)); (try simp only [Act.put, List.setIfInBounds_toArray, List.set_cons_zero, List.set_cons_succ]))
  (refine take_at 8 (some 35) rfl rfl (by kernel_rfl) (by kernel_rfl) (by kernel_rfl) (fun _ _ _ h => h) (v := ?_) (by kernel_rfl) ?_ (by assumption) ?_; rotate_left; (focus (intro wS hSw; skip; go_simp; try with_reducible rfl)); (try simp only [Act.put, List.setIfInBounds_toArray, List.set_cons_zero, List.set_cons_succ]))
  (refine take_at 9 (some 36) rfl rfl (by kernel_rfl) (by kernel_rfl) (by kernel_rfl) (fun _ _ _ h => h) (v := ?_) (by kernel_rfl) ?_ (by assumption) ?_; rotate_left; (focus (intro wS hSw; skip; go_simp; try with_reducible rfl)); (try simp only [Act.put, List.setIfInBounds_toArray, List.set_cons_zero, List.set_cons_succ]))
  (refine take_at 10 (some 37) rfl rfl (by kernel_rfl) (by kernel_rfl) (by kernel_rfl) (fun _ _ _ h => h) (v := ?_) (by kernel_rfl) ?_ (by assumption) ?_; rotate_left; (focus (intro wS hSw; (have q0 := (hSw.cell (p := ⟨gx, 0, none⟩) lgx id).trans g0); (have q1 := (hSw.cell (p := ⟨gx, 1, none⟩) lgx id).trans g1); (have q2 := (hSw.cell (p := ⟨gx, 2, none⟩) lgx id).trans g2); (have q3 := (hSw.cell (p := ⟨gx, 3, none⟩) lgx id).trans g3); (have q4 := (hSw.cell (p := ⟨gx, 4, none⟩) lgx id).trans g4); (have q5 := (hSw.cell (p := ⟨gx, 5, none⟩) lgx id).trans g5); (have q6 := (hSw.cell (p := ⟨gx, 6, none⟩) lgx id).trans g6); (have q7 := (hSw.cell (p := ⟨gx, 7, none⟩) lgx id).trans g7); (have q8 := (hSw.cell (p := ⟨gx, 8, none⟩) lgx id).trans g8); (have q9 := (hSw.cell (p := ⟨gx, 9, none⟩) lgx id).trans g9); (have q10 := (hSw.cell (p := ⟨gx, 10, none⟩) lgx id).trans g10); (have q11 := (hSw.cell (p := ⟨gx, 11, none⟩) lgx id).trans g11); (have q12 := (hSw.cell (p := ⟨gx, 12, none⟩) lgx id).trans g12); go_simp; try with_reducible rfl)); (try simp only [Act.put, List.setIfInBounds_toArray, List.set_cons_zero, List.set_cons_succ]))
  (refine take_at 12 (some 39) rfl rfl (by kernel_rfl) (by kernel_rfl) (by kernel_rfl) (fun _ _ _ h => h) (v := ?_) (by kernel_rfl) ?_ (by assumption) ?_; rotate_left; (focus (intro wS hSw; skip; go_simp; try with_reducible rfl)); (try simp only [Act.put, List.setIfInBounds_toArray, List.set_cons_zero, List.set_cons_succ]))
  (refine take_at 13 (some 40) rfl rfl (by kernel_rfl) (by kernel_rfl) (by kernel_rfl) (fun _ _ _ h => h) (v := ?_) (by kernel_rfl) ?_ (by assumption) ?_; rotate_left; (focus (intro wS hSw; skip; go_simp; try with_reducible rfl)); (try simp only [Act.put, List.setIfInBounds_toArray, List.set_cons_zero, List.set_cons_succ]))
  (refine take_at 14 (some 41) rfl rfl (by kernel_rfl) (by kernel_rfl) (by kernel_rfl) (fun _ _ _ h => h) (v := ?_) (by kernel_rfl) ?_ (by assumption) ?_; rotate_left; (focus (intro wS hSw; (have q0 := (hSw.cell (p := ⟨gx, 0, none⟩) lgx id).trans g0); (have q1 := (hSw.cell (p := ⟨gx, 1, none⟩) lgx id).trans g1); (have q2 := (hSw.cell (p := ⟨gx, 2, none⟩) lgx id).trans g2); (have q3 := (hSw.cell (p := ⟨gx, 3, none⟩) lgx id).trans g3); (have q4 := (hSw.cell (p := ⟨gx, 4, none⟩) lgx id).trans g4); (have q5 := (hSw.cell (p := ⟨gx, 5, none⟩) lgx id).trans g5); (have q6 := (hSw.cell (p := ⟨gx, 6, none⟩) lgx id).trans g6); (have q7 := (hSw.cell (p := ⟨gx, 7, none⟩) lgx id).trans g7); (have q8 := (hSw.cell (p := ⟨gx, 8, none⟩) lgx id).trans g8); (have q9 := (hSw.cell (p := ⟨gx, 9, none⟩) lgx id).trans g9); (have q10 := (hSw.cell (p := ⟨gx, 10, none⟩) lgx id).trans g10); (have q11 := (hSw.cell (p := ⟨gx, 11, none⟩) lgx id).trans g11); (have q12 := (hSw.cell (p := ⟨gx, 12, none⟩) lgx id).trans g12); go_simp; try with_reducible rfl)); (try simp only [Act.put, List.setIfInBounds_toArray, List.set_cons_zero, List.set_cons_succ]))
  refine wpAnyH_ready (rs := [11]) (by kernel_rfl) (by simp) ?_
  refine AllReadyH.cons rfl (fun K hK => ?_) AllReadyH.nil
  go_simp
  go_at_call 11
  refine (show Calls _ _ _ _ _ from KCl.out _ (HN.out.trans hHeld (fun _ _ h => h))).mono ?_
  rintro e x11 ⟨rfl, hp⟩
  have hn := Fp.trans hHeld hp (fun _ _ h => h.elim)
  replace B_gx := hid_blk B_gx hp
  replace B_gb := hid_blk B_gb hp
  refine k_now hK hn ?_
  clear hK K hp hHeld
  have hHeld := hn
  clear hn
  try simp only [Act.put, List.setIfInBounds_toArray, List.set_cons_zero, List.set_cons_succ]
  refine wpAnyH_ready (rs := [15]) (by kernel_rfl) (by simp) ?_
  refine AllReadyH.cons rfl (fun K hK => ?_) AllReadyH.nil
  go_simp
  go_at_call 13
  refine (show Calls _ _ _ _ _ from KDx.out _ (HN.out.trans hHeld (fun _ _ h => h))).mono ?_
  rintro e x12 ⟨ox, cx, rfl, hncx, hnewx, hp⟩
  clear hncx hnewx
  have hn := Fp.trans hHeld hp (fun _ _ h => h.elim)
  replace B_gx := hid_blk B_gx hp
  replace B_gb := hid_blk B_gb hp
  refine k_now hK hn ?_
  clear hK K hp hHeld
  have hHeld := hn
  clear hn
  try simp only [Act.put, List.setIfInBounds_toArray, List.set_cons_zero, List.set_cons_succ]
  refine wpAnyH_ready (rs := [16]) (by kernel_rfl) (by simp) ?_
  refine AllReadyH.cons rfl (fun K hK => ?_) AllReadyH.nil
  go_simp
  go_at_call 12
  refine (show Calls _ _ _ _ _ from rclash_ok slm n cm Fm now x.r x.a x.p x.b x.q x.r2 x.a2 x.p2 x.b2 x.q2 x.st x.dl (.slice ox x.n cx) (by have := Hn.out; omega) _ (HEm.out.low hHeld)).mono ?_
  rintro e x13 ⟨rfl, hp⟩
  rw [HLm.out.clash now x.r x.a x.p x.b x.q x.r2 x.a2 x.p2 x.b2 x.q2, ← HTC.out]
  have hn := Fp.trans hHeld hp (fun _ _ h => h.elim)
  replace B_gx := hid_blk B_gx hp
  replace B_gb := hid_blk B_gb hp
  refine k_now hK hn ?_
  clear hK K hp hHeld
  have hHeld := hn
  clear hn
  try simp only [Act.put, List.setIfInBounds_toArray, List.set_cons_zero, List.set_cons_succ]
  (refine take_at 17 (some 44) rfl rfl (by kernel_rfl) (by kernel_rfl) (by kernel_rfl) (fun _ _ _ h => h) (v := ?_) (by kernel_rfl) ?_ (by assumption) ?_; rotate_left; (focus (intro wS hSw; skip; go_simp; try with_reducible rfl)); (try simp only [Act.put, List.setIfInBounds_toArray, List.set_cons_zero, List.set_cons_succ]))
  (refine take_at 18 (some 45) rfl rfl (by kernel_rfl) (by kernel_rfl) (by kernel_rfl) (fun _ _ _ h => h) (v := ?_) (by kernel_rfl) ?_ (by assumption) ?_; rotate_left; (focus (intro wS hSw; skip; go_simp; try with_reducible rfl)); (try simp only [Act.put, List.setIfInBounds_toArray, List.set_cons_zero, List.set_cons_succ]))
  (refine take_at 19 (some 46) rfl rfl (by kernel_rfl) (by kernel_rfl) (by kernel_rfl) (fun _ _ _ h => h) (v := ?_) (by kernel_rfl) ?_ (by assumption) ?_; rotate_left; (focus (intro wS hSw; skip; go_simp; try with_reducible rfl)); (try simp only [Act.put, List.setIfInBounds_toArray, List.set_cons_zero, List.set_cons_succ]))
  (refine take_at 20 (some 47) rfl rfl (by kernel_rfl) (by kernel_rfl) (by kernel_rfl) (fun _ _ _ h => h) (v := ?_) (by kernel_rfl) ?_ (by assumption) ?_; rotate_left; (focus (intro wS hSw; skip; go_simp; try with_reducible rfl)); (try simp only [Act.put, List.setIfInBounds_toArray, List.set_cons_zero, List.set_cons_succ]))
  (refine take_at 21 (some 48) rfl rfl (by kernel_rfl) (by kernel_rfl) (by kernel_rfl) (fun _ _ _ h => h) (v := ?_) (by kernel_rfl) ?_ (by assumption) ?_; rotate_left; (focus (intro wS hSw; skip; go_simp; try with_reducible rfl)); (try simp only [Act.put, List.setIfInBounds_toArray, List.set_cons_zero, List.set_cons_succ]))
  (refine take_at 22 (some 49) rfl rfl (by kernel_rfl) (by kernel_rfl) (by kernel_rfl) (fun _ _ _ h => h) (v := ?_) (by kernel_rfl) ?_ (by assumption) ?_; rotate_left; (focus (intro wS hSw; skip; go_simp; try with_reducible rfl)); (try simp only [Act.put, List.setIfInBounds_toArray, List.set_cons_zero, List.set_cons_succ]))
  (refine take_at 23 (some 50) rfl rfl (by kernel_rfl) (by kernel_rfl) (by kernel_rfl) (fun _ _ _ h => h) (v := ?_) (by kernel_rfl) ?_ (by assumption) ?_; rotate_left; (focus (intro wS hSw; skip; go_simp; try with_reducible rfl)); (try simp only [Act.put, List.setIfInBounds_toArray, List.set_cons_zero, List.set_cons_succ]))
  (refine take_at 24 (some 51) rfl rfl (by kernel_rfl) (by kernel_rfl) (by kernel_rfl) (fun _ _ _ h => h) (v := ?_) (by kernel_rfl) ?_ (by assumption) ?_; rotate_left; (focus (intro wS hSw; skip; go_simp; try with_reducible rfl)); (try simp only [Act.put, List.setIfInBounds_toArray, List.set_cons_zero, List.set_cons_succ]))
  (refine take_at 25 (some 52) rfl rfl (by kernel_rfl) (by kernel_rfl) (by kernel_rfl) (fun _ _ _ h => h) (v := ?_) (by kernel_rfl) ?_ (by assumption) ?_; rotate_left; (focus (intro wS hSw; skip; go_simp; try with_reducible rfl)); (try simp only [Act.put, List.setIfInBounds_toArray, List.set_cons_zero, List.set_cons_succ]))
  refine wpAnyH_done (by kernel_rfl) ?_ _
  clear lgx g0 g1 g2 g3 g4 g5 g6 g7 g8 g9 g10 g11 g12
  have hGe := hid_ge HN
  replace HN := hid_now HN hHeld
  replace HOm := Lib.hid (HOm.out.low hHeld)
  replace HEm := Lib.hid (HEm.out.low hHeld)
  replace HPs := hid_now HPs hHeld
  replace HPt := hid_now HPt hHeld
  clear hHeld hGe
  obtain ⟨hi, hd⟩ := am_init HN0.out HLt.out HS.out Hinj.out HLs.out HLm.out HI.out (by have := HR.out; exact this) HPs.out HPt.out HOm.out HEm.out HN.out
  obtain ⟨P, hP⟩ : ∃ P : Nat → Nat, P = (fun k => π[k]!) := ⟨_, rfl⟩
  rw [← hP] at hi hd
  have HA := Lib.hid hi
  have HD := Lib.hid hd
  clear hi hd hP HN0 HLt HS Hinj HI HR HPs HPt HOm HEm Hgm HTC KDocs KSort KVic KCl KDx KL1 KL2 Hcs HXh HN B_gx B_gb
  go_wp2_with fail
  go_loopg [10] (n + 1) (fun gg iv wx => ∃ (i : Nat), i ≤ n ∧ gg = n + 1 - i ∧ iv = .int .i64 (i : Int) ∧ AmI w n E Fm Fs O Hs P slm sls slt i wx)
  case atStart => exact ⟨0, by omega, by omega, rfl, HA.out⟩
  case round =>
    clear HA
    obtain ⟨i, hi, hg, rfl, hA⟩ := hrel
    have Hg := Lib.hid hg
    have HA := Lib.hid hA
    clear hg hA
    by_cases hlt : i < n
    · obtain ⟨p, hp⟩ : ∃ p, p = P i := ⟨_, rfl⟩
      have hpn : p < n := by rw [hp]; exact HD.out.lt i hlt
      obtain ⟨ad, c1, e1⟩ := HLs.out p hpn
      obtain ⟨ad2, c2, e2⟩ := HLm.out p hpn
      obtain ⟨b1, o1, hs1, lb1, xc⟩ := HA.out.s i hlt
      obtain ⟨b2, o2, hs2, lb2, yc⟩ := HA.out.t i hlt
      dsimp only at xc yc
      rw [← hp] at xc yc
      have HXi := Lib.hid (show HoldsIn wr ad (E p).n (hv (O p) (E p).n) from fun h0 => by
        have h1 := (HA.out.sh i (Nat.le_refl _) hlt (by rw [← hp]; exact h0)).1
        have h2 := HD.out.ad i hlt (by rw [← hp]; exact h0)
        rw [← hp] at h1 h2
        rw [e1] at h2
        exact ⟨_, 0, h2, h1⟩)
      have HYi := Lib.hid (show HoldsIn wr ad2 (E p).n (hv (O p) (E p).n) from fun h0 => by
        have h1 := HA.out.mh p hpn h0
        rw [e2] at h1
        exact h1)
      have HAd := Lib.hid (show 0 < (E p).n → ad = some ⟨Hs p, 0, none⟩ from fun h0 => by
        have h2 := HD.out.ad i hlt (by rw [← hp]; exact h0)
        rw [← hp, e1] at h2; exact h2)
      have HHp := Lib.hid (Hh.out p hpn)
      have HSo := Lib.hid (fun h0 : 0 < (E p).n => by have h2 := HD.out.s i hlt (by rw [← hp]; exact h0); rw [← hp] at h2; exact h2 b1 o1 hs1)
      have x0 : wr.cell? ⟨b1, o1 + i * 13, none⟩ = some (.int .u8 (E p).r) := xc 0 _ (by rw [e1]; rfl)
      have x1 : wr.cell? ⟨b1, o1 + i * 13 + 1, none⟩ = some (.int .u32 (E p).a) := xc 1 _ (by rw [e1]; rfl)
      have x2 : wr.cell? ⟨b1, o1 + i * 13 + 2, none⟩ = some (.int .u16 (E p).p) := xc 2 _ (by rw [e1]; rfl)
      have x3 : wr.cell? ⟨b1, o1 + i * 13 + 3, none⟩ = some (.int .u32 (E p).b) := xc 3 _ (by rw [e1]; rfl)
      have x4 : wr.cell? ⟨b1, o1 + i * 13 + 4, none⟩ = some (.int .u16 (E p).q) := xc 4 _ (by rw [e1]; rfl)
      have x5 : wr.cell? ⟨b1, o1 + i * 13 + 5, none⟩ = some (.int .u8 (E p).r2) := xc 5 _ (by rw [e1]; rfl)
      have x6 : wr.cell? ⟨b1, o1 + i * 13 + 6, none⟩ = some (.int .u32 (E p).a2) := xc 6 _ (by rw [e1]; rfl)
      have x7 : wr.cell? ⟨b1, o1 + i * 13 + 7, none⟩ = some (.int .u16 (E p).p2) := xc 7 _ (by rw [e1]; rfl)
      have x8 : wr.cell? ⟨b1, o1 + i * 13 + 8, none⟩ = some (.int .u32 (E p).b2) := xc 8 _ (by rw [e1]; rfl)
      have x9 : wr.cell? ⟨b1, o1 + i * 13 + 9, none⟩ = some (.int .u16 (E p).q2) := xc 9 _ (by rw [e1]; rfl)
      have x10 : wr.cell? ⟨b1, o1 + i * 13 + 10, none⟩ = some (.int .i64 (E p).st) := xc 10 _ (by rw [e1]; rfl)
      have x11 : wr.cell? ⟨b1, o1 + i * 13 + 11, none⟩ = some (.int .i64 (E p).dl) := xc 11 _ (by rw [e1]; rfl)
      have x12 : wr.cell? ⟨b1, o1 + i * 13 + 12, none⟩ = some (.slice ad (E p).n c1) := xc 12 _ (by rw [e1]; rfl)
      have y0 : wr.cell? ⟨b2, o2 + i * 13, none⟩ = some (.int .u8 (E p).r) := yc 0 _ (by rw [e2]; rfl)
      have y1 : wr.cell? ⟨b2, o2 + i * 13 + 1, none⟩ = some (.int .u32 (E p).a) := yc 1 _ (by rw [e2]; rfl)
      have y2 : wr.cell? ⟨b2, o2 + i * 13 + 2, none⟩ = some (.int .u16 (E p).p) := yc 2 _ (by rw [e2]; rfl)
      have y3 : wr.cell? ⟨b2, o2 + i * 13 + 3, none⟩ = some (.int .u32 (E p).b) := yc 3 _ (by rw [e2]; rfl)
      have y4 : wr.cell? ⟨b2, o2 + i * 13 + 4, none⟩ = some (.int .u16 (E p).q) := yc 4 _ (by rw [e2]; rfl)
      have y5 : wr.cell? ⟨b2, o2 + i * 13 + 5, none⟩ = some (.int .u8 (E p).r2) := yc 5 _ (by rw [e2]; rfl)
      have y6 : wr.cell? ⟨b2, o2 + i * 13 + 6, none⟩ = some (.int .u32 (E p).a2) := yc 6 _ (by rw [e2]; rfl)
      have y7 : wr.cell? ⟨b2, o2 + i * 13 + 7, none⟩ = some (.int .u16 (E p).p2) := yc 7 _ (by rw [e2]; rfl)
      have y8 : wr.cell? ⟨b2, o2 + i * 13 + 8, none⟩ = some (.int .u32 (E p).b2) := yc 8 _ (by rw [e2]; rfl)
      have y9 : wr.cell? ⟨b2, o2 + i * 13 + 9, none⟩ = some (.int .u16 (E p).q2) := yc 9 _ (by rw [e2]; rfl)
      have y10 : wr.cell? ⟨b2, o2 + i * 13 + 10, none⟩ = some (.int .i64 (E p).st) := yc 10 _ (by rw [e2]; rfl)
      have y11 : wr.cell? ⟨b2, o2 + i * 13 + 11, none⟩ = some (.int .i64 (E p).dl) := yc 11 _ (by rw [e2]; rfl)
      have y12 : wr.cell? ⟨b2, o2 + i * 13 + 12, none⟩ = some (.slice ad2 (E p).n c2) := yc 12 _ (by rw [e2]; rfl)
      subst hs1 hs2
      have HPp := Lib.hid hp
      have LTi := Lib.hid hlt
      clear xc yc e1 e2 hp hpn
      have hkk : decide ((i : Int) < (n : Int)) = true := decide_eq_true (by omega)
      go_upto_region 10 with fail
      refine wp_region_held_drew (S := fun wx => NoW wr wx) (by kernel_rfl) (Fp.drew (Fp.refl _ _)) (fun hHeld0 => ?_)
      refine any_eq hHeld0 (fun v1 hW hHeld => ?_)
      clear hHeld0
      clear hW
      (refine take_at 0 (some 59) rfl rfl (by kernel_rfl) (by kernel_rfl) (by kernel_rfl) (fun _ _ _ h => h) (v := ?_) (by kernel_rfl) ?_ (by assumption) ?_; rotate_left; (focus (intro wS hSw; skip; go_simp; try with_reducible rfl)); (try simp only [Act.put, List.setIfInBounds_toArray, List.set_cons_zero, List.set_cons_succ]))
      (refine take_at 1 (some 60) rfl rfl (by kernel_rfl) (by kernel_rfl) (by kernel_rfl) (fun _ _ _ h => h) (v := ?_) (by kernel_rfl) ?_ (by assumption) ?_; rotate_left; (focus (intro wS hSw; skip; go_simp; try with_reducible rfl)); (try simp only [Act.put, List.setIfInBounds_toArray, List.set_cons_zero, List.set_cons_succ]))
      (refine take_at 2 (some 61) rfl rfl (by kernel_rfl) (by kernel_rfl) (by kernel_rfl) (fun _ _ _ h => h) (v := ?_) (by kernel_rfl) ?_ (by assumption) ?_; rotate_left; (focus (intro wS hSw; skip; go_simp; try with_reducible rfl)); (try simp only [Act.put, List.setIfInBounds_toArray, List.set_cons_zero, List.set_cons_succ]))
      (refine take_at 3 (some 62) rfl rfl (by kernel_rfl) (by kernel_rfl) (by kernel_rfl) (fun _ _ _ h => h) (v := ?_) (by kernel_rfl) ?_ (by assumption) ?_; rotate_left; (focus (intro wS hSw; (have q0 := (hSw.cell (p := ⟨b1, o1 + i * 13, none⟩) lb1 id).trans x0); (have q1 := (hSw.cell (p := ⟨b1, o1 + i * 13 + 1, none⟩) lb1 id).trans x1); (have q2 := (hSw.cell (p := ⟨b1, o1 + i * 13 + 2, none⟩) lb1 id).trans x2); (have q3 := (hSw.cell (p := ⟨b1, o1 + i * 13 + 3, none⟩) lb1 id).trans x3); (have q4 := (hSw.cell (p := ⟨b1, o1 + i * 13 + 4, none⟩) lb1 id).trans x4); (have q5 := (hSw.cell (p := ⟨b1, o1 + i * 13 + 5, none⟩) lb1 id).trans x5); (have q6 := (hSw.cell (p := ⟨b1, o1 + i * 13 + 6, none⟩) lb1 id).trans x6); (have q7 := (hSw.cell (p := ⟨b1, o1 + i * 13 + 7, none⟩) lb1 id).trans x7); (have q8 := (hSw.cell (p := ⟨b1, o1 + i * 13 + 8, none⟩) lb1 id).trans x8); (have q9 := (hSw.cell (p := ⟨b1, o1 + i * 13 + 9, none⟩) lb1 id).trans x9); (have q10 := (hSw.cell (p := ⟨b1, o1 + i * 13 + 10, none⟩) lb1 id).trans x10); (have q11 := (hSw.cell (p := ⟨b1, o1 + i * 13 + 11, none⟩) lb1 id).trans x11); (have q12 := (hSw.cell (p := ⟨b1, o1 + i * 13 + 12, none⟩) lb1 id).trans x12); go_simp; try with_reducible rfl)); (try simp only [Act.put, List.setIfInBounds_toArray, List.set_cons_zero, List.set_cons_succ]))
      (refine take_at 5 (some 64) rfl rfl (by kernel_rfl) (by kernel_rfl) (by kernel_rfl) (fun _ _ _ h => h) (v := ?_) (by kernel_rfl) ?_ (by assumption) ?_; rotate_left; (focus (intro wS hSw; skip; go_simp; try with_reducible rfl)); (try simp only [Act.put, List.setIfInBounds_toArray, List.set_cons_zero, List.set_cons_succ]))
      (refine take_at 6 (some 65) rfl rfl (by kernel_rfl) (by kernel_rfl) (by kernel_rfl) (fun _ _ _ h => h) (v := ?_) (by kernel_rfl) ?_ (by assumption) ?_; rotate_left; (focus (intro wS hSw; skip; go_simp; try with_reducible rfl)); (try simp only [Act.put, List.setIfInBounds_toArray, List.set_cons_zero, List.set_cons_succ]))
      (refine take_at 7 (some 66) rfl rfl (by kernel_rfl) (by kernel_rfl) (by kernel_rfl) (fun _ _ _ h => h) (v := ?_) (by kernel_rfl) ?_ (by assumption) ?_; rotate_left; (focus (intro wS hSw; skip; go_simp; try with_reducible rfl)); (try simp only [Act.put, List.setIfInBounds_toArray, List.set_cons_zero, List.set_cons_succ]))
      (refine take_at 8 (some 67) rfl rfl (by kernel_rfl) (by kernel_rfl) (by kernel_rfl) (fun _ _ _ h => h) (v := ?_) (by kernel_rfl) ?_ (by assumption) ?_; rotate_left; (focus (intro wS hSw; (have p0 := (hSw.cell (p := ⟨b2, o2 + i * 13, none⟩) lb2 id).trans y0); (have p1 := (hSw.cell (p := ⟨b2, o2 + i * 13 + 1, none⟩) lb2 id).trans y1); (have p2 := (hSw.cell (p := ⟨b2, o2 + i * 13 + 2, none⟩) lb2 id).trans y2); (have p3 := (hSw.cell (p := ⟨b2, o2 + i * 13 + 3, none⟩) lb2 id).trans y3); (have p4 := (hSw.cell (p := ⟨b2, o2 + i * 13 + 4, none⟩) lb2 id).trans y4); (have p5 := (hSw.cell (p := ⟨b2, o2 + i * 13 + 5, none⟩) lb2 id).trans y5); (have p6 := (hSw.cell (p := ⟨b2, o2 + i * 13 + 6, none⟩) lb2 id).trans y6); (have p7 := (hSw.cell (p := ⟨b2, o2 + i * 13 + 7, none⟩) lb2 id).trans y7); (have p8 := (hSw.cell (p := ⟨b2, o2 + i * 13 + 8, none⟩) lb2 id).trans y8); (have p9 := (hSw.cell (p := ⟨b2, o2 + i * 13 + 9, none⟩) lb2 id).trans y9); (have p10 := (hSw.cell (p := ⟨b2, o2 + i * 13 + 10, none⟩) lb2 id).trans y10); (have p11 := (hSw.cell (p := ⟨b2, o2 + i * 13 + 11, none⟩) lb2 id).trans y11); (have p12 := (hSw.cell (p := ⟨b2, o2 + i * 13 + 12, none⟩) lb2 id).trans y12); go_simp; try with_reducible rfl)); (try simp only [Act.put, List.setIfInBounds_toArray, List.set_cons_zero, List.set_cons_succ]))
      refine wpAnyH_ready (rs := [4]) (by kernel_rfl) (by simp) ?_
      refine AllReadyH.cons rfl (fun K hK => ?_) AllReadyH.nil
      go_simp
      go_at_call 13
      refine (show Calls _ _ _ _ _ from doc_new (E p).r (E p).a (E p).p (E p).b (E p).q (E p).r2 (E p).a2 (E p).p2 (E p).b2 (E p).q2 (E p).st (E p).dl ad (E p).n c1 (O p).1 (O p).2.1 (O p).2.2.1 (O p).2.2.2 HHp.out _ (HXi.out.low hHeld)).mono ?_
      rintro e v2 ⟨o', c', rfl, hncx, hnewx, hp⟩
      clear hncx
      have HNewx := Lib.hid hnewx
      clear hnewx
      have hn := Fp.trans hHeld hp (fun _ _ h => h.elim)
      refine k_now hK hn ?_
      clear hK K hp hHeld
      have hHeld := hn
      clear hn
      try simp only [Act.put, List.setIfInBounds_toArray, List.set_cons_zero, List.set_cons_succ]
      refine wpAnyH_ready (rs := [9]) (by kernel_rfl) (by simp) ?_
      refine AllReadyH.cons rfl (fun K hK => ?_) AllReadyH.nil
      go_simp
      go_at_call 14
      refine (show Calls _ _ _ _ _ from rsame_eq (E p) HHp.out (O p) o' c' ad2 c2 _ (fun h0 => (HNewx.out h0).elim fun hb hq => ⟨hb, 0, hq.1, hq.2.2⟩) (HYi.out.low hHeld)).mono ?_
      rintro e v3 ⟨rfl, hp⟩
      clear HNewx
      have hn := Fp.trans hHeld hp (fun _ _ h => h.elim)
      refine k_now hK hn ?_
      clear hK K hp hHeld
      have hHeld := hn
      clear hn
      try simp only [Act.put, List.setIfInBounds_toArray, List.set_cons_zero, List.set_cons_succ]
      (refine take_at 10 (some 69) rfl rfl (by kernel_rfl) (by kernel_rfl) (by kernel_rfl) (fun _ _ _ h => h) (v := ?_) (by kernel_rfl) ?_ (by assumption) ?_; rotate_left; (focus (intro wS hSw; skip; go_simp; try with_reducible rfl)); (try simp only [Act.put, List.setIfInBounds_toArray, List.set_cons_zero, List.set_cons_succ]))
      refine wpAnyH_done (by kernel_rfl) ?_ _
      have x12n := (hHeld.cell (p := ⟨b1, o1 + i * 13 + 12, none⟩) lb1 id).trans x12
      have lb1n := Nat.lt_of_lt_of_le lb1 hHeld.size
      clear x0 y0 x1 y1 x2 y2 x3 y3 x4 y4 x5 y5 x6 y6 x7 y7 x8 y8 x9 y9 x10 y10 x11 y11 x12 y12 lb1 lb2
      replace HA := Lib.hid (HA.out.low hHeld)
      have X12 := Lib.hid x12n
      have LB1 := Lib.hid lb1n
      clear x12n lb1n hHeld HXi HYi
      go_wp2_with fail
      have HZ := Lib.hid (show (0 < (E p).n → Frz v3 (Hs p)) ∧ ∀ j, j < (E p).n → v3.cell? ⟨Hs p, j * 4 + 1, none⟩ = some (.int .u16 ((O p).2.1 j)) from by
        constructor
        · intro h0
          have h1 := (HA.out.sh i (Nat.le_refl _) LTi.out (by rw [← HPp.out]; exact h0)).2
          rw [← HPp.out] at h1; exact h1
        · intro j hj
          have h1 := (HA.out.sh i (Nat.le_refl _) LTi.out (by rw [← HPp.out]; omega)).1
          rw [← HPp.out] at h1
          have h2 := h1.cell (j * 4 + 1) _ (holdsV_get (O p).1 (O p).2.1 (O p).2.2.1 (O p).2.2.2 (E p).n j 1 hj (by omega))
          simpa using h2)
      go_loopg [11] ((E p).n + 1) (fun gg kv wx => ∃ (k : Nat), k ≤ (E p).n ∧ gg = (E p).n + 1 - k ∧ kv = .int .i64 (k : Int) ∧ Fp (fun b => 0 < (E p).n ∧ b = Hs p) v3 wx ∧ (0 < (E p).n → Frz wx (Hs p)) ∧ ∀ j, k ≤ j → j < (E p).n → wx.cell? ⟨Hs p, j * 4 + 1, none⟩ = some (.int .u16 ((O p).2.1 j)))
      case atStart => exact ⟨0, by omega, by omega, rfl, Fp.refl _ _, HZ.out.1, fun j _ hj => HZ.out.2 j hj⟩
      case round =>
        clear HZ
        obtain ⟨k, hk, hg2, rfl, hf, hz, hc⟩ := hrel
        have Hg2 := Lib.hid hg2
        have HF := Lib.hid hf
        have HZ := Lib.hid hz
        have HC := Lib.hid hc
        clear hg2 hf hz hc
        have x12 : _ = some (Value.slice ad (E p).n c1) := (HF.out.cell (p := ⟨b1, o1 + i * 13 + 12, none⟩) LB1.out (fun hs => HSo.out hs.1 hs.2)).trans X12.out
        have lb1 := cell_lt x12
        dsimp only at lb1
        have bn : (E p).n ≤ 100 := HHp.out
        by_cases hlk : k < (E p).n
        · obtain rfl := HAd.out (by omega)
          have c1k := HC.out k (Nat.le_refl _) hlk
          have lh := cell_lt c1k
          dsimp only at lh
          have z1k := HZ.out (by omega) (k * 4 + 1)
          have pk : decide ((k : Int) < ((E p).n : Int)) = true := decide_eq_true (by omega)
          have ck : (k : Int) < ((E p).n : Int) := by omega
          go_wp2_with fail
          go_roundg ((E p).n - k)
          case measure => have := Hg2.out; omega
          case rel =>
            refine ⟨k + 1, by omega, by omega, by go_num, Fp.setCell HF.out (p := ⟨Hs p, k * 4 + 1, none⟩) (Or.inr ⟨by omega, rfl⟩) _, fun h0 o => ?_, fun j h1 h2 => ?_⟩
            · rw [World.frozen?_setCell]; exact HZ.out h0 o
            · rw [World.cell?_setCell_other _ _ _ _ (fun e => by have e2 := congrArg Addr.off e; dsimp only at e2; omega)]; exact HC.out j (by omega) h2
        · obtain rfl : k = (E p).n := by omega
          have pk : decide (((E p).n : Int) < ((E p).n : Int)) = false := decide_eq_false (by omega)
          have hst := HA.out.step HD.out LTi.out (w' := wr) (by rw [← HPp.out]; exact HF.out)
          have Hst := Lib.hid hst
          clear hst
          go_wp2_with fail
          go_roundg (n - i)
          case measure => have := Hg.out; omega
          case rel => exact ⟨i + 1, by omega, by omega, by go_num, Hst.out⟩
    · obtain rfl : i = n := by omega
      have pk : decide ((i : Int) < (i : Int)) = false := decide_eq_false (by omega)
      go_wp2_with fail
      go_loopg [12] (i + 1) (fun gg kv wx => ∃ (k : Nat), k ≤ i ∧ gg = i + 1 - k ∧ kv = .int .i64 (k : Int) ∧ AmI w i E Fm Fs O Hs P slm sls slt i wx)
      case atStart => exact ⟨0, by omega, by omega, rfl, HA.out⟩
      case round =>
        clear HA
        obtain ⟨k, hk, hg2, rfl, hA⟩ := hrel
        have Hg2 := Lib.hid hg2
        have HA := Lib.hid hA
        clear hg2 hA
        by_cases hlk : k < i
        · obtain ⟨n, hn⟩ : ∃ n, n = i := ⟨_, rfl⟩
          obtain ⟨p, hp⟩ : ∃ p, p = k := ⟨_, rfl⟩
          have e3 := HLm.out p (by omega)
          obtain ⟨ad2, c2, e2⟩ := e3
          obtain ⟨b1, o1, hs1, xc⟩ := (HE.out.low HA.out.now).at' p (by omega)
          obtain ⟨b2, o2, hs2, lb2, yc⟩ := HA.out.m p (by omega)
          have lb1 : b1 < wr.heap.size := by have h1 := cell_lt (xc 0 _ rfl); exact h1
          have HXi := Lib.hid (show HoldsIn wr (E p).ad (E p).n (hv (O p) (E p).n) from (HHo.out p (by omega)).low HA.out.now)
          have HYi := Lib.hid (show HoldsIn wr ad2 (E p).n (hv (O p) (E p).n) from fun h0 => by
            have h1 := HA.out.mh p (by omega) h0
            rw [e2] at h1
            exact h1)
          have HHp := Lib.hid (Hh.out p (by omega))
          subst hn
          have x0 : wr.cell? ⟨b1, o1 + p * 13, none⟩ = some (.int .u8 (E p).r) := xc 0 _ rfl
          have x1 : wr.cell? ⟨b1, o1 + p * 13 + 1, none⟩ = some (.int .u32 (E p).a) := xc 1 _ rfl
          have x2 : wr.cell? ⟨b1, o1 + p * 13 + 2, none⟩ = some (.int .u16 (E p).p) := xc 2 _ rfl
          have x3 : wr.cell? ⟨b1, o1 + p * 13 + 3, none⟩ = some (.int .u32 (E p).b) := xc 3 _ rfl
          have x4 : wr.cell? ⟨b1, o1 + p * 13 + 4, none⟩ = some (.int .u16 (E p).q) := xc 4 _ rfl
          have x5 : wr.cell? ⟨b1, o1 + p * 13 + 5, none⟩ = some (.int .u8 (E p).r2) := xc 5 _ rfl
          have x6 : wr.cell? ⟨b1, o1 + p * 13 + 6, none⟩ = some (.int .u32 (E p).a2) := xc 6 _ rfl
          have x7 : wr.cell? ⟨b1, o1 + p * 13 + 7, none⟩ = some (.int .u16 (E p).p2) := xc 7 _ rfl
          have x8 : wr.cell? ⟨b1, o1 + p * 13 + 8, none⟩ = some (.int .u32 (E p).b2) := xc 8 _ rfl
          have x9 : wr.cell? ⟨b1, o1 + p * 13 + 9, none⟩ = some (.int .u16 (E p).q2) := xc 9 _ rfl
          have x10 : wr.cell? ⟨b1, o1 + p * 13 + 10, none⟩ = some (.int .i64 (E p).st) := xc 10 _ rfl
          have x11 : wr.cell? ⟨b1, o1 + p * 13 + 11, none⟩ = some (.int .i64 (E p).dl) := xc 11 _ rfl
          have x12 : wr.cell? ⟨b1, o1 + p * 13 + 12, none⟩ = some (.slice (E p).ad (E p).n (E p).c) := xc 12 _ rfl
          have y0 : wr.cell? ⟨b2, o2 + p * 13, none⟩ = some (.int .u8 (E p).r) := yc 0 _ (by rw [e2]; rfl)
          have y1 : wr.cell? ⟨b2, o2 + p * 13 + 1, none⟩ = some (.int .u32 (E p).a) := yc 1 _ (by rw [e2]; rfl)
          have y2 : wr.cell? ⟨b2, o2 + p * 13 + 2, none⟩ = some (.int .u16 (E p).p) := yc 2 _ (by rw [e2]; rfl)
          have y3 : wr.cell? ⟨b2, o2 + p * 13 + 3, none⟩ = some (.int .u32 (E p).b) := yc 3 _ (by rw [e2]; rfl)
          have y4 : wr.cell? ⟨b2, o2 + p * 13 + 4, none⟩ = some (.int .u16 (E p).q) := yc 4 _ (by rw [e2]; rfl)
          have y5 : wr.cell? ⟨b2, o2 + p * 13 + 5, none⟩ = some (.int .u8 (E p).r2) := yc 5 _ (by rw [e2]; rfl)
          have y6 : wr.cell? ⟨b2, o2 + p * 13 + 6, none⟩ = some (.int .u32 (E p).a2) := yc 6 _ (by rw [e2]; rfl)
          have y7 : wr.cell? ⟨b2, o2 + p * 13 + 7, none⟩ = some (.int .u16 (E p).p2) := yc 7 _ (by rw [e2]; rfl)
          have y8 : wr.cell? ⟨b2, o2 + p * 13 + 8, none⟩ = some (.int .u32 (E p).b2) := yc 8 _ (by rw [e2]; rfl)
          have y9 : wr.cell? ⟨b2, o2 + p * 13 + 9, none⟩ = some (.int .u16 (E p).q2) := yc 9 _ (by rw [e2]; rfl)
          have y10 : wr.cell? ⟨b2, o2 + p * 13 + 10, none⟩ = some (.int .i64 (E p).st) := yc 10 _ (by rw [e2]; rfl)
          have y11 : wr.cell? ⟨b2, o2 + p * 13 + 11, none⟩ = some (.int .i64 (E p).dl) := yc 11 _ (by rw [e2]; rfl)
          have y12 : wr.cell? ⟨b2, o2 + p * 13 + 12, none⟩ = some (.slice ad2 (E p).n c2) := yc 12 _ (by rw [e2]; rfl)
          subst hs1 hs2
          obtain rfl : p = k := hp
          clear xc yc e2
          have pk : decide ((p : Int) < (n : Int)) = true := decide_eq_true (by omega)
          have ck : (p : Int) < (n : Int) := by omega
          go_upto_region 19 with fail
          refine wp_region_held_drew (S := fun wx => NoW wr wx) (by kernel_rfl) (Fp.drew (Fp.refl _ _)) (fun hHeld0 => ?_)
          refine any_eq hHeld0 (fun u1 hW hHeld => ?_)
          clear hHeld0
          clear hW
          (refine take_at 0 (some 100) rfl rfl (by kernel_rfl) (by kernel_rfl) (by kernel_rfl) (fun _ _ _ h => h) (v := ?_) (by kernel_rfl) ?_ (by assumption) ?_; rotate_left; (focus (intro wS hSw; skip; go_simp; try with_reducible rfl)); (try simp only [Act.put, List.setIfInBounds_toArray, List.set_cons_zero, List.set_cons_succ]))
          (refine take_at 1 (some 101) rfl rfl (by kernel_rfl) (by kernel_rfl) (by kernel_rfl) (fun _ _ _ h => h) (v := ?_) (by kernel_rfl) ?_ (by assumption) ?_; rotate_left; (focus (intro wS hSw; skip; go_simp; try with_reducible rfl)); (try simp only [Act.put, List.setIfInBounds_toArray, List.set_cons_zero, List.set_cons_succ]))
          (refine take_at 2 (some 102) rfl rfl (by kernel_rfl) (by kernel_rfl) (by kernel_rfl) (fun _ _ _ h => h) (v := ?_) (by kernel_rfl) ?_ (by assumption) ?_; rotate_left; (focus (intro wS hSw; skip; go_simp; try with_reducible rfl)); (try simp only [Act.put, List.setIfInBounds_toArray, List.set_cons_zero, List.set_cons_succ]))
          (refine take_at 3 (some 103) rfl rfl (by kernel_rfl) (by kernel_rfl) (by kernel_rfl) (fun _ _ _ h => h) (v := ?_) (by kernel_rfl) ?_ (by assumption) ?_; rotate_left; (focus (intro wS hSw; (have q0 := (hSw.cell (p := ⟨b1, o1 + p * 13, none⟩) lb1 id).trans x0); (have q1 := (hSw.cell (p := ⟨b1, o1 + p * 13 + 1, none⟩) lb1 id).trans x1); (have q2 := (hSw.cell (p := ⟨b1, o1 + p * 13 + 2, none⟩) lb1 id).trans x2); (have q3 := (hSw.cell (p := ⟨b1, o1 + p * 13 + 3, none⟩) lb1 id).trans x3); (have q4 := (hSw.cell (p := ⟨b1, o1 + p * 13 + 4, none⟩) lb1 id).trans x4); (have q5 := (hSw.cell (p := ⟨b1, o1 + p * 13 + 5, none⟩) lb1 id).trans x5); (have q6 := (hSw.cell (p := ⟨b1, o1 + p * 13 + 6, none⟩) lb1 id).trans x6); (have q7 := (hSw.cell (p := ⟨b1, o1 + p * 13 + 7, none⟩) lb1 id).trans x7); (have q8 := (hSw.cell (p := ⟨b1, o1 + p * 13 + 8, none⟩) lb1 id).trans x8); (have q9 := (hSw.cell (p := ⟨b1, o1 + p * 13 + 9, none⟩) lb1 id).trans x9); (have q10 := (hSw.cell (p := ⟨b1, o1 + p * 13 + 10, none⟩) lb1 id).trans x10); (have q11 := (hSw.cell (p := ⟨b1, o1 + p * 13 + 11, none⟩) lb1 id).trans x11); (have q12 := (hSw.cell (p := ⟨b1, o1 + p * 13 + 12, none⟩) lb1 id).trans x12); go_simp; try with_reducible rfl)); (try simp only [Act.put, List.setIfInBounds_toArray, List.set_cons_zero, List.set_cons_succ]))
          (refine take_at 5 (some 105) rfl rfl (by kernel_rfl) (by kernel_rfl) (by kernel_rfl) (fun _ _ _ h => h) (v := ?_) (by kernel_rfl) ?_ (by assumption) ?_; rotate_left; (focus (intro wS hSw; skip; go_simp; try with_reducible rfl)); (try simp only [Act.put, List.setIfInBounds_toArray, List.set_cons_zero, List.set_cons_succ]))
          (refine take_at 6 (some 106) rfl rfl (by kernel_rfl) (by kernel_rfl) (by kernel_rfl) (fun _ _ _ h => h) (v := ?_) (by kernel_rfl) ?_ (by assumption) ?_; rotate_left; (focus (intro wS hSw; skip; go_simp; try with_reducible rfl)); (try simp only [Act.put, List.setIfInBounds_toArray, List.set_cons_zero, List.set_cons_succ]))
          (refine take_at 7 (some 107) rfl rfl (by kernel_rfl) (by kernel_rfl) (by kernel_rfl) (fun _ _ _ h => h) (v := ?_) (by kernel_rfl) ?_ (by assumption) ?_; rotate_left; (focus (intro wS hSw; skip; go_simp; try with_reducible rfl)); (try simp only [Act.put, List.setIfInBounds_toArray, List.set_cons_zero, List.set_cons_succ]))
          (refine take_at 8 (some 108) rfl rfl (by kernel_rfl) (by kernel_rfl) (by kernel_rfl) (fun _ _ _ h => h) (v := ?_) (by kernel_rfl) ?_ (by assumption) ?_; rotate_left; (focus (intro wS hSw; (have p0 := (hSw.cell (p := ⟨b2, o2 + p * 13, none⟩) lb2 id).trans y0); (have p1 := (hSw.cell (p := ⟨b2, o2 + p * 13 + 1, none⟩) lb2 id).trans y1); (have p2 := (hSw.cell (p := ⟨b2, o2 + p * 13 + 2, none⟩) lb2 id).trans y2); (have p3 := (hSw.cell (p := ⟨b2, o2 + p * 13 + 3, none⟩) lb2 id).trans y3); (have p4 := (hSw.cell (p := ⟨b2, o2 + p * 13 + 4, none⟩) lb2 id).trans y4); (have p5 := (hSw.cell (p := ⟨b2, o2 + p * 13 + 5, none⟩) lb2 id).trans y5); (have p6 := (hSw.cell (p := ⟨b2, o2 + p * 13 + 6, none⟩) lb2 id).trans y6); (have p7 := (hSw.cell (p := ⟨b2, o2 + p * 13 + 7, none⟩) lb2 id).trans y7); (have p8 := (hSw.cell (p := ⟨b2, o2 + p * 13 + 8, none⟩) lb2 id).trans y8); (have p9 := (hSw.cell (p := ⟨b2, o2 + p * 13 + 9, none⟩) lb2 id).trans y9); (have p10 := (hSw.cell (p := ⟨b2, o2 + p * 13 + 10, none⟩) lb2 id).trans y10); (have p11 := (hSw.cell (p := ⟨b2, o2 + p * 13 + 11, none⟩) lb2 id).trans y11); (have p12 := (hSw.cell (p := ⟨b2, o2 + p * 13 + 12, none⟩) lb2 id).trans y12); go_simp; try with_reducible rfl)); (try simp only [Act.put, List.setIfInBounds_toArray, List.set_cons_zero, List.set_cons_succ]))
          refine wpAnyH_ready (rs := [4]) (by kernel_rfl) (by simp) ?_
          refine AllReadyH.cons rfl (fun K hK => ?_) AllReadyH.nil
          go_simp
          go_at_call 13
          refine (show Calls _ _ _ _ _ from doc_new (E p).r (E p).a (E p).p (E p).b (E p).q (E p).r2 (E p).a2 (E p).p2 (E p).b2 (E p).q2 (E p).st (E p).dl (E p).ad (E p).n (E p).c (O p).1 (O p).2.1 (O p).2.2.1 (O p).2.2.2 HHp.out _ (HXi.out.low hHeld)).mono ?_
          rintro e u2 ⟨o', c', rfl, hncx, hnewx, hp⟩
          clear hncx
          have HNewx := Lib.hid hnewx
          clear hnewx
          have hn := Fp.trans hHeld hp (fun _ _ h => h.elim)
          refine k_now hK hn ?_
          clear hK K hp hHeld
          have hHeld := hn
          clear hn
          try simp only [Act.put, List.setIfInBounds_toArray, List.set_cons_zero, List.set_cons_succ]
          refine wpAnyH_ready (rs := [9]) (by kernel_rfl) (by simp) ?_
          refine AllReadyH.cons rfl (fun K hK => ?_) AllReadyH.nil
          go_simp
          go_at_call 14
          refine (show Calls _ _ _ _ _ from rsame_eq (E p) HHp.out (O p) o' c' ad2 c2 _ (fun h0 => (HNewx.out h0).elim fun hb hq => ⟨hb, 0, hq.1, hq.2.2⟩) (HYi.out.low hHeld)).mono ?_
          rintro e u3 ⟨rfl, hp⟩
          clear HNewx
          have hn := Fp.trans hHeld hp (fun _ _ h => h.elim)
          refine k_now hK hn ?_
          clear hK K hp hHeld
          have hHeld := hn
          clear hn
          try simp only [Act.put, List.setIfInBounds_toArray, List.set_cons_zero, List.set_cons_succ]
          (refine take_at 10 (some 110) rfl rfl (by kernel_rfl) (by kernel_rfl) (by kernel_rfl) (fun _ _ _ h => h) (v := ?_) (by kernel_rfl) ?_ (by assumption) ?_; rotate_left; (focus (intro wS hSw; skip; go_simp; try with_reducible rfl)); (try simp only [Act.put, List.setIfInBounds_toArray, List.set_cons_zero, List.set_cons_succ]))
          refine wpAnyH_done (by kernel_rfl) ?_ _
          clear x0 y0 x1 y1 x2 y2 x3 y3 x4 y4 x5 y5 x6 y6 x7 y7 x8 y8 x9 y9 x10 y10 x11 y11 x12 y12 lb1 lb2
          replace HA := Lib.hid (HA.out.low hHeld)
          clear hHeld HXi HYi
          go_wp2_with fail
          go_roundg (n - p)
          case measure => have := Hg2.out; omega
          case rel => exact ⟨p + 1, by omega, by omega, by go_num, HA.out⟩
        · obtain rfl : k = i := by omega
          have pk : decide ((k : Int) < (k : Int)) = false := decide_eq_false (by omega)
          go_wp2_with fail
          refine (KP.out _ (HT.out.low HA.out.now)).mono ?_
          rintro e xz ⟨rfl, hp⟩
          replace HA := Lib.hid (HA.out.low hp)
          clear hp
          go_wp2_with fail
          go_ret
          exact ⟨rfl, HA.out.now⟩
end Go.Proofs.YtaiimkcmgiceeaaDoor
