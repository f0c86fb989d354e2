/- Texts of this proof, merged: AuE AuF. -/
import Derived.Test.YtcimbbllefkdlaaGreatDoorMak
import Derived.Test.YtcimbbllefkdlaaGreatDoorMaa
import Derived.Test.YtcimbbllefkdlaaGreatDoorMab
import Derived.Test.YtcimbbllefkdlaaGreatDoorMac
import Derived.Test.YtcimbbllefkdlaaGreatDoorMad
import Derived.Test.YtcimbbllefkdlaaGreatDoorMae
import Derived.Test.YtcimbbllefkdlaaGreatDoorMaf
import Derived.Test.YtcimbbllefkdlaaGreatDoorMag
import Derived.Test.YtcimbbllefkdlaaGreatDoorMah
import Derived.Test.YtcimbbllefkdlaaGreatDoorMai
import Derived.Test.YtcimbbllefkdlaaGreatDoorMaj
namespace Go.Proofs.YtcimbbllefkdlaaGreatDoor
set_option linter.unusedVariables false
set_option linter.unusedSimpArgs false
open Go.RowKit Go.Lib Go.Sort
set_option maxHeartbeats 8000000 in
set_option maxRecDepth 100000 in
theorem side_f (v : VD) (sa ca pa qa : Option Addr) (sc cc pc qc : Nat) (g : Nat) (fs : List (Int × Int)) (i gn : Nat) (hi : i < v.ns) (w0 w : World) (hS : AtC w0 sa v.ns 16 (fun i => (v.S i).cs)) (h : AuLk w0 w g [.int .i64 v.now, .slice sa v.ns sc, .slice ca v.nc cc, .slice pa v.np pc, .slice qa v.nq qc, .int .i64 v.free, .int .i64 v.live, .int .i64 v.gone] fs) :
    Calls Tryz.prog 42 #[.pointer (some ⟨g, 0, none⟩), .agg #[.int .i64 (i : Int), .int .u32 gn, .bool false]] w (Ret1 (.agg #[.int .u8 (v.S i).e.r, .int .u32 (v.S i).e.a, .int .u16 (v.S i).e.p, .int .u32 (v.S i).e.b, .int .u16 (v.S i).e.q]) w) := by
  have HL := Lib.hid h
  have HS := Lib.hid hS
  clear h hS
  have HGg := Lib.hid HL.out.lt
  have HLb := Lib.hid (show ∀ b o, sa = some ⟨b, o, none⟩ → b < w.heap.size from fun b o e => by obtain ⟨b', o', e', hl, _⟩ := (HS.out.low HL.out.low) i hi; rw [e'] at e; injection e with e; injection e with e; omega)
  go_enter Tryz.func42, Tryz.ntmps42
  have HN := Lib.hid (Fp.refl (fun _ => False) w)
  go_upto_region 1 with fail
  refine wp_gen (fun z1 hW => ?_)
  obtain ⟨hB, hB2, hp⟩ := new2_blk hW
  clear hW
  have hGe := hid_ge HN
  replace HN := hid_now HN hp
  replace HL := Lib.hid (HL.out.step hp)
  obtain ⟨r, hr⟩ : ∃ r, r = w.heap.size + 1 := ⟨_, rfl⟩
  obtain ⟨x, hx⟩ : ∃ x, x = w.heap.size := ⟨_, rfl⟩
  have G_x := Lib.hid (show w.heap.size ≤ x by omega)
  have G_r := Lib.hid (show w.heap.size ≤ r by omega)
  have n_x_r : ¬ x = r := by omega
  have n_r_x : ¬ r = x := by omega
  rw [← hr] at hB2 ⊢
  rw [← hx] at hB ⊢
  have B_x := hB
  have B_r := hB2
  clear hB hB2 hx hr hGe hp
  have cx0 := cell_at B_x 0 rfl
  have cx1 := cell_at B_x 1 rfl
  have cx2 := cell_at B_x 2 rfl
  have zx := froz_at B_x
  have lx := hid_lt B_x
  go_upto_region 3 with fail
  clear cx0 cx1 cx2 zx lx
  obtain ⟨b1, o1, hs, lb, xc⟩ := (HS.out.low HL.out.low) i hi
  subst hs
  have x3 : z1.cell? ⟨b1, o1 + i * 16 + 3, none⟩ = some (.int .u8 (v.S i).e.r) := xc 3 _ rfl
  have x4 : z1.cell? ⟨b1, o1 + i * 16 + 4, none⟩ = some (.int .u32 (v.S i).e.a) := xc 4 _ rfl
  have x5 : z1.cell? ⟨b1, o1 + i * 16 + 5, none⟩ = some (.int .u16 (v.S i).e.p) := xc 5 _ rfl
  have x6 : z1.cell? ⟨b1, o1 + i * 16 + 6, none⟩ = some (.int .u32 (v.S i).e.b) := xc 6 _ rfl
  have x7 : z1.cell? ⟨b1, o1 + i * 16 + 7, none⟩ = some (.int .u16 (v.S i).e.q) := xc 7 _ rfl
  clear xc
  have cg1 := HL.out.cell 1 rfl
  have lg := HL.out.lt
  have cx0 := cell_at B_x 0 rfl
  have lx := hid_lt B_x
  have ci : (i : Int) < (v.ns : Int) := by omega
  have n_g_r : ¬ g = r := by have h1 := hid_lt B_r; have h2 := HGg.out; have h3 := G_r.out; omega
  have n_b_r : ¬ b1 = r := by have h3 := G_r.out; have h4 := HLb.out b1 o1 rfl; omega
  refine wp_region_held_drew (S := fun wx => Fp (fun b => b = r) z1 wx) (by kernel_rfl) (Fp.drew (Fp.refl _ _)) (fun hHeld0 => ?_)
  refine any_eq hHeld0 (fun z2 hW hHeld => ?_)
  clear hHeld0
  replace B_x := hid_blk B_x (noW_drew hW)
  replace B_r := hid_blk B_r (noW_drew hW)
  clear hW
  (refine tk 0 (some 19) ?_ ?_ ?_; rotate_left; (focus (intro wS hSw; go_simp; try with_reducible rfl)); (try simp only [Act.put, List.setIfInBounds_toArray, List.set_cons_zero, List.set_cons_succ]))
  (refine tk 1 (some 20) ?_ ?_ ?_; rotate_left; (focus (intro wS hSw; go_simp; try with_reducible rfl)); (try simp only [Act.put, List.setIfInBounds_toArray, List.set_cons_zero, List.set_cons_succ]))
  (refine tk 2 (some 21) ?_ ?_ ?_; rotate_left; (focus (intro wS hSw; go_simp; try with_reducible rfl)); (try simp only [Act.put, List.setIfInBounds_toArray, List.set_cons_zero, List.set_cons_succ]))
  (refine tk 3 (some 22) ?_ ?_ ?_; rotate_left; (focus (intro wS hSw; go_simp; try with_reducible rfl)); (try simp only [Act.put, List.setIfInBounds_toArray, List.set_cons_zero, List.set_cons_succ]))
  (refine tk 4 (some 23) ?_ ?_ ?_; rotate_left; (focus (intro wS hSw; (have q1 := (hSw.cell (p := ⟨g, 1, none⟩) lg n_g_r).trans cg1); go_simp; try with_reducible rfl)); (try simp only [Act.put, List.setIfInBounds_toArray, List.set_cons_zero, List.set_cons_succ]))
  (refine tk 5 (some 24) ?_ ?_ ?_; rotate_left; (focus (intro wS hSw; go_simp; try with_reducible rfl)); (try simp only [Act.put, List.setIfInBounds_toArray, List.set_cons_zero, List.set_cons_succ]))
  (refine tk 6 (some 25) ?_ ?_ ?_; rotate_left; (focus (intro wS hSw; go_simp; try with_reducible rfl)); (try simp only [Act.put, List.setIfInBounds_toArray, List.set_cons_zero, List.set_cons_succ]))
  (refine tk 7 (some 26) ?_ ?_ ?_; rotate_left; (focus (intro wS hSw; (have p0 := (hSw.cell (p := ⟨x, 0, none⟩) lx n_x_r).trans cx0); go_simp; try with_reducible rfl)); (try simp only [Act.put, List.setIfInBounds_toArray, List.set_cons_zero, List.set_cons_succ]))
  (refine tk 8 (some 27) ?_ ?_ ?_; rotate_left; (focus (intro wS hSw; go_simp; try with_reducible rfl)); (try simp only [Act.put, List.setIfInBounds_toArray, List.set_cons_zero, List.set_cons_succ]))
  (refine tk 9 (some 28) ?_ ?_ ?_; rotate_left; (focus (intro wS hSw; go_simp; try with_reducible rfl)); (try simp only [Act.put, List.setIfInBounds_toArray, List.set_cons_zero, List.set_cons_succ]))
  (refine tk 10 (some 29) ?_ ?_ ?_; rotate_left; (focus (intro wS hSw; go_simp; try with_reducible rfl)); (try simp only [Act.put, List.setIfInBounds_toArray, List.set_cons_zero, List.set_cons_succ]))
  (refine tk 11 (some 30) ?_ ?_ ?_; rotate_left; (focus (intro wS hSw; (have q3 := (hSw.cell (p := ⟨b1, o1 + i * 16 + 3, none⟩) lb n_b_r).trans x3); (have q4 := (hSw.cell (p := ⟨b1, o1 + i * 16 + 4, none⟩) lb n_b_r).trans x4); (have q5 := (hSw.cell (p := ⟨b1, o1 + i * 16 + 5, none⟩) lb n_b_r).trans x5); (have q6 := (hSw.cell (p := ⟨b1, o1 + i * 16 + 6, none⟩) lb n_b_r).trans x6); (have q7 := (hSw.cell (p := ⟨b1, o1 + i * 16 + 7, none⟩) lb n_b_r).trans x7); go_simp; try with_reducible rfl)); (try simp only [Act.put, List.setIfInBounds_toArray, List.set_cons_zero, List.set_cons_succ]))
  refine wpAnyH_ready (rs := [12]) (by kernel_rfl) (by simp) ?_
  refine AllReadyH.cons rfl (fun K hK => ?_) AllReadyH.nil
  have cr0 := cell_at B_r 0 rfl
  have cr1 := cell_at B_r 1 rfl
  have cr2 := cell_at B_r 2 rfl
  have cr3 := cell_at B_r 3 rfl
  have cr4 := cell_at B_r 4 rfl
  have zr := froz_at B_r
  have lr := hid_lt B_r
  go_simp
  refine k_gen hK (fun z3 hW => ?_)
  obtain ⟨hB, hf⟩ := setE5 hW B_r
  clear hW zr lr cr0 cr1 cr2 cr3 cr4
  have hn := Fp.trans hHeld hf (fun i _ e => e)
  refine ⟨hn, ?_⟩
  clear hK K hHeld
  have hHeld := hn
  clear hn
  try simp only [Act.put, List.setIfInBounds_toArray, List.set_cons_zero, List.set_cons_succ]
  replace B_x := hid_blkS B_x hf n_x_r
  replace B_r := hB
  clear hB hf
  refine wpAnyH_done (by kernel_rfl) ?_ _
  clear cg1 lg cx0 lx lb n_g_r n_b_r x3 x4 x5 x6 x7
  have hGe := hid_ge HN
  replace HN := hid_own HN hHeld (fun i hi e => by have h1 : i = r := e; have h2 := G_r.out; omega)
  clear HL
  clear hHeld hGe
  go_wp2_with fail
  have cr0 := cell_at B_r 0 rfl
  have cr1 := cell_at B_r 1 rfl
  have cr2 := cell_at B_r 2 rfl
  have cr3 := cell_at B_r 3 rfl
  have cr4 := cell_at B_r 4 rfl
  have zr := froz_at B_r
  have lr := hid_lt B_r
  refine bodyPost_ret (v := .agg #[.int .u8 (v.S i).e.r, .int .u32 (v.S i).e.a, .int .u16 (v.S i).e.p, .int .u32 (v.S i).e.b, .int .u16 (v.S i).e.q]) (by simp only [results, Tryz.results42]; go_simp) rfl ⟨rfl, HN.out⟩
set_option maxHeartbeats 8000000 in
set_option maxRecDepth 100000 in
theorem side_t (v : VD) (sa ca pa qa : Option Addr) (sc cc pc qc : Nat) (g : Nat) (fs : List (Int × Int)) (i gn : Nat) (hi : i < v.ns) (w0 w : World) (hS : AtC w0 sa v.ns 16 (fun i => (v.S i).cs)) (h : AuLk w0 w g [.int .i64 v.now, .slice sa v.ns sc, .slice ca v.nc cc, .slice pa v.np pc, .slice qa v.nq qc, .int .i64 v.free, .int .i64 v.live, .int .i64 v.gone] fs) :
    Calls Tryz.prog 42 #[.pointer (some ⟨g, 0, none⟩), .agg #[.int .i64 (i : Int), .int .u32 gn, .bool true]] w (Ret1 (.agg #[.int .u8 (v.S i).e.r2, .int .u32 (v.S i).e.a2, .int .u16 (v.S i).e.p2, .int .u32 (v.S i).e.b2, .int .u16 (v.S i).e.q2]) w) := by
  have HL := Lib.hid h
  have HS := Lib.hid hS
  clear h hS
  have HGg := Lib.hid HL.out.lt
  have HLb := Lib.hid (show ∀ b o, sa = some ⟨b, o, none⟩ → b < w.heap.size from fun b o e => by obtain ⟨b', o', e', hl, _⟩ := (HS.out.low HL.out.low) i hi; rw [e'] at e; injection e with e; injection e with e; omega)
  go_enter Tryz.func42, Tryz.ntmps42
  have HN := Lib.hid (Fp.refl (fun _ => False) w)
  go_upto_region 1 with fail
  refine wp_gen (fun z1 hW => ?_)
  obtain ⟨hB, hB2, hp⟩ := new2_blk hW
  clear hW
  have hGe := hid_ge HN
  replace HN := hid_now HN hp
  replace HL := Lib.hid (HL.out.step hp)
  obtain ⟨r, hr⟩ : ∃ r, r = w.heap.size + 1 := ⟨_, rfl⟩
  obtain ⟨x, hx⟩ : ∃ x, x = w.heap.size := ⟨_, rfl⟩
  have G_x := Lib.hid (show w.heap.size ≤ x by omega)
  have G_r := Lib.hid (show w.heap.size ≤ r by omega)
  have n_x_r : ¬ x = r := by omega
  have n_r_x : ¬ r = x := by omega
  rw [← hr] at hB2 ⊢
  rw [← hx] at hB ⊢
  have B_x := hB
  have B_r := hB2
  clear hB hB2 hx hr hGe hp
  have cx0 := cell_at B_x 0 rfl
  have cx1 := cell_at B_x 1 rfl
  have cx2 := cell_at B_x 2 rfl
  have zx := froz_at B_x
  have lx := hid_lt B_x
  go_upto_region 2 with fail
  clear cx0 cx1 cx2 zx lx
  obtain ⟨b1, o1, hs, lb, xc⟩ := (HS.out.low HL.out.low) i hi
  subst hs
  have x8 : z1.cell? ⟨b1, o1 + i * 16 + 8, none⟩ = some (.int .u8 (v.S i).e.r2) := xc 8 _ rfl
  have x9 : z1.cell? ⟨b1, o1 + i * 16 + 9, none⟩ = some (.int .u32 (v.S i).e.a2) := xc 9 _ rfl
  have x10 : z1.cell? ⟨b1, o1 + i * 16 + 10, none⟩ = some (.int .u16 (v.S i).e.p2) := xc 10 _ rfl
  have x11 : z1.cell? ⟨b1, o1 + i * 16 + 11, none⟩ = some (.int .u32 (v.S i).e.b2) := xc 11 _ rfl
  have x12 : z1.cell? ⟨b1, o1 + i * 16 + 12, none⟩ = some (.int .u16 (v.S i).e.q2) := xc 12 _ rfl
  clear xc
  have cg1 := HL.out.cell 1 rfl
  have lg := HL.out.lt
  have cx0 := cell_at B_x 0 rfl
  have lx := hid_lt B_x
  have ci : (i : Int) < (v.ns : Int) := by omega
  have n_g_r : ¬ g = r := by have h1 := hid_lt B_r; have h2 := HGg.out; have h3 := G_r.out; omega
  have n_b_r : ¬ b1 = r := by have h3 := G_r.out; have h4 := HLb.out b1 o1 rfl; omega
  refine wp_region_held_drew (S := fun wx => Fp (fun b => b = r) z1 wx) (by kernel_rfl) (Fp.drew (Fp.refl _ _)) (fun hHeld0 => ?_)
  refine any_eq hHeld0 (fun z2 hW hHeld => ?_)
  clear hHeld0
  replace B_x := hid_blk B_x (noW_drew hW)
  replace B_r := hid_blk B_r (noW_drew hW)
  clear hW
  (refine tk 0 (some 7) ?_ ?_ ?_; rotate_left; (focus (intro wS hSw; go_simp; try with_reducible rfl)); (try simp only [Act.put, List.setIfInBounds_toArray, List.set_cons_zero, List.set_cons_succ]))
  (refine tk 1 (some 8) ?_ ?_ ?_; rotate_left; (focus (intro wS hSw; go_simp; try with_reducible rfl)); (try simp only [Act.put, List.setIfInBounds_toArray, List.set_cons_zero, List.set_cons_succ]))
  (refine tk 2 (some 9) ?_ ?_ ?_; rotate_left; (focus (intro wS hSw; go_simp; try with_reducible rfl)); (try simp only [Act.put, List.setIfInBounds_toArray, List.set_cons_zero, List.set_cons_succ]))
  (refine tk 3 (some 10) ?_ ?_ ?_; rotate_left; (focus (intro wS hSw; go_simp; try with_reducible rfl)); (try simp only [Act.put, List.setIfInBounds_toArray, List.set_cons_zero, List.set_cons_succ]))
  (refine tk 4 (some 11) ?_ ?_ ?_; rotate_left; (focus (intro wS hSw; (have q1 := (hSw.cell (p := ⟨g, 1, none⟩) lg n_g_r).trans cg1); go_simp; try with_reducible rfl)); (try simp only [Act.put, List.setIfInBounds_toArray, List.set_cons_zero, List.set_cons_succ]))
  (refine tk 5 (some 12) ?_ ?_ ?_; rotate_left; (focus (intro wS hSw; go_simp; try with_reducible rfl)); (try simp only [Act.put, List.setIfInBounds_toArray, List.set_cons_zero, List.set_cons_succ]))
  (refine tk 6 (some 13) ?_ ?_ ?_; rotate_left; (focus (intro wS hSw; go_simp; try with_reducible rfl)); (try simp only [Act.put, List.setIfInBounds_toArray, List.set_cons_zero, List.set_cons_succ]))
  (refine tk 7 (some 14) ?_ ?_ ?_; rotate_left; (focus (intro wS hSw; (have p0 := (hSw.cell (p := ⟨x, 0, none⟩) lx n_x_r).trans cx0); go_simp; try with_reducible rfl)); (try simp only [Act.put, List.setIfInBounds_toArray, List.set_cons_zero, List.set_cons_succ]))
  (refine tk 8 (some 15) ?_ ?_ ?_; rotate_left; (focus (intro wS hSw; go_simp; try with_reducible rfl)); (try simp only [Act.put, List.setIfInBounds_toArray, List.set_cons_zero, List.set_cons_succ]))
  (refine tk 9 (some 16) ?_ ?_ ?_; rotate_left; (focus (intro wS hSw; go_simp; try with_reducible rfl)); (try simp only [Act.put, List.setIfInBounds_toArray, List.set_cons_zero, List.set_cons_succ]))
  (refine tk 10 (some 17) ?_ ?_ ?_; rotate_left; (focus (intro wS hSw; go_simp; try with_reducible rfl)); (try simp only [Act.put, List.setIfInBounds_toArray, List.set_cons_zero, List.set_cons_succ]))
  (refine tk 11 (some 18) ?_ ?_ ?_; rotate_left; (focus (intro wS hSw; (have q8 := (hSw.cell (p := ⟨b1, o1 + i * 16 + 8, none⟩) lb n_b_r).trans x8); (have q9 := (hSw.cell (p := ⟨b1, o1 + i * 16 + 9, none⟩) lb n_b_r).trans x9); (have q10 := (hSw.cell (p := ⟨b1, o1 + i * 16 + 10, none⟩) lb n_b_r).trans x10); (have q11 := (hSw.cell (p := ⟨b1, o1 + i * 16 + 11, none⟩) lb n_b_r).trans x11); (have q12 := (hSw.cell (p := ⟨b1, o1 + i * 16 + 12, none⟩) lb n_b_r).trans x12); go_simp; try with_reducible rfl)); (try simp only [Act.put, List.setIfInBounds_toArray, List.set_cons_zero, List.set_cons_succ]))
  refine wpAnyH_ready (rs := [12]) (by kernel_rfl) (by simp) ?_
  refine AllReadyH.cons rfl (fun K hK => ?_) AllReadyH.nil
  have cr0 := cell_at B_r 0 rfl
  have cr1 := cell_at B_r 1 rfl
  have cr2 := cell_at B_r 2 rfl
  have cr3 := cell_at B_r 3 rfl
  have cr4 := cell_at B_r 4 rfl
  have zr := froz_at B_r
  have lr := hid_lt B_r
  go_simp
  refine k_gen hK (fun z3 hW => ?_)
  obtain ⟨hB, hf⟩ := setE5 hW B_r
  clear hW zr lr cr0 cr1 cr2 cr3 cr4
  have hn := Fp.trans hHeld hf (fun i _ e => e)
  refine ⟨hn, ?_⟩
  clear hK K hHeld
  have hHeld := hn
  clear hn
  try simp only [Act.put, List.setIfInBounds_toArray, List.set_cons_zero, List.set_cons_succ]
  replace B_x := hid_blkS B_x hf n_x_r
  replace B_r := hB
  clear hB hf
  refine wpAnyH_done (by kernel_rfl) ?_ _
  clear cg1 lg cx0 lx lb n_g_r n_b_r x8 x9 x10 x11 x12
  have hGe := hid_ge HN
  replace HN := hid_own HN hHeld (fun i hi e => by have h1 : i = r := e; have h2 := G_r.out; omega)
  clear HL
  clear hHeld hGe
  go_wp2_with fail
  have cr0 := cell_at B_r 0 rfl
  have cr1 := cell_at B_r 1 rfl
  have cr2 := cell_at B_r 2 rfl
  have cr3 := cell_at B_r 3 rfl
  have cr4 := cell_at B_r 4 rfl
  have zr := froz_at B_r
  have lr := hid_lt B_r
  refine bodyPost_ret (v := .agg #[.int .u8 (v.S i).e.r2, .int .u32 (v.S i).e.a2, .int .u16 (v.S i).e.p2, .int .u32 (v.S i).e.b2, .int .u16 (v.S i).e.q2]) (by simp only [results, Tryz.results42]; go_simp) rfl ⟨rfl, HN.out⟩
set_option maxHeartbeats 8000000 in
set_option maxRecDepth 100000 in
theorem queue_ok (v : VD) (sa ca pa qa : Option Addr) (sc cc pc qc : Nat) (g : Nat) (fs : List (Int × Int)) (hfs : fs.length ≤ 10000) (hn : v.ns ≤ 100) (hnq : v.nq ≤ 100) (w0 w : World) (hS : AtC w0 sa v.ns 16 (fun i => (v.S i).cs)) (hQ : AtC w0 qa v.nq 2 (fun i => (v.Q i).cs)) (h : AuLk w0 w g [.int .i64 v.now, .slice sa v.ns sc, .slice ca v.nc cc, .slice pa v.np pc, .slice qa v.nq qc, .int .i64 v.free, .int .i64 v.live, .int .i64 v.gone] fs) :
    Calls Tryz.prog 17 #[.pointer (some ⟨g, 0, none⟩)] w fun e w' => e = .returned (.tuple #[]) ∧ AuLk w0 w' g [.int .i64 v.now, .slice sa v.ns sc, .slice ca v.nc cc, .slice pa v.np pc, .slice qa v.nq qc, .int .i64 v.free, .int .i64 v.live, .int .i64 v.gone] (fs ++ flt 5 0 v.f5 v.ns) := by
  have HL := Lib.hid h
  have HS := Lib.hid hS
  have HQ := Lib.hid hQ
  have HFs := Lib.hid hfs
  clear h hS hQ hfs
  go_enter Tryz.func17, Tryz.ntmps17
  have cg1 := HL.out.cell 1 rfl
  have lg := HL.out.lt
  go_wp2_with fail
  clear cg1 lg
  go_loopg [13] (v.ns + 1) (fun gg iv wx => ∃ (i : Nat), i ≤ v.ns ∧ gg = v.ns + 1 - i ∧ iv = .int .i64 (i : Int) ∧ AuLk w0 wx g [.int .i64 v.now, .slice sa v.ns sc, .slice ca v.nc cc, .slice pa v.np pc, .slice qa v.nq qc, .int .i64 v.free, .int .i64 v.live, .int .i64 v.gone] (fs ++ flt 5 0 v.f5 i))
  case atStart => exact ⟨0, by omega, by omega, rfl, by simpa [flt] using HL.out⟩
  case round =>
    clear HL
    obtain ⟨i, hi, hg, rfl, hL⟩ := hrel
    have Hg := Lib.hid hg
    have HL := Lib.hid hL
    clear hg hL
    by_cases hlt1 : i < v.ns
    · skip
      obtain ⟨b1, o1, hs, lb1, xc⟩ := (HS.out.low HL.out.low) i hlt1
      subst hs
      have x0 : wr.cell? ⟨b1, o1 + i * 16, none⟩ = some (.bool (v.S i).used) := xc 0 _ rfl
      have x1 : wr.cell? ⟨b1, o1 + i * 16 + 1, none⟩ = some (.bool (v.S i).put) := xc 1 _ rfl
      have x2 : wr.cell? ⟨b1, o1 + i * 16 + 2, none⟩ = some (.bool (v.S i).dead) := xc 2 _ rfl
      have x3 : wr.cell? ⟨b1, o1 + i * 16 + 3, none⟩ = some (.int .u8 (v.S i).e.r) := xc 3 _ rfl
      have x4 : wr.cell? ⟨b1, o1 + i * 16 + 4, none⟩ = some (.int .u32 (v.S i).e.a) := xc 4 _ rfl
      have x5 : wr.cell? ⟨b1, o1 + i * 16 + 5, none⟩ = some (.int .u16 (v.S i).e.p) := xc 5 _ rfl
      have x6 : wr.cell? ⟨b1, o1 + i * 16 + 6, none⟩ = some (.int .u32 (v.S i).e.b) := xc 6 _ rfl
      have x7 : wr.cell? ⟨b1, o1 + i * 16 + 7, none⟩ = some (.int .u16 (v.S i).e.q) := xc 7 _ rfl
      have x8 : wr.cell? ⟨b1, o1 + i * 16 + 8, none⟩ = some (.int .u8 (v.S i).e.r2) := xc 8 _ rfl
      have x9 : wr.cell? ⟨b1, o1 + i * 16 + 9, none⟩ = some (.int .u32 (v.S i).e.a2) := xc 9 _ rfl
      have x10 : wr.cell? ⟨b1, o1 + i * 16 + 10, none⟩ = some (.int .u16 (v.S i).e.p2) := xc 10 _ rfl
      have x11 : wr.cell? ⟨b1, o1 + i * 16 + 11, none⟩ = some (.int .u32 (v.S i).e.b2) := xc 11 _ rfl
      have x12 : wr.cell? ⟨b1, o1 + i * 16 + 12, none⟩ = some (.int .u16 (v.S i).e.q2) := xc 12 _ rfl
      have x13 : wr.cell? ⟨b1, o1 + i * 16 + 13, none⟩ = some (.int .i64 (v.S i).e.st) := xc 13 _ rfl
      have x14 : wr.cell? ⟨b1, o1 + i * 16 + 14, none⟩ = some (.int .i64 (v.S i).e.dl) := xc 14 _ rfl
      have x15 : wr.cell? ⟨b1, o1 + i * 16 + 15, none⟩ = some (.slice (v.S i).e.ad (v.S i).e.n (v.S i).e.c) := xc 15 _ rfl
      clear xc
      have pk1 : decide ((i : Int) < (v.ns : Int)) = true := decide_eq_true (by omega)
      have ck1 : (i : Int) < (v.ns : Int) := by omega
      go_upto_region 3 with fail
      clear lb1 x0 x1 x2 x3 x4 x5 x6 x7 x8 x9 x10 x11 x12 x13 x14 x15
      refine wp_gen (fun xw hW => ?_)
      have hp := new_now hW
      have hB := new_blk hW
      clear hW
      replace HL := Lib.hid (HL.out.step hp)
      obtain ⟨gx, hgx⟩ : ∃ gx, gx = wr.heap.size := ⟨_, rfl⟩
      rw [← hgx] at hB ⊢
      have B_x := hB
      clear hB hp hgx
      have cg4 := HL.out.cell 4 rfl
      have lg := HL.out.lt
      go_wp2_with fail
      clear cg4 lg
      have HW := Lib.hid (Fp.refl (fun _ => False) xw)
      go_loopg [24, 4] (v.nq + 1) (fun gg2 kv nv wx => ∃ (k : Nat), k ≤ v.nq ∧ gg2 = v.nq + 1 - k ∧ kv = .int .i64 (k : Int) ∧ nv = .int .i64 ((cntR k fun k => decide ((v.Q k).slot = (i : Int)) : Nat) : Int) ∧ NoW xw wx)
      case atStart => exact ⟨0, by omega, by omega, rfl, by simp [cntR], HW.out⟩
      case round =>
        clear HW
        obtain ⟨k, hk, hg2, rfl, rfl, hN⟩ := hrel
        have Hg2 := Lib.hid hg2
        have HN := Lib.hid hN
        have HLr := Lib.hid (HL.out.step hN)
        replace B_x := hid_blk B_x hN
        clear hg2 hN
        have hc1 := cntR_le k fun k => decide ((v.Q k).slot = (i : Int))
        obtain ⟨N, hN⟩ : ∃ N, N = cntR k fun k => decide ((v.Q k).slot = (i : Int)) := ⟨_, rfl⟩
        have hNl : N ≤ k := by omega
        rw [← hN]
        have HNN := Lib.hid hN
        clear hN hc1
        by_cases hlt2 : k < v.nq
        · skip
          obtain ⟨b2, o2, hs, lb2, xc⟩ := (HQ.out.low HLr.out.low) k hlt2
          subst hs
          have x0 : wr.cell? ⟨b2, o2 + k * 2, none⟩ = some (.int .i64 (v.Q k).slot) := xc 0 _ rfl
          have x1 : wr.cell? ⟨b2, o2 + k * 2 + 1, none⟩ = some (.int .u32 (v.Q k).gen) := xc 1 _ rfl
          clear xc
          have pk2 : decide ((k : Int) < (v.nq : Int)) = true := decide_eq_true (by omega)
          have ck2 : (k : Int) < (v.nq : Int) := by omega
          have hst : ∀ b, decide ((v.Q k).slot = (i : Int)) = b → (cntR (k + 1) fun k => decide ((v.Q k).slot = (i : Int))) = N + if b then 1 else 0 := fun b hb => by rw [cntR_succ, hb, HNN.out]
          have HSt := Lib.hid hst
          clear hst
          go_upto_region 7 with fail
          clear x0 x1 lb2
          refine wp_gen (fun yw hW => ?_)
          have hp := new_now hW
          have hB := new_blk hW
          clear hW
          replace HLr := Lib.hid (HLr.out.step hp)
          replace HN := hid_now HN hp
          replace B_x := hid_blk B_x hp
          obtain ⟨gy, hgy⟩ : ∃ gy, gy = wr.heap.size := ⟨_, rfl⟩
          rw [← hgy] at hB ⊢
          have B_y := hB
          clear hB hp hgy
          have y0 := cell_at B_y 0 rfl
          rcases h1 : ((v.Q k).slot == (i : Int)) with _ | _
          · have HE := Lib.hid (HSt.out false (decide_eq_false (beq_eq_false_iff_ne.1 h1)))
            go_wp2_with fail
            go_roundg (v.nq - k)
            case measure => have := Hg2.out; omega
            case rel => exact ⟨k + 1, by omega, by omega, by go_num, by rw [HE.out]; first | rfl | go_num, HN.out⟩
          · have HE := Lib.hid (HSt.out true (decide_eq_true (beq_iff_eq.1 h1)))
            go_wp2_with fail
            go_roundg (v.nq - k)
            case measure => have := Hg2.out; omega
            case rel => exact ⟨k + 1, by omega, by omega, by go_num, by rw [HE.out]; first | rfl | go_num, HN.out⟩
        · skip
          obtain rfl : k = v.nq := by omega
          have pk2 : decide ((v.nq : Int) < (v.nq : Int)) = false := decide_eq_false (by omega)
          have c2 := cell_at B_x 2 rfl
          have hn0 : v.nQ i = N := HNN.out.symm
          have HN0 := Lib.hid hn0
          clear hn0
          rcases hd : (v.S i).dead with _ | _
          · rw [hd] at c2
            rcases h1 : ((N : Int) == 1) with _ | _
            · have hN1 : N ≠ 1 := by have := beq_eq_false_iff_ne.1 h1; omega
              rcases h2 : decide ((1 : Int) < (N : Int)) with _ | _
              · have HW := Lib.hid (show v.f5 i = false from by simp [VD.f5, hd, HN0.out]; have := of_decide_eq_false h2; omega)
                clear hN1 hd
                go_wp2_with fail
                refine (note_ok false w0 _ g _ _ _ _ _ _ _ _ _ 5 i HLr.out (fs_len HFs.out (by omega))).mono ?_
                rintro e z2 ⟨rfl, hL⟩
                replace HLr := Lib.hid hL
                clear hL c2
                go_wp2_with fail
                go_roundg (v.ns - i)
                case measure => have := Hg.out; omega
                case rel => exact ⟨i + 1, by omega, by omega, by go_num, by rw [flt_no HW.out]; simpa using HLr.out⟩
              · have HW := Lib.hid (show v.f5 i = true from by simp [VD.f5, hd, HN0.out]; have := of_decide_eq_true h2; omega)
                clear hN1 hd
                go_wp2_with fail
                refine (note_ok true w0 _ g _ _ _ _ _ _ _ _ _ 5 i HLr.out (fs_len HFs.out (by omega))).mono ?_
                rintro e z2 ⟨rfl, hL⟩
                replace HLr := Lib.hid hL
                clear hL c2
                go_wp2_with fail
                go_roundg (v.ns - i)
                case measure => have := Hg.out; omega
                case rel => exact ⟨i + 1, by omega, by omega, by go_num, by rw [flt0_yes HW.out]; simpa using HLr.out⟩
            · have hN1 : N = 1 := by have := beq_iff_eq.1 h1; omega
              have h2 : decide ((1 : Int) < (N : Int)) = false := decide_eq_false (by omega)
              have HW := Lib.hid (show v.f5 i = true from by simp [VD.f5, hd, HN0.out, hN1])
              clear hN1 hd
              go_wp2_with fail
              refine (note_ok true w0 _ g _ _ _ _ _ _ _ _ _ 5 i HLr.out (fs_len HFs.out (by omega))).mono ?_
              rintro e z2 ⟨rfl, hL⟩
              replace HLr := Lib.hid hL
              clear hL c2
              go_wp2_with fail
              go_roundg (v.ns - i)
              case measure => have := Hg.out; omega
              case rel => exact ⟨i + 1, by omega, by omega, by go_num, by rw [flt0_yes HW.out]; simpa using HLr.out⟩
          · rw [hd] at c2
            rcases h1 : ((N : Int) == 1) with _ | _
            · have hN1 : N ≠ 1 := by have := beq_eq_false_iff_ne.1 h1; omega
              rcases h2 : decide ((1 : Int) < (N : Int)) with _ | _
              · have HW := Lib.hid (show v.f5 i = true from by simp [VD.f5, hd, HN0.out, hN1])
                clear hN1 hd
                go_wp2_with fail
                refine (note_ok true w0 _ g _ _ _ _ _ _ _ _ _ 5 i HLr.out (fs_len HFs.out (by omega))).mono ?_
                rintro e z2 ⟨rfl, hL⟩
                replace HLr := Lib.hid hL
                clear hL c2
                go_wp2_with fail
                go_roundg (v.ns - i)
                case measure => have := Hg.out; omega
                case rel => exact ⟨i + 1, by omega, by omega, by go_num, by rw [flt0_yes HW.out]; simpa using HLr.out⟩
              · have HW := Lib.hid (show v.f5 i = true from by simp [VD.f5, hd, HN0.out, hN1])
                clear hN1 hd
                go_wp2_with fail
                refine (note_ok true w0 _ g _ _ _ _ _ _ _ _ _ 5 i HLr.out (fs_len HFs.out (by omega))).mono ?_
                rintro e z2 ⟨rfl, hL⟩
                replace HLr := Lib.hid hL
                clear hL c2
                go_wp2_with fail
                go_roundg (v.ns - i)
                case measure => have := Hg.out; omega
                case rel => exact ⟨i + 1, by omega, by omega, by go_num, by rw [flt0_yes HW.out]; simpa using HLr.out⟩
            · have hN1 : N = 1 := by have := beq_iff_eq.1 h1; omega
              have h2 : decide ((1 : Int) < (N : Int)) = false := decide_eq_false (by omega)
              have HW := Lib.hid (show v.f5 i = false from by simp [VD.f5, hd, HN0.out, hN1])
              clear hN1 hd
              go_wp2_with fail
              refine (note_ok false w0 _ g _ _ _ _ _ _ _ _ _ 5 i HLr.out (fs_len HFs.out (by omega))).mono ?_
              rintro e z2 ⟨rfl, hL⟩
              replace HLr := Lib.hid hL
              clear hL c2
              go_wp2_with fail
              go_roundg (v.ns - i)
              case measure => have := Hg.out; omega
              case rel => exact ⟨i + 1, by omega, by omega, by go_num, by rw [flt_no HW.out]; simpa using HLr.out⟩
    · obtain rfl : i = v.ns := by omega
      have pk : decide ((v.ns : Int) < (v.ns : Int)) = false := decide_eq_false (by omega)
      go_wp2_with fail
      go_end0
      exact ⟨rfl, HL.out⟩
end Go.Proofs.YtcimbbllefkdlaaGreatDoor

namespace Go.Proofs.YtcimbbllefkdlaaGreatDoor
set_option linter.unusedVariables false
set_option linter.unusedSimpArgs false
open Go.RowKit Go.Lib Go.Sort
set_option maxHeartbeats 8000000 in
set_option maxRecDepth 100000 in
theorem reserved_ok (v : VD) (sa ca pa qa : Option Addr) (sc cc pc qc : Nat) (g : Nat) (fs : List (Int × Int)) (pr oa op : Nat) (hnp : v.np ≤ 100) (w0 w : World) (hP : AtC w0 pa v.np 7 (fun i => (v.P i).cs)) (h : AuLk w0 w g [.int .i64 v.now, .slice sa v.ns sc, .slice ca v.nc cc, .slice pa v.np pc, .slice qa v.nq qc, .int .i64 v.free, .int .i64 v.live, .int .i64 v.gone] fs) :
    Calls Tryz.prog 47 #[.pointer (some ⟨g, 0, none⟩), .int .u8 pr, .agg #[.int .u32 oa, .int .u16 op]] w (Ret1 (.bool (v.resv pr oa op)) w) := by
  have HL := Lib.hid h
  have HP := Lib.hid hP
  clear h hP
  obtain ⟨res, hr⟩ : ∃ r, r = v.resv pr oa op := ⟨_, rfl⟩
  rw [← hr]
  have HR := Lib.hid hr
  clear hr
  go_enter Tryz.func47, Tryz.ntmps47
  have cg3 := HL.out.cell 3 rfl
  have lg := HL.out.lt
  go_upto_region 1 with fail
  refine wp_gen (fun xw hW => ?_)
  have hp := new_now hW
  have HX := Lib.hid hp
  have hB := new_blk hW
  clear hW
  replace HL := Lib.hid (HL.out.step hp)
  obtain ⟨gx, hgx⟩ : ∃ gx, gx = w.heap.size := ⟨_, rfl⟩
  rw [← hgx] at hB ⊢
  have B_x := hB
  clear hB hp hgx
  clear cg3 lg
  have cg3 := HL.out.cell 3 rfl
  have lg := HL.out.lt
  go_wp2_with fail
  clear cg3 lg
  go_loopg [15] (v.np + 1) (fun gg iv wx => ∃ (k : Nat), k ≤ v.np ∧ gg = v.np + 1 - k ∧ iv = .int .i64 (k : Int) ∧ anyR k (fun k => decide ((v.P k).pr = pr) && decide ((v.P k).oa = oa ∧ (v.P k).op = op)) = false ∧ NoW xw wx)
  case atStart => exact ⟨0, by omega, by omega, rfl, rfl, Fp.refl _ _⟩
  case round =>
    obtain ⟨k, hk, hg, rfl, hA, hN⟩ := hrel
    have Hg := Lib.hid hg
    have HN := Lib.hid hN
    have HA := Lib.hid hA
    have HLr := Lib.hid (HL.out.step hN)
    replace B_x := hid_blk B_x hN
    clear hg hN hA
    by_cases hlt1 : k < v.np
    · skip
      obtain ⟨b1, o1, hs, lb1, xc⟩ := (HP.out.low HLr.out.low) k hlt1
      subst hs
      have x0 : wr.cell? ⟨b1, o1 + k * 7, none⟩ = some (.int .u8 (v.P k).pr) := xc 0 _ rfl
      have x1 : wr.cell? ⟨b1, o1 + k * 7 + 1, none⟩ = some (.int .u32 (v.P k).oa) := xc 1 _ rfl
      have x2 : wr.cell? ⟨b1, o1 + k * 7 + 2, none⟩ = some (.int .u16 (v.P k).op) := xc 2 _ rfl
      have x3 : wr.cell? ⟨b1, o1 + k * 7 + 3, none⟩ = some (.int .u32 (v.P k).ia) := xc 3 _ rfl
      have x4 : wr.cell? ⟨b1, o1 + k * 7 + 4, none⟩ = some (.int .u16 (v.P k).ip) := xc 4 _ rfl
      have x5 : wr.cell? ⟨b1, o1 + k * 7 + 5, none⟩ = some (.int .i64 (v.P k).live) := xc 5 _ rfl
      have x6 : wr.cell? ⟨b1, o1 + k * 7 + 6, none⟩ = some (.int .i64 (v.P k).held) := xc 6 _ rfl
      clear xc
      have pk1 : decide ((k : Int) < (v.np : Int)) = true := decide_eq_true (by omega)
      have ck1 : (k : Int) < (v.np : Int) := by omega
      go_upto_region 4 with fail
      clear lb1 x0 x1 x2 x3 x4 x5 x6
      refine wp_gen (fun yw hW => ?_)
      have hp := new_now hW
      have hB := new_blk hW
      clear hW
      replace HLr := Lib.hid (HLr.out.step hp)
      replace HN := hid_now HN hp
      replace B_x := hid_blk B_x hp
      obtain ⟨gy, hgy⟩ : ∃ gy, gy = wr.heap.size := ⟨_, rfl⟩
      rw [← hgy] at hB ⊢
      have B_y := hB
      clear hB hp hgy
      rcases h1 : (((v.P k).pr : Int) == (pr : Int)) with _ | _
      · skip
        have HE := Lib.hid (show anyR (k + 1) (fun k => decide ((v.P k).pr = pr) && decide ((v.P k).oa = oa ∧ (v.P k).op = op)) = false from by rw [anyR_succ, HA.out]; rw [decide_eq_false (by have := beq_eq_false_iff_ne.1 h1; omega)]; rfl)
        have y0 := cell_at B_y 0 rfl
        have y1 := cell_at B_y 1 rfl
        have y2 := cell_at B_y 2 rfl
        have y3 := cell_at B_y 3 rfl
        have y4 := cell_at B_y 4 rfl
        have y5 := cell_at B_y 5 rfl
        have y6 := cell_at B_y 6 rfl
        have x0 := cell_at B_x 0 rfl
        have x1 := cell_at B_x 1 rfl
        go_wp2_with fail
        go_roundg (v.np - k)
        case measure => have := Hg.out; omega
        case rel => exact ⟨k + 1, by omega, by omega, by go_num, HE.out, HN.out⟩
      · have z1 : (v.P k).pr = pr := by have := beq_iff_eq.1 h1; omega
        rw [z1] at B_y
        have Hz1 := Lib.hid z1
        clear z1 h1
        rcases h2 : (((v.P k).oa : Int) == (oa : Int)) with _ | _
        · skip
          have HE := Lib.hid (show anyR (k + 1) (fun k => decide ((v.P k).pr = pr) && decide ((v.P k).oa = oa ∧ (v.P k).op = op)) = false from by rw [anyR_succ, HA.out]; have := beq_eq_false_iff_ne.1 h2; have h9 : (v.P k).oa ≠ oa := (by omega); simp [h9])
          have y0 := cell_at B_y 0 rfl
          have y1 := cell_at B_y 1 rfl
          have y2 := cell_at B_y 2 rfl
          have y3 := cell_at B_y 3 rfl
          have y4 := cell_at B_y 4 rfl
          have y5 := cell_at B_y 5 rfl
          have y6 := cell_at B_y 6 rfl
          have x0 := cell_at B_x 0 rfl
          have x1 := cell_at B_x 1 rfl
          go_wp2_with fail
          go_roundg (v.np - k)
          case measure => have := Hg.out; omega
          case rel => exact ⟨k + 1, by omega, by omega, by go_num, HE.out, HN.out⟩
        · have z2 : (v.P k).oa = oa := by have := beq_iff_eq.1 h2; omega
          rw [z2] at B_y
          have Hz2 := Lib.hid z2
          clear z2 h2
          rcases h3 : (((v.P k).op : Int) == (op : Int)) with _ | _
          · skip
            have HE := Lib.hid (show anyR (k + 1) (fun k => decide ((v.P k).pr = pr) && decide ((v.P k).oa = oa ∧ (v.P k).op = op)) = false from by rw [anyR_succ, HA.out]; have := beq_eq_false_iff_ne.1 h3; have h9 : (v.P k).op ≠ op := (by omega); simp [h9])
            have y0 := cell_at B_y 0 rfl
            have y1 := cell_at B_y 1 rfl
            have y2 := cell_at B_y 2 rfl
            have y3 := cell_at B_y 3 rfl
            have y4 := cell_at B_y 4 rfl
            have y5 := cell_at B_y 5 rfl
            have y6 := cell_at B_y 6 rfl
            have x0 := cell_at B_x 0 rfl
            have x1 := cell_at B_x 1 rfl
            go_wp2_with fail
            go_roundg (v.np - k)
            case measure => have := Hg.out; omega
            case rel => exact ⟨k + 1, by omega, by omega, by go_num, HE.out, HN.out⟩
          · have z3 : (v.P k).op = op := by have := beq_iff_eq.1 h3; omega
            rw [z3] at B_y
            have Hz3 := Lib.hid z3
            clear z3 h3
            obtain rfl : res = true := HR.out.trans (anyR_yes hlt1 (by rw [Hz1.out, Hz2.out, Hz3.out]; simp))
            have y0 := cell_at B_y 0 rfl
            have y1 := cell_at B_y 1 rfl
            have y2 := cell_at B_y 2 rfl
            have y3 := cell_at B_y 3 rfl
            have y4 := cell_at B_y 4 rfl
            have y5 := cell_at B_y 5 rfl
            have y6 := cell_at B_y 6 rfl
            have x0 := cell_at B_x 0 rfl
            have x1 := cell_at B_x 1 rfl
            go_wp2_with fail
            go_ret
            exact ⟨rfl, HX.out.trans HN.out (fun _ _ h => h)⟩
    · obtain rfl : k = v.np := by omega
      have pk : decide ((v.np : Int) < (v.np : Int)) = false := decide_eq_false (by omega)
      obtain rfl : res = false := HR.out.trans HA.out
      go_wp2_with fail
      go_ret
      exact ⟨rfl, HX.out.trans HN.out (fun _ _ h => h)⟩
end Go.Proofs.YtcimbbllefkdlaaGreatDoor
