/- Chapter 08: what the document sees of a packet (written by gen8v.py). -/
import Derived.Test.YtmghjaoodnkjlaaGreatDoorTu
namespace Go.Proofs.YtmghjaoodnkjlaaGreatDoor
set_option linter.unusedVariables false
set_option linter.unusedSimpArgs false
open Go.RowKit Go.Lib Go.Sort
set_option maxHeartbeats 4000000 in
set_option maxRecDepth 100000 in
theorem rof_bad (l : List UInt8) (hl : l.length ≤ 1000000) (r : Nat) (hr : ipWhy l = r) (h0 : 0 < r) (w : World) : Calls Tryz.prog 11 #[str l] w (Ret1 (.tuple #[seenZ, .int .i64 (r : Nat)]) w) := by
  unfold seenZ
  have e0 : ((r : Int) != 0) = true := by simp [bne]; omega
  have KI := Lib.hid (fun W => r04_parse l hl W)
  rw [ipV_no hr h0] at KI
  unfold ipZ at KI
  go_enter Tryz.func11, Tryz.ntmps11
  go_wp2_with fail
  have HN := Lib.hid (Fp.refl (fun _ => False) w)
  refine calls_gen (fun x1 hW => ?_)
  have hp := new_now hW
  have hB := new_blk hW
  clear hW
  have hGe := hid_ge HN
  replace HN := hid_now HN hp
  obtain ⟨gR, hgR⟩ : ∃ gR, gR = w.heap.size := ⟨_, rfl⟩
  have G_gR := Lib.hid (Nat.le_trans hGe (Nat.le_of_eq hgR.symm))
  rw [← hgR] at hB ⊢
  have B_gR := hB
  clear hB hGe hgR
  clear hp
  refine (show Calls _ _ _ _ _ from KI.out _).mono ?_
  rintro e x2 ⟨rfl, hp⟩
  replace HN := hid_now HN hp
  replace B_gR := hid_blk B_gR hp
  clear hp
  go_upto_region 2 with fail
  refine wp_gen (fun x3 hW => ?_)
  have l2gR := hid_lt B_gR
  have hp := new_now hW
  have hB := new_blk hW
  clear hW
  have hGe := hid_ge HN
  replace HN := hid_now HN hp
  replace B_gR := hid_blk B_gR hp
  obtain ⟨g4, hg4⟩ : ∃ g4, g4 = x2.heap.size := ⟨_, rfl⟩
  have G_g4 := Lib.hid (Nat.le_trans hGe (Nat.le_of_eq hg4.symm))
  have n_gR_g4 : ¬ gR = g4 := by omega
  have n_g4_gR : ¬ g4 = gR := by omega
  clear l2gR
  rw [← hg4] at hB ⊢
  have B_g4 := hB
  clear hB hGe hg4
  clear hp
  have cgR0 := cell_at B_gR 0 rfl
  have cgR1 := cell_at B_gR 1 rfl
  have cgR2 := cell_at B_gR 2 rfl
  have cgR3 := cell_at B_gR 3 rfl
  have cgR4 := cell_at B_gR 4 rfl
  have cgR5 := cell_at B_gR 5 rfl
  have cgR6 := cell_at B_gR 6 rfl
  have cgR7 := cell_at B_gR 7 rfl
  have cgR8 := cell_at B_gR 8 rfl
  have zgR := froz_at B_gR
  have lgR := hid_lt B_gR
  go_wp2_with fail
  refine post_gen (fun W hW => ?_)
  obtain ⟨hB, hf⟩ := setE9 hW B_gR
  replace HN := hid_own HN hf (fun i hi e => by have h1 : i = gR := e; have h2 := G_gR.out; omega)
  clear hW hf cgR0 cgR1 cgR2 cgR3 cgR4 cgR5 cgR6 cgR7 cgR8 zgR lgR
  replace B_gR := hB
  clear hB
  have cgR0 := cell_at B_gR 0 rfl
  have cgR1 := cell_at B_gR 1 rfl
  have cgR2 := cell_at B_gR 2 rfl
  have cgR3 := cell_at B_gR 3 rfl
  have cgR4 := cell_at B_gR 4 rfl
  have cgR5 := cell_at B_gR 5 rfl
  have cgR6 := cell_at B_gR 6 rfl
  have cgR7 := cell_at B_gR 7 rfl
  have cgR8 := cell_at B_gR 8 rfl
  have zgR := froz_at B_gR
  have lgR := hid_lt B_gR
  refine bodyPost_ret (v := .tuple #[.agg #[.int .u8 0, .int .u32 0, .int .u16 0, .int .u32 0, .int .u16 0, .int .i64 0, .int .u8 0, .bool false, .int .u8 0], .int .i64 (r : Nat)]) (by simp only [results, Tryz.results11]; go_simp) rfl ⟨rfl, HN.out⟩
set_option maxHeartbeats 4000000 in
set_option maxRecDepth 100000 in
theorem rof_tcp_no (l d op : List UInt8) (tos id : Int) (fl : Bool) (ttl sr ds : Nat) (ki : ∀ W, Calls Tryz.prog 28 #[str l] W (Ret1 (.tuple #[.agg #[.int .u8 tos, .int .u16 id, .bool fl, .int .u8 (ttl : Nat), .int .u8 6, .int .u32 (sr : Nat), .int .u32 (ds : Nat), str op], str d, .int .i64 0]) W)) (hd : d.length ≤ 1000000) (ho : tcpOk d = false) (w : World) : Calls Tryz.prog 11 #[str l] w (Ret1 (.tuple #[.agg #[.int .u8 0, .int .u32 0, .int .u16 0, .int .u32 0, .int .u16 0, .int .i64 0, .int .u8 0, .bool false, .int .u8 0], .int .i64 7]) w) := by
  have KI := Lib.hid ki
  clear ki
  have K6 := Lib.hid (fun W => r06_parse d hd W)
  rw [show tcV d = _ from if_neg (by rw [ho]; decide)] at K6
  unfold tcZ at K6
  go_enter Tryz.func11, Tryz.ntmps11
  go_wp2_with fail
  have HN := Lib.hid (Fp.refl (fun _ => False) w)
  refine calls_gen (fun x1 hW => ?_)
  have hp := new_now hW
  have hB := new_blk hW
  clear hW
  have hGe := hid_ge HN
  replace HN := hid_now HN hp
  obtain ⟨gR, hgR⟩ : ∃ gR, gR = w.heap.size := ⟨_, rfl⟩
  have G_gR := Lib.hid (Nat.le_trans hGe (Nat.le_of_eq hgR.symm))
  rw [← hgR] at hB ⊢
  have B_gR := hB
  clear hB hGe hgR
  clear hp
  refine (show Calls _ _ _ _ _ from KI.out _).mono ?_
  rintro e x2 ⟨rfl, hp⟩
  replace HN := hid_now HN hp
  replace B_gR := hid_blk B_gR hp
  clear hp
  go_upto_region 2 with fail
  refine wp_gen (fun x3 hW => ?_)
  have l2gR := hid_lt B_gR
  have hp := new_now hW
  have hB := new_blk hW
  clear hW
  have hGe := hid_ge HN
  replace HN := hid_now HN hp
  replace B_gR := hid_blk B_gR hp
  obtain ⟨g4, hg4⟩ : ∃ g4, g4 = x2.heap.size := ⟨_, rfl⟩
  have G_g4 := Lib.hid (Nat.le_trans hGe (Nat.le_of_eq hg4.symm))
  have n_gR_g4 : ¬ gR = g4 := by omega
  have n_g4_gR : ¬ g4 = gR := by omega
  clear l2gR
  rw [← hg4] at hB ⊢
  have B_g4 := hB
  clear hB hGe hg4
  clear hp
  have cg40 := cell_at B_g4 0 rfl
  have cg41 := cell_at B_g4 1 rfl
  have cg42 := cell_at B_g4 2 rfl
  have cg43 := cell_at B_g4 3 rfl
  have cg44 := cell_at B_g4 4 rfl
  have cg45 := cell_at B_g4 5 rfl
  have cg46 := cell_at B_g4 6 rfl
  have cg47 := cell_at B_g4 7 rfl
  have zg4 := froz_at B_g4
  have lg4 := hid_lt B_g4
  go_upto_region 5 with fail
  clear cg40 cg41 cg42 cg43 cg44 cg45 cg46 cg47 zg4 lg4
  refine wp_gen (fun x4 hW => ?_)
  have l2gR := hid_lt B_gR
  have l2g4 := hid_lt B_g4
  have hp := new_now hW
  have hB := new_blk hW
  clear hW
  have hGe := hid_ge HN
  replace HN := hid_now HN hp
  replace B_gR := hid_blk B_gR hp
  replace B_g4 := hid_blk B_g4 hp
  obtain ⟨g7, hg7⟩ : ∃ g7, g7 = x3.heap.size := ⟨_, rfl⟩
  have G_g7 := Lib.hid (Nat.le_trans hGe (Nat.le_of_eq hg7.symm))
  have n_gR_g7 : ¬ gR = g7 := by omega
  have n_g7_gR : ¬ g7 = gR := by omega
  clear l2gR
  have n_g4_g7 : ¬ g4 = g7 := by omega
  have n_g7_g4 : ¬ g7 = g4 := by omega
  clear l2g4
  rw [← hg7] at hB ⊢
  have B_g7 := hB
  clear hB hGe hg7
  clear hp
  have cg44 := cell_at B_g4 4 rfl
  have zg4 := froz_at B_g4
  have lg4 := hid_lt B_g4
  go_wp2_with fail
  clear cg44 zg4 lg4
  refine (show Calls _ _ _ _ _ from K6.out _).mono ?_
  rintro e x5 ⟨rfl, hp⟩
  replace HN := hid_now HN hp
  replace B_gR := hid_blk B_gR hp
  replace B_g4 := hid_blk B_g4 hp
  replace B_g7 := hid_blk B_g7 hp
  clear hp
  go_upto_region 9 with fail
  refine wp_gen (fun x6 hW => ?_)
  have l2gR := hid_lt B_gR
  have l2g4 := hid_lt B_g4
  have l2g7 := hid_lt B_g7
  have hp := new_now hW
  have hB := new_blk hW
  clear hW
  have hGe := hid_ge HN
  replace HN := hid_now HN hp
  replace B_gR := hid_blk B_gR hp
  replace B_g4 := hid_blk B_g4 hp
  replace B_g7 := hid_blk B_g7 hp
  obtain ⟨g8, hg8⟩ : ∃ g8, g8 = x5.heap.size := ⟨_, rfl⟩
  have G_g8 := Lib.hid (Nat.le_trans hGe (Nat.le_of_eq hg8.symm))
  have n_gR_g8 : ¬ gR = g8 := by omega
  have n_g8_gR : ¬ g8 = gR := by omega
  clear l2gR
  have n_g4_g8 : ¬ g4 = g8 := by omega
  have n_g8_g4 : ¬ g8 = g4 := by omega
  clear l2g4
  have n_g7_g8 : ¬ g7 = g8 := by omega
  have n_g8_g7 : ¬ g8 = g7 := by omega
  clear l2g7
  rw [← hg8] at hB ⊢
  have B_g8 := hB
  clear hB hGe hg8
  clear hp
  have cgR0 := cell_at B_gR 0 rfl
  have cgR1 := cell_at B_gR 1 rfl
  have cgR2 := cell_at B_gR 2 rfl
  have cgR3 := cell_at B_gR 3 rfl
  have cgR4 := cell_at B_gR 4 rfl
  have cgR5 := cell_at B_gR 5 rfl
  have cgR6 := cell_at B_gR 6 rfl
  have cgR7 := cell_at B_gR 7 rfl
  have cgR8 := cell_at B_gR 8 rfl
  have zgR := froz_at B_gR
  have lgR := hid_lt B_gR
  go_wp2_with fail
  refine post_gen (fun W hW => ?_)
  obtain ⟨hB, hf⟩ := setE9 hW B_gR
  replace HN := hid_own HN hf (fun i hi e => by have h1 : i = gR := e; have h2 := G_gR.out; omega)
  clear hW hf cgR0 cgR1 cgR2 cgR3 cgR4 cgR5 cgR6 cgR7 cgR8 zgR lgR
  replace B_gR := hB
  clear hB
  have cgR0 := cell_at B_gR 0 rfl
  have cgR1 := cell_at B_gR 1 rfl
  have cgR2 := cell_at B_gR 2 rfl
  have cgR3 := cell_at B_gR 3 rfl
  have cgR4 := cell_at B_gR 4 rfl
  have cgR5 := cell_at B_gR 5 rfl
  have cgR6 := cell_at B_gR 6 rfl
  have cgR7 := cell_at B_gR 7 rfl
  have cgR8 := cell_at B_gR 8 rfl
  have zgR := froz_at B_gR
  have lgR := hid_lt B_gR
  refine bodyPost_ret (v := .tuple #[.agg #[.int .u8 0, .int .u32 0, .int .u16 0, .int .u32 0, .int .u16 0, .int .i64 0, .int .u8 0, .bool false, .int .u8 0], .int .i64 7]) (by simp only [results, Tryz.results11]; go_simp) rfl ⟨rfl, HN.out⟩
set_option maxHeartbeats 4000000 in
set_option maxRecDepth 100000 in
theorem rof_tcp_yes0 (l d op : List UInt8) (tos id : Int) (fl : Bool) (ttl sr ds : Nat) (ki : ∀ W, Calls Tryz.prog 28 #[str l] W (Ret1 (.tuple #[.agg #[.int .u8 tos, .int .u16 id, .bool fl, .int .u8 (ttl : Nat), .int .u8 6, .int .u32 (sr : Nat), .int .u32 (ds : Nat), str op], str d, .int .i64 0]) W)) (hd : d.length ≤ 1000000) (ho : tcpOk d = true) (hfi : firstB (byt d 13) = false) (w : World) : Calls Tryz.prog 11 #[str l] w (Ret1 (.tuple #[.agg #[.int .u8 6, .int .u32 (sr : Nat), .int .u16 (g16 d 0 : Nat), .int .u32 (ds : Nat), .int .u16 (g16 d 2 : Nat), .int .i64 2, .int .u8 (byt d 13 : Nat), .bool false, .int .u8 (ttl : Nat)], .int .i64 0]) w) := by
  have KI := Lib.hid ki
  clear ki
  have K6 := Lib.hid (fun W => r06_parse d hd W)
  rw [show tcV d = _ from if_pos ho] at K6
  have b13 := byt_lt d 13
  have hF : (bits .and .u8 (byt d 13 : Nat) 23 == 2) = false := (first_bits b13).trans hfi
  generalize byt d 13 = fb at *
  generalize g16 d 0 = sp at *
  generalize g16 d 2 = dp at *
  clear hfi ho
  go_enter Tryz.func11, Tryz.ntmps11
  go_wp2_with fail
  have HN := Lib.hid (Fp.refl (fun _ => False) w)
  refine calls_gen (fun x1 hW => ?_)
  have hp := new_now hW
  have hB := new_blk hW
  clear hW
  have hGe := hid_ge HN
  replace HN := hid_now HN hp
  obtain ⟨gR, hgR⟩ : ∃ gR, gR = w.heap.size := ⟨_, rfl⟩
  have G_gR := Lib.hid (Nat.le_trans hGe (Nat.le_of_eq hgR.symm))
  rw [← hgR] at hB ⊢
  have B_gR := hB
  clear hB hGe hgR
  clear hp
  refine (show Calls _ _ _ _ _ from KI.out _).mono ?_
  rintro e x2 ⟨rfl, hp⟩
  replace HN := hid_now HN hp
  replace B_gR := hid_blk B_gR hp
  clear hp
  go_upto_region 2 with fail
  refine wp_gen (fun x3 hW => ?_)
  have l2gR := hid_lt B_gR
  have hp := new_now hW
  have hB := new_blk hW
  clear hW
  have hGe := hid_ge HN
  replace HN := hid_now HN hp
  replace B_gR := hid_blk B_gR hp
  obtain ⟨g4, hg4⟩ : ∃ g4, g4 = x2.heap.size := ⟨_, rfl⟩
  have G_g4 := Lib.hid (Nat.le_trans hGe (Nat.le_of_eq hg4.symm))
  have n_gR_g4 : ¬ gR = g4 := by omega
  have n_g4_gR : ¬ g4 = gR := by omega
  clear l2gR
  rw [← hg4] at hB ⊢
  have B_g4 := hB
  clear hB hGe hg4
  clear hp
  have cg40 := cell_at B_g4 0 rfl
  have cg41 := cell_at B_g4 1 rfl
  have cg42 := cell_at B_g4 2 rfl
  have cg43 := cell_at B_g4 3 rfl
  have cg44 := cell_at B_g4 4 rfl
  have cg45 := cell_at B_g4 5 rfl
  have cg46 := cell_at B_g4 6 rfl
  have cg47 := cell_at B_g4 7 rfl
  have zg4 := froz_at B_g4
  have lg4 := hid_lt B_g4
  go_upto_region 5 with fail
  clear cg40 cg41 cg42 cg43 cg44 cg45 cg46 cg47 zg4 lg4
  refine wp_gen (fun x4 hW => ?_)
  have l2gR := hid_lt B_gR
  have l2g4 := hid_lt B_g4
  have hp := new_now hW
  have hB := new_blk hW
  clear hW
  have hGe := hid_ge HN
  replace HN := hid_now HN hp
  replace B_gR := hid_blk B_gR hp
  replace B_g4 := hid_blk B_g4 hp
  obtain ⟨g7, hg7⟩ : ∃ g7, g7 = x3.heap.size := ⟨_, rfl⟩
  have G_g7 := Lib.hid (Nat.le_trans hGe (Nat.le_of_eq hg7.symm))
  have n_gR_g7 : ¬ gR = g7 := by omega
  have n_g7_gR : ¬ g7 = gR := by omega
  clear l2gR
  have n_g4_g7 : ¬ g4 = g7 := by omega
  have n_g7_g4 : ¬ g7 = g4 := by omega
  clear l2g4
  rw [← hg7] at hB ⊢
  have B_g7 := hB
  clear hB hGe hg7
  clear hp
  have cg44 := cell_at B_g4 4 rfl
  have zg4 := froz_at B_g4
  have lg4 := hid_lt B_g4
  go_wp2_with fail
  clear cg44 zg4 lg4
  refine (show Calls _ _ _ _ _ from K6.out _).mono ?_
  rintro e x5 ⟨rfl, hp⟩
  replace HN := hid_now HN hp
  replace B_gR := hid_blk B_gR hp
  replace B_g4 := hid_blk B_g4 hp
  replace B_g7 := hid_blk B_g7 hp
  clear hp
  go_upto_region 9 with fail
  refine wp_gen (fun x6 hW => ?_)
  have l2gR := hid_lt B_gR
  have l2g4 := hid_lt B_g4
  have l2g7 := hid_lt B_g7
  have hp := new_now hW
  have hB := new_blk hW
  clear hW
  have hGe := hid_ge HN
  replace HN := hid_now HN hp
  replace B_gR := hid_blk B_gR hp
  replace B_g4 := hid_blk B_g4 hp
  replace B_g7 := hid_blk B_g7 hp
  obtain ⟨g8, hg8⟩ : ∃ g8, g8 = x5.heap.size := ⟨_, rfl⟩
  have G_g8 := Lib.hid (Nat.le_trans hGe (Nat.le_of_eq hg8.symm))
  have n_gR_g8 : ¬ gR = g8 := by omega
  have n_g8_gR : ¬ g8 = gR := by omega
  clear l2gR
  have n_g4_g8 : ¬ g4 = g8 := by omega
  have n_g8_g4 : ¬ g8 = g4 := by omega
  clear l2g4
  have n_g7_g8 : ¬ g7 = g8 := by omega
  have n_g8_g7 : ¬ g8 = g7 := by omega
  clear l2g7
  rw [← hg8] at hB ⊢
  have B_g8 := hB
  clear hB hGe hg8
  clear hp
  have cg80 := cell_at B_g8 0 rfl
  have cg81 := cell_at B_g8 1 rfl
  have cg82 := cell_at B_g8 2 rfl
  have cg83 := cell_at B_g8 3 rfl
  have cg84 := cell_at B_g8 4 rfl
  have cg85 := cell_at B_g8 5 rfl
  have cg86 := cell_at B_g8 6 rfl
  have cg87 := cell_at B_g8 7 rfl
  have cg88 := cell_at B_g8 8 rfl
  have cg89 := cell_at B_g8 9 rfl
  have zg8 := froz_at B_g8
  have lg8 := hid_lt B_g8
  go_upto_region 11 with fail
  refine wp_region_held_drew (S := fun wx => Fp (fun b => b = g7) x6 wx) (by kernel_rfl) (Fp.drew (Fp.refl _ _)) (fun hHeld0 => ?_)
  refine any_eq hHeld0 (fun x7 hW hHeld => ?_)
  clear hHeld0
  replace B_gR := hid_blk B_gR (noW_drew hW)
  replace B_g4 := hid_blk B_g4 (noW_drew hW)
  replace B_g7 := hid_blk B_g7 (noW_drew hW)
  replace B_g8 := hid_blk B_g8 (noW_drew hW)
  clear hW
  (refine take_at 0 (some 54) rfl rfl (by kernel_rfl) (by kernel_rfl) (by kernel_rfl) (fun _ _ _ h => h) (v := ?_) (by kernel_rfl) ?_ (by assumption) ?_; rotate_left; (focus (intro wS hSw; skip; go_simp; try with_reducible rfl)); (try simp only [Act.put, List.setIfInBounds_toArray, List.set_cons_zero, List.set_cons_succ]))
  (refine take_at 1 (some 55) rfl rfl (by kernel_rfl) (by kernel_rfl) (by kernel_rfl) (fun _ _ _ h => h) (v := ?_) (by kernel_rfl) ?_ (by assumption) ?_; rotate_left; (focus (intro wS hSw; have hX := fun b o h hn => hSw.cell (p := ⟨b, o, none⟩) h hn; go_simp; try with_reducible rfl)); (try simp only [Act.put, List.setIfInBounds_toArray, List.set_cons_zero, List.set_cons_succ]))
  (refine take_at 2 (some 56) rfl rfl (by kernel_rfl) (by kernel_rfl) (by kernel_rfl) (fun _ _ _ h => h) (v := ?_) (by kernel_rfl) ?_ (by assumption) ?_; rotate_left; (focus (intro wS hSw; skip; go_simp; try with_reducible rfl)); (try simp only [Act.put, List.setIfInBounds_toArray, List.set_cons_zero, List.set_cons_succ]))
  (refine take_at 3 (some 57) rfl rfl (by kernel_rfl) (by kernel_rfl) (by kernel_rfl) (fun _ _ _ h => h) (v := ?_) (by kernel_rfl) ?_ (by assumption) ?_; rotate_left; (focus (intro wS hSw; have hX := fun b o h hn => hSw.cell (p := ⟨b, o, none⟩) h hn; go_simp; try with_reducible rfl)); (try simp only [Act.put, List.setIfInBounds_toArray, List.set_cons_zero, List.set_cons_succ]))
  (refine take_at 4 (some 58) rfl rfl (by kernel_rfl) (by kernel_rfl) (by kernel_rfl) (fun _ _ _ h => h) (v := ?_) (by kernel_rfl) ?_ (by assumption) ?_; rotate_left; (focus (intro wS hSw; skip; go_simp; try with_reducible rfl)); (try simp only [Act.put, List.setIfInBounds_toArray, List.set_cons_zero, List.set_cons_succ]))
  (refine take_at 5 (some 59) rfl rfl (by kernel_rfl) (by kernel_rfl) (by kernel_rfl) (fun _ _ _ h => h) (v := ?_) (by kernel_rfl) ?_ (by assumption) ?_; rotate_left; (focus (intro wS hSw; have hX := fun b o h hn => hSw.cell (p := ⟨b, o, none⟩) h hn; go_simp; try with_reducible rfl)); (try simp only [Act.put, List.setIfInBounds_toArray, List.set_cons_zero, List.set_cons_succ]))
  (refine take_at 6 (some 60) rfl rfl (by kernel_rfl) (by kernel_rfl) (by kernel_rfl) (fun _ _ _ h => h) (v := ?_) (by kernel_rfl) ?_ (by assumption) ?_; rotate_left; (focus (intro wS hSw; skip; go_simp; try with_reducible rfl)); (try simp only [Act.put, List.setIfInBounds_toArray, List.set_cons_zero, List.set_cons_succ]))
  (refine take_at 7 (some 61) rfl rfl (by kernel_rfl) (by kernel_rfl) (by kernel_rfl) (fun _ _ _ h => h) (v := ?_) (by kernel_rfl) ?_ (by assumption) ?_; rotate_left; (focus (intro wS hSw; skip; go_simp; try with_reducible rfl)); (try simp only [Act.put, List.setIfInBounds_toArray, List.set_cons_zero, List.set_cons_succ]))
  (refine take_at 8 (some 62) rfl rfl (by kernel_rfl) (by kernel_rfl) (by kernel_rfl) (fun _ _ _ h => h) (v := ?_) (by kernel_rfl) ?_ (by assumption) ?_; rotate_left; (focus (intro wS hSw; skip; go_simp; try with_reducible rfl)); (try simp only [Act.put, List.setIfInBounds_toArray, List.set_cons_zero, List.set_cons_succ]))
  refine wpAnyH_ready (rs := [9]) (by kernel_rfl) (by simp) ?_
  refine AllReadyH.cons rfl (fun K hK => ?_) AllReadyH.nil
  have cg72 := cell_at B_g7 2 rfl
  have zg7 := froz_at B_g7
  have lg7 := hid_lt B_g7
  go_simp
  refine k_gen hK (fun x8 hW => ?_)
  have hB := set_blk hW B_g7
  have hf := set_now hW
  clear hW zg7 lg7 cg72
  simp only [List.setIfInBounds_toArray, List.set_cons_zero, List.set_cons_succ] at hB
  have hn := Fp.trans hHeld hf (fun i _ e => e)
  refine ⟨hn, ?_⟩
  clear hK K hHeld
  have hHeld := hn
  clear hn
  try simp only [Act.put, List.setIfInBounds_toArray, List.set_cons_zero, List.set_cons_succ]
  replace B_gR := hid_blkS B_gR hf n_gR_g7
  replace B_g4 := hid_blkS B_g4 hf n_g4_g7
  replace B_g8 := hid_blkS B_g8 hf n_g8_g7
  replace B_g7 := hB
  clear hB hf
  (refine take_at 10 (some 63) rfl rfl (by kernel_rfl) (by kernel_rfl) (by kernel_rfl) (fun _ _ _ h => h) (v := ?_) (by kernel_rfl) ?_ (by assumption) ?_; rotate_left; (focus (intro wS hSw; skip; go_simp; try with_reducible rfl)); (try simp only [Act.put, List.setIfInBounds_toArray, List.set_cons_zero, List.set_cons_succ]))
  (refine take_at 11 (some 64) rfl rfl (by kernel_rfl) (by kernel_rfl) (by kernel_rfl) (fun _ _ _ h => h) (v := ?_) (by kernel_rfl) ?_ (by assumption) ?_; rotate_left; (focus (intro wS hSw; skip; go_simp; try with_reducible rfl)); (try simp only [Act.put, List.setIfInBounds_toArray, List.set_cons_zero, List.set_cons_succ]))
  (refine take_at 12 (some 65) rfl rfl (by kernel_rfl) (by kernel_rfl) (by kernel_rfl) (fun _ _ _ h => h) (v := ?_) (by kernel_rfl) ?_ (by assumption) ?_; rotate_left; (focus (intro wS hSw; skip; go_simp; try with_reducible rfl)); (try simp only [Act.put, List.setIfInBounds_toArray, List.set_cons_zero, List.set_cons_succ]))
  refine wpAnyH_ready (rs := [13]) (by kernel_rfl) (by simp) ?_
  refine AllReadyH.cons rfl (fun K hK => ?_) AllReadyH.nil
  have cg74 := cell_at B_g7 4 rfl
  have zg7 := froz_at B_g7
  have lg7 := hid_lt B_g7
  go_simp
  refine k_gen hK (fun x9 hW => ?_)
  have hB := set_blk hW B_g7
  have hf := set_now hW
  clear hW zg7 lg7 cg74
  simp only [List.setIfInBounds_toArray, List.set_cons_zero, List.set_cons_succ] at hB
  have hn := Fp.trans hHeld hf (fun i _ e => e)
  refine ⟨hn, ?_⟩
  clear hK K hHeld
  have hHeld := hn
  clear hn
  try simp only [Act.put, List.setIfInBounds_toArray, List.set_cons_zero, List.set_cons_succ]
  replace B_gR := hid_blkS B_gR hf n_gR_g7
  replace B_g4 := hid_blkS B_g4 hf n_g4_g7
  replace B_g8 := hid_blkS B_g8 hf n_g8_g7
  replace B_g7 := hB
  clear hB hf
  (refine take_at 14 (some 66) rfl rfl (by kernel_rfl) (by kernel_rfl) (by kernel_rfl) (fun _ _ _ h => h) (v := ?_) (by kernel_rfl) ?_ (by assumption) ?_; rotate_left; (focus (intro wS hSw; skip; go_simp; try with_reducible rfl)); (try simp only [Act.put, List.setIfInBounds_toArray, List.set_cons_zero, List.set_cons_succ]))
  refine wpAnyH_ready (rs := [15]) (by kernel_rfl) (by simp) ?_
  refine AllReadyH.cons rfl (fun K hK => ?_) AllReadyH.nil
  have cg76 := cell_at B_g7 6 rfl
  have zg7 := froz_at B_g7
  have lg7 := hid_lt B_g7
  go_simp
  refine k_gen hK (fun x10 hW => ?_)
  have hB := set_blk hW B_g7
  have hf := set_now hW
  clear hW zg7 lg7 cg76
  simp only [List.setIfInBounds_toArray, List.set_cons_zero, List.set_cons_succ] at hB
  have hn := Fp.trans hHeld hf (fun i _ e => e)
  refine ⟨hn, ?_⟩
  clear hK K hHeld
  have hHeld := hn
  clear hn
  try simp only [Act.put, List.setIfInBounds_toArray, List.set_cons_zero, List.set_cons_succ]
  replace B_gR := hid_blkS B_gR hf n_gR_g7
  replace B_g4 := hid_blkS B_g4 hf n_g4_g7
  replace B_g8 := hid_blkS B_g8 hf n_g8_g7
  replace B_g7 := hB
  clear hB hf
  refine wpAnyH_done (by kernel_rfl) ?_ _
  clear cg80 cg81 cg82 cg83 cg84 cg85 cg86 cg87 cg88 cg89 zg8 lg8
  have hGe := hid_ge HN
  replace HN := hid_own HN hHeld (fun i hi e => by have h1 : i = g7 := e; have h2 := G_g7.out; omega)
  clear hHeld hGe
  have cg85 := cell_at B_g8 5 rfl
  have zg8 := froz_at B_g8
  have lg8 := hid_lt B_g8
  have cg70 := cell_at B_g7 0 rfl
  have cg71 := cell_at B_g7 1 rfl
  have cg72 := cell_at B_g7 2 rfl
  have cg73 := cell_at B_g7 3 rfl
  have cg74 := cell_at B_g7 4 rfl
  have cg75 := cell_at B_g7 5 rfl
  have cg76 := cell_at B_g7 6 rfl
  have cg77 := cell_at B_g7 7 rfl
  have cg78 := cell_at B_g7 8 rfl
  have zg7 := froz_at B_g7
  have lg7 := hid_lt B_g7
  go_upto_region 32 with fail
  clear cg85 zg8 lg8 cg70 cg71 cg72 cg73 cg74 cg75 cg76 cg77 cg78 zg7 lg7
  have cg70 := cell_at B_g7 0 rfl
  have cg71 := cell_at B_g7 1 rfl
  have cg72 := cell_at B_g7 2 rfl
  have cg73 := cell_at B_g7 3 rfl
  have cg74 := cell_at B_g7 4 rfl
  have cg75 := cell_at B_g7 5 rfl
  have cg76 := cell_at B_g7 6 rfl
  have cg77 := cell_at B_g7 7 rfl
  have cg78 := cell_at B_g7 8 rfl
  have zg7 := froz_at B_g7
  have lg7 := hid_lt B_g7
  have cgR0 := cell_at B_gR 0 rfl
  have cgR1 := cell_at B_gR 1 rfl
  have cgR2 := cell_at B_gR 2 rfl
  have cgR3 := cell_at B_gR 3 rfl
  have cgR4 := cell_at B_gR 4 rfl
  have cgR5 := cell_at B_gR 5 rfl
  have cgR6 := cell_at B_gR 6 rfl
  have cgR7 := cell_at B_gR 7 rfl
  have cgR8 := cell_at B_gR 8 rfl
  have zgR := froz_at B_gR
  have lgR := hid_lt B_gR
  go_wp2_with fail
  refine post_gen (fun W hW => ?_)
  obtain ⟨hB, hf⟩ := setE9 hW B_gR
  replace HN := hid_own HN hf (fun i hi e => by have h1 : i = gR := e; have h2 := G_gR.out; omega)
  clear hW hf cgR0 cgR1 cgR2 cgR3 cgR4 cgR5 cgR6 cgR7 cgR8 zgR lgR
  replace B_gR := hB
  clear hB
  have cgR0 := cell_at B_gR 0 rfl
  have cgR1 := cell_at B_gR 1 rfl
  have cgR2 := cell_at B_gR 2 rfl
  have cgR3 := cell_at B_gR 3 rfl
  have cgR4 := cell_at B_gR 4 rfl
  have cgR5 := cell_at B_gR 5 rfl
  have cgR6 := cell_at B_gR 6 rfl
  have cgR7 := cell_at B_gR 7 rfl
  have cgR8 := cell_at B_gR 8 rfl
  have zgR := froz_at B_gR
  have lgR := hid_lt B_gR
  refine bodyPost_ret (v := .tuple #[.agg #[.int .u8 6, .int .u32 (sr : Nat), .int .u16 (sp : Nat), .int .u32 (ds : Nat), .int .u16 (dp : Nat), .int .i64 2, .int .u8 (fb : Nat), .bool false, .int .u8 (ttl : Nat)], .int .i64 0]) (by simp only [results, Tryz.results11]; go_simp) rfl ⟨rfl, HN.out⟩
set_option maxHeartbeats 4000000 in
set_option maxRecDepth 100000 in
theorem rof_tcp_yes1 (l d op : List UInt8) (tos id : Int) (fl : Bool) (ttl sr ds : Nat) (ki : ∀ W, Calls Tryz.prog 28 #[str l] W (Ret1 (.tuple #[.agg #[.int .u8 tos, .int .u16 id, .bool fl, .int .u8 (ttl : Nat), .int .u8 6, .int .u32 (sr : Nat), .int .u32 (ds : Nat), str op], str d, .int .i64 0]) W)) (hd : d.length ≤ 1000000) (ho : tcpOk d = true) (hfi : firstB (byt d 13) = true) (w : World) : Calls Tryz.prog 11 #[str l] w (Ret1 (.tuple #[.agg #[.int .u8 6, .int .u32 (sr : Nat), .int .u16 (g16 d 0 : Nat), .int .u32 (ds : Nat), .int .u16 (g16 d 2 : Nat), .int .i64 1, .int .u8 (byt d 13 : Nat), .bool false, .int .u8 (ttl : Nat)], .int .i64 0]) w) := by
  have KI := Lib.hid ki
  clear ki
  have K6 := Lib.hid (fun W => r06_parse d hd W)
  rw [show tcV d = _ from if_pos ho] at K6
  have b13 := byt_lt d 13
  have hF : (bits .and .u8 (byt d 13 : Nat) 23 == 2) = true := (first_bits b13).trans hfi
  generalize byt d 13 = fb at *
  generalize g16 d 0 = sp at *
  generalize g16 d 2 = dp at *
  clear hfi ho
  go_enter Tryz.func11, Tryz.ntmps11
  go_wp2_with fail
  have HN := Lib.hid (Fp.refl (fun _ => False) w)
  refine calls_gen (fun x1 hW => ?_)
  have hp := new_now hW
  have hB := new_blk hW
  clear hW
  have hGe := hid_ge HN
  replace HN := hid_now HN hp
  obtain ⟨gR, hgR⟩ : ∃ gR, gR = w.heap.size := ⟨_, rfl⟩
  have G_gR := Lib.hid (Nat.le_trans hGe (Nat.le_of_eq hgR.symm))
  rw [← hgR] at hB ⊢
  have B_gR := hB
  clear hB hGe hgR
  clear hp
  refine (show Calls _ _ _ _ _ from KI.out _).mono ?_
  rintro e x2 ⟨rfl, hp⟩
  replace HN := hid_now HN hp
  replace B_gR := hid_blk B_gR hp
  clear hp
  go_upto_region 2 with fail
  refine wp_gen (fun x3 hW => ?_)
  have l2gR := hid_lt B_gR
  have hp := new_now hW
  have hB := new_blk hW
  clear hW
  have hGe := hid_ge HN
  replace HN := hid_now HN hp
  replace B_gR := hid_blk B_gR hp
  obtain ⟨g4, hg4⟩ : ∃ g4, g4 = x2.heap.size := ⟨_, rfl⟩
  have G_g4 := Lib.hid (Nat.le_trans hGe (Nat.le_of_eq hg4.symm))
  have n_gR_g4 : ¬ gR = g4 := by omega
  have n_g4_gR : ¬ g4 = gR := by omega
  clear l2gR
  rw [← hg4] at hB ⊢
  have B_g4 := hB
  clear hB hGe hg4
  clear hp
  have cg40 := cell_at B_g4 0 rfl
  have cg41 := cell_at B_g4 1 rfl
  have cg42 := cell_at B_g4 2 rfl
  have cg43 := cell_at B_g4 3 rfl
  have cg44 := cell_at B_g4 4 rfl
  have cg45 := cell_at B_g4 5 rfl
  have cg46 := cell_at B_g4 6 rfl
  have cg47 := cell_at B_g4 7 rfl
  have zg4 := froz_at B_g4
  have lg4 := hid_lt B_g4
  go_upto_region 5 with fail
  clear cg40 cg41 cg42 cg43 cg44 cg45 cg46 cg47 zg4 lg4
  refine wp_gen (fun x4 hW => ?_)
  have l2gR := hid_lt B_gR
  have l2g4 := hid_lt B_g4
  have hp := new_now hW
  have hB := new_blk hW
  clear hW
  have hGe := hid_ge HN
  replace HN := hid_now HN hp
  replace B_gR := hid_blk B_gR hp
  replace B_g4 := hid_blk B_g4 hp
  obtain ⟨g7, hg7⟩ : ∃ g7, g7 = x3.heap.size := ⟨_, rfl⟩
  have G_g7 := Lib.hid (Nat.le_trans hGe (Nat.le_of_eq hg7.symm))
  have n_gR_g7 : ¬ gR = g7 := by omega
  have n_g7_gR : ¬ g7 = gR := by omega
  clear l2gR
  have n_g4_g7 : ¬ g4 = g7 := by omega
  have n_g7_g4 : ¬ g7 = g4 := by omega
  clear l2g4
  rw [← hg7] at hB ⊢
  have B_g7 := hB
  clear hB hGe hg7
  clear hp
  have cg44 := cell_at B_g4 4 rfl
  have zg4 := froz_at B_g4
  have lg4 := hid_lt B_g4
  go_wp2_with fail
  clear cg44 zg4 lg4
  refine (show Calls _ _ _ _ _ from K6.out _).mono ?_
  rintro e x5 ⟨rfl, hp⟩
  replace HN := hid_now HN hp
  replace B_gR := hid_blk B_gR hp
  replace B_g4 := hid_blk B_g4 hp
  replace B_g7 := hid_blk B_g7 hp
  clear hp
  go_upto_region 9 with fail
  refine wp_gen (fun x6 hW => ?_)
  have l2gR := hid_lt B_gR
  have l2g4 := hid_lt B_g4
  have l2g7 := hid_lt B_g7
  have hp := new_now hW
  have hB := new_blk hW
  clear hW
  have hGe := hid_ge HN
  replace HN := hid_now HN hp
  replace B_gR := hid_blk B_gR hp
  replace B_g4 := hid_blk B_g4 hp
  replace B_g7 := hid_blk B_g7 hp
  obtain ⟨g8, hg8⟩ : ∃ g8, g8 = x5.heap.size := ⟨_, rfl⟩
  have G_g8 := Lib.hid (Nat.le_trans hGe (Nat.le_of_eq hg8.symm))
  have n_gR_g8 : ¬ gR = g8 := by omega
  have n_g8_gR : ¬ g8 = gR := by omega
  clear l2gR
  have n_g4_g8 : ¬ g4 = g8 := by omega
  have n_g8_g4 : ¬ g8 = g4 := by omega
  clear l2g4
  have n_g7_g8 : ¬ g7 = g8 := by omega
  have n_g8_g7 : ¬ g8 = g7 := by omega
  clear l2g7
  rw [← hg8] at hB ⊢
  have B_g8 := hB
  clear hB hGe hg8
  clear hp
  have cg80 := cell_at B_g8 0 rfl
  have cg81 := cell_at B_g8 1 rfl
  have cg82 := cell_at B_g8 2 rfl
  have cg83 := cell_at B_g8 3 rfl
  have cg84 := cell_at B_g8 4 rfl
  have cg85 := cell_at B_g8 5 rfl
  have cg86 := cell_at B_g8 6 rfl
  have cg87 := cell_at B_g8 7 rfl
  have cg88 := cell_at B_g8 8 rfl
  have cg89 := cell_at B_g8 9 rfl
  have zg8 := froz_at B_g8
  have lg8 := hid_lt B_g8
  go_upto_region 11 with fail
  refine wp_region_held_drew (S := fun wx => Fp (fun b => b = g7) x6 wx) (by kernel_rfl) (Fp.drew (Fp.refl _ _)) (fun hHeld0 => ?_)
  refine any_eq hHeld0 (fun x7 hW hHeld => ?_)
  clear hHeld0
  replace B_gR := hid_blk B_gR (noW_drew hW)
  replace B_g4 := hid_blk B_g4 (noW_drew hW)
  replace B_g7 := hid_blk B_g7 (noW_drew hW)
  replace B_g8 := hid_blk B_g8 (noW_drew hW)
  clear hW
  (refine take_at 0 (some 54) rfl rfl (by kernel_rfl) (by kernel_rfl) (by kernel_rfl) (fun _ _ _ h => h) (v := ?_) (by kernel_rfl) ?_ (by assumption) ?_; rotate_left; (focus (intro wS hSw; skip; go_simp; try with_reducible rfl)); (try simp only [Act.put, List.setIfInBounds_toArray, List.set_cons_zero, List.set_cons_succ]))
  (refine take_at 1 (some 55) rfl rfl (by kernel_rfl) (by kernel_rfl) (by kernel_rfl) (fun _ _ _ h => h) (v := ?_) (by kernel_rfl) ?_ (by assumption) ?_; rotate_left; (focus (intro wS hSw; have hX := fun b o h hn => hSw.cell (p := ⟨b, o, none⟩) h hn; go_simp; try with_reducible rfl)); (try simp only [Act.put, List.setIfInBounds_toArray, List.set_cons_zero, List.set_cons_succ]))
  (refine take_at 2 (some 56) rfl rfl (by kernel_rfl) (by kernel_rfl) (by kernel_rfl) (fun _ _ _ h => h) (v := ?_) (by kernel_rfl) ?_ (by assumption) ?_; rotate_left; (focus (intro wS hSw; skip; go_simp; try with_reducible rfl)); (try simp only [Act.put, List.setIfInBounds_toArray, List.set_cons_zero, List.set_cons_succ]))
  (refine take_at 3 (some 57) rfl rfl (by kernel_rfl) (by kernel_rfl) (by kernel_rfl) (fun _ _ _ h => h) (v := ?_) (by kernel_rfl) ?_ (by assumption) ?_; rotate_left; (focus (intro wS hSw; have hX := fun b o h hn => hSw.cell (p := ⟨b, o, none⟩) h hn; go_simp; try with_reducible rfl)); (try simp only [Act.put, List.setIfInBounds_toArray, List.set_cons_zero, List.set_cons_succ]))
  (refine take_at 4 (some 58) rfl rfl (by kernel_rfl) (by kernel_rfl) (by kernel_rfl) (fun _ _ _ h => h) (v := ?_) (by kernel_rfl) ?_ (by assumption) ?_; rotate_left; (focus (intro wS hSw; skip; go_simp; try with_reducible rfl)); (try simp only [Act.put, List.setIfInBounds_toArray, List.set_cons_zero, List.set_cons_succ]))
  (refine take_at 5 (some 59) rfl rfl (by kernel_rfl) (by kernel_rfl) (by kernel_rfl) (fun _ _ _ h => h) (v := ?_) (by kernel_rfl) ?_ (by assumption) ?_; rotate_left; (focus (intro wS hSw; have hX := fun b o h hn => hSw.cell (p := ⟨b, o, none⟩) h hn; go_simp; try with_reducible rfl)); (try simp only [Act.put, List.setIfInBounds_toArray, List.set_cons_zero, List.set_cons_succ]))
  (refine take_at 6 (some 60) rfl rfl (by kernel_rfl) (by kernel_rfl) (by kernel_rfl) (fun _ _ _ h => h) (v := ?_) (by kernel_rfl) ?_ (by assumption) ?_; rotate_left; (focus (intro wS hSw; skip; go_simp; try with_reducible rfl)); (try simp only [Act.put, List.setIfInBounds_toArray, List.set_cons_zero, List.set_cons_succ]))
  (refine take_at 7 (some 61) rfl rfl (by kernel_rfl) (by kernel_rfl) (by kernel_rfl) (fun _ _ _ h => h) (v := ?_) (by kernel_rfl) ?_ (by assumption) ?_; rotate_left; (focus (intro wS hSw; skip; go_simp; try with_reducible rfl)); (try simp only [Act.put, List.setIfInBounds_toArray, List.set_cons_zero, List.set_cons_succ]))
  (refine take_at 8 (some 62) rfl rfl (by kernel_rfl) (by kernel_rfl) (by kernel_rfl) (fun _ _ _ h => h) (v := ?_) (by kernel_rfl) ?_ (by assumption) ?_; rotate_left; (focus (intro wS hSw; skip; go_simp; try with_reducible rfl)); (try simp only [Act.put, List.setIfInBounds_toArray, List.set_cons_zero, List.set_cons_succ]))
  refine wpAnyH_ready (rs := [9]) (by kernel_rfl) (by simp) ?_
  refine AllReadyH.cons rfl (fun K hK => ?_) AllReadyH.nil
  have cg72 := cell_at B_g7 2 rfl
  have zg7 := froz_at B_g7
  have lg7 := hid_lt B_g7
  go_simp
  refine k_gen hK (fun x8 hW => ?_)
  have hB := set_blk hW B_g7
  have hf := set_now hW
  clear hW zg7 lg7 cg72
  simp only [List.setIfInBounds_toArray, List.set_cons_zero, List.set_cons_succ] at hB
  have hn := Fp.trans hHeld hf (fun i _ e => e)
  refine ⟨hn, ?_⟩
  clear hK K hHeld
  have hHeld := hn
  clear hn
  try simp only [Act.put, List.setIfInBounds_toArray, List.set_cons_zero, List.set_cons_succ]
  replace B_gR := hid_blkS B_gR hf n_gR_g7
  replace B_g4 := hid_blkS B_g4 hf n_g4_g7
  replace B_g8 := hid_blkS B_g8 hf n_g8_g7
  replace B_g7 := hB
  clear hB hf
  (refine take_at 10 (some 63) rfl rfl (by kernel_rfl) (by kernel_rfl) (by kernel_rfl) (fun _ _ _ h => h) (v := ?_) (by kernel_rfl) ?_ (by assumption) ?_; rotate_left; (focus (intro wS hSw; skip; go_simp; try with_reducible rfl)); (try simp only [Act.put, List.setIfInBounds_toArray, List.set_cons_zero, List.set_cons_succ]))
  (refine take_at 11 (some 64) rfl rfl (by kernel_rfl) (by kernel_rfl) (by kernel_rfl) (fun _ _ _ h => h) (v := ?_) (by kernel_rfl) ?_ (by assumption) ?_; rotate_left; (focus (intro wS hSw; skip; go_simp; try with_reducible rfl)); (try simp only [Act.put, List.setIfInBounds_toArray, List.set_cons_zero, List.set_cons_succ]))
  (refine take_at 12 (some 65) rfl rfl (by kernel_rfl) (by kernel_rfl) (by kernel_rfl) (fun _ _ _ h => h) (v := ?_) (by kernel_rfl) ?_ (by assumption) ?_; rotate_left; (focus (intro wS hSw; skip; go_simp; try with_reducible rfl)); (try simp only [Act.put, List.setIfInBounds_toArray, List.set_cons_zero, List.set_cons_succ]))
  refine wpAnyH_ready (rs := [13]) (by kernel_rfl) (by simp) ?_
  refine AllReadyH.cons rfl (fun K hK => ?_) AllReadyH.nil
  have cg74 := cell_at B_g7 4 rfl
  have zg7 := froz_at B_g7
  have lg7 := hid_lt B_g7
  go_simp
  refine k_gen hK (fun x9 hW => ?_)
  have hB := set_blk hW B_g7
  have hf := set_now hW
  clear hW zg7 lg7 cg74
  simp only [List.setIfInBounds_toArray, List.set_cons_zero, List.set_cons_succ] at hB
  have hn := Fp.trans hHeld hf (fun i _ e => e)
  refine ⟨hn, ?_⟩
  clear hK K hHeld
  have hHeld := hn
  clear hn
  try simp only [Act.put, List.setIfInBounds_toArray, List.set_cons_zero, List.set_cons_succ]
  replace B_gR := hid_blkS B_gR hf n_gR_g7
  replace B_g4 := hid_blkS B_g4 hf n_g4_g7
  replace B_g8 := hid_blkS B_g8 hf n_g8_g7
  replace B_g7 := hB
  clear hB hf
  (refine take_at 14 (some 66) rfl rfl (by kernel_rfl) (by kernel_rfl) (by kernel_rfl) (fun _ _ _ h => h) (v := ?_) (by kernel_rfl) ?_ (by assumption) ?_; rotate_left; (focus (intro wS hSw; skip; go_simp; try with_reducible rfl)); (try simp only [Act.put, List.setIfInBounds_toArray, List.set_cons_zero, List.set_cons_succ]))
  refine wpAnyH_ready (rs := [15]) (by kernel_rfl) (by simp) ?_
  refine AllReadyH.cons rfl (fun K hK => ?_) AllReadyH.nil
  have cg76 := cell_at B_g7 6 rfl
  have zg7 := froz_at B_g7
  have lg7 := hid_lt B_g7
  go_simp
  refine k_gen hK (fun x10 hW => ?_)
  have hB := set_blk hW B_g7
  have hf := set_now hW
  clear hW zg7 lg7 cg76
  simp only [List.setIfInBounds_toArray, List.set_cons_zero, List.set_cons_succ] at hB
  have hn := Fp.trans hHeld hf (fun i _ e => e)
  refine ⟨hn, ?_⟩
  clear hK K hHeld
  have hHeld := hn
  clear hn
  try simp only [Act.put, List.setIfInBounds_toArray, List.set_cons_zero, List.set_cons_succ]
  replace B_gR := hid_blkS B_gR hf n_gR_g7
  replace B_g4 := hid_blkS B_g4 hf n_g4_g7
  replace B_g8 := hid_blkS B_g8 hf n_g8_g7
  replace B_g7 := hB
  clear hB hf
  refine wpAnyH_done (by kernel_rfl) ?_ _
  clear cg80 cg81 cg82 cg83 cg84 cg85 cg86 cg87 cg88 cg89 zg8 lg8
  have hGe := hid_ge HN
  replace HN := hid_own HN hHeld (fun i hi e => by have h1 : i = g7 := e; have h2 := G_g7.out; omega)
  clear hHeld hGe
  have cg85 := cell_at B_g8 5 rfl
  have zg8 := froz_at B_g8
  have lg8 := hid_lt B_g8
  have cg70 := cell_at B_g7 0 rfl
  have cg71 := cell_at B_g7 1 rfl
  have cg72 := cell_at B_g7 2 rfl
  have cg73 := cell_at B_g7 3 rfl
  have cg74 := cell_at B_g7 4 rfl
  have cg75 := cell_at B_g7 5 rfl
  have cg76 := cell_at B_g7 6 rfl
  have cg77 := cell_at B_g7 7 rfl
  have cg78 := cell_at B_g7 8 rfl
  have zg7 := froz_at B_g7
  have lg7 := hid_lt B_g7
  go_upto_region 32 with fail
  clear cg85 zg8 lg8 cg70 cg71 cg72 cg73 cg74 cg75 cg76 cg77 cg78 zg7 lg7
  refine wp_gen (fun x11 hW => ?_)
  have hB := set_blk hW B_g7
  have hf := set_now hW
  clear hW
  simp only [List.setIfInBounds_toArray, List.set_cons_zero, List.set_cons_succ] at hB
  replace HN := hid_own HN hf (fun i hi e => by have h1 : i = g7 := e; have h2 := G_g7.out; omega)
  replace B_gR := hid_blkS B_gR hf n_gR_g7
  replace B_g4 := hid_blkS B_g4 hf n_g4_g7
  replace B_g8 := hid_blkS B_g8 hf n_g8_g7
  replace B_g7 := hB
  clear hB hf
  have cg70 := cell_at B_g7 0 rfl
  have cg71 := cell_at B_g7 1 rfl
  have cg72 := cell_at B_g7 2 rfl
  have cg73 := cell_at B_g7 3 rfl
  have cg74 := cell_at B_g7 4 rfl
  have cg75 := cell_at B_g7 5 rfl
  have cg76 := cell_at B_g7 6 rfl
  have cg77 := cell_at B_g7 7 rfl
  have cg78 := cell_at B_g7 8 rfl
  have zg7 := froz_at B_g7
  have lg7 := hid_lt B_g7
  have cgR0 := cell_at B_gR 0 rfl
  have cgR1 := cell_at B_gR 1 rfl
  have cgR2 := cell_at B_gR 2 rfl
  have cgR3 := cell_at B_gR 3 rfl
  have cgR4 := cell_at B_gR 4 rfl
  have cgR5 := cell_at B_gR 5 rfl
  have cgR6 := cell_at B_gR 6 rfl
  have cgR7 := cell_at B_gR 7 rfl
  have cgR8 := cell_at B_gR 8 rfl
  have zgR := froz_at B_gR
  have lgR := hid_lt B_gR
  go_wp2_with fail
  refine post_gen (fun W hW => ?_)
  obtain ⟨hB, hf⟩ := setE9 hW B_gR
  replace HN := hid_own HN hf (fun i hi e => by have h1 : i = gR := e; have h2 := G_gR.out; omega)
  clear hW hf cgR0 cgR1 cgR2 cgR3 cgR4 cgR5 cgR6 cgR7 cgR8 zgR lgR
  replace B_gR := hB
  clear hB
  have cgR0 := cell_at B_gR 0 rfl
  have cgR1 := cell_at B_gR 1 rfl
  have cgR2 := cell_at B_gR 2 rfl
  have cgR3 := cell_at B_gR 3 rfl
  have cgR4 := cell_at B_gR 4 rfl
  have cgR5 := cell_at B_gR 5 rfl
  have cgR6 := cell_at B_gR 6 rfl
  have cgR7 := cell_at B_gR 7 rfl
  have cgR8 := cell_at B_gR 8 rfl
  have zgR := froz_at B_gR
  have lgR := hid_lt B_gR
  refine bodyPost_ret (v := .tuple #[.agg #[.int .u8 6, .int .u32 (sr : Nat), .int .u16 (sp : Nat), .int .u32 (ds : Nat), .int .u16 (dp : Nat), .int .i64 1, .int .u8 (fb : Nat), .bool false, .int .u8 (ttl : Nat)], .int .i64 0]) (by simp only [results, Tryz.results11]; go_simp) rfl ⟨rfl, HN.out⟩
set_option maxHeartbeats 4000000 in
set_option maxRecDepth 100000 in
theorem rof_udp_no (l d op : List UInt8) (tos id : Int) (fl : Bool) (ttl sr ds : Nat) (ki : ∀ W, Calls Tryz.prog 28 #[str l] W (Ret1 (.tuple #[.agg #[.int .u8 tos, .int .u16 id, .bool fl, .int .u8 (ttl : Nat), .int .u8 17, .int .u32 (sr : Nat), .int .u32 (ds : Nat), str op], str d, .int .i64 0]) W)) (hd : d.length ≤ 1000000) (ho : udpOk d = false) (w : World) : Calls Tryz.prog 11 #[str l] w (Ret1 (.tuple #[.agg #[.int .u8 0, .int .u32 0, .int .u16 0, .int .u32 0, .int .u16 0, .int .i64 0, .int .u8 0, .bool false, .int .u8 0], .int .i64 7]) w) := by
  have KI := Lib.hid ki
  clear ki
  have K6 := Lib.hid (fun W => r05_parse d hd W)
  rw [show udV d = _ from if_neg (by rw [ho]; decide)] at K6
  unfold udZ at K6
  go_enter Tryz.func11, Tryz.ntmps11
  go_wp2_with fail
  have HN := Lib.hid (Fp.refl (fun _ => False) w)
  refine calls_gen (fun x1 hW => ?_)
  have hp := new_now hW
  have hB := new_blk hW
  clear hW
  have hGe := hid_ge HN
  replace HN := hid_now HN hp
  obtain ⟨gR, hgR⟩ : ∃ gR, gR = w.heap.size := ⟨_, rfl⟩
  have G_gR := Lib.hid (Nat.le_trans hGe (Nat.le_of_eq hgR.symm))
  rw [← hgR] at hB ⊢
  have B_gR := hB
  clear hB hGe hgR
  clear hp
  refine (show Calls _ _ _ _ _ from KI.out _).mono ?_
  rintro e x2 ⟨rfl, hp⟩
  replace HN := hid_now HN hp
  replace B_gR := hid_blk B_gR hp
  clear hp
  go_upto_region 2 with fail
  refine wp_gen (fun x3 hW => ?_)
  have l2gR := hid_lt B_gR
  have hp := new_now hW
  have hB := new_blk hW
  clear hW
  have hGe := hid_ge HN
  replace HN := hid_now HN hp
  replace B_gR := hid_blk B_gR hp
  obtain ⟨g4, hg4⟩ : ∃ g4, g4 = x2.heap.size := ⟨_, rfl⟩
  have G_g4 := Lib.hid (Nat.le_trans hGe (Nat.le_of_eq hg4.symm))
  have n_gR_g4 : ¬ gR = g4 := by omega
  have n_g4_gR : ¬ g4 = gR := by omega
  clear l2gR
  rw [← hg4] at hB ⊢
  have B_g4 := hB
  clear hB hGe hg4
  clear hp
  have cg40 := cell_at B_g4 0 rfl
  have cg41 := cell_at B_g4 1 rfl
  have cg42 := cell_at B_g4 2 rfl
  have cg43 := cell_at B_g4 3 rfl
  have cg44 := cell_at B_g4 4 rfl
  have cg45 := cell_at B_g4 5 rfl
  have cg46 := cell_at B_g4 6 rfl
  have cg47 := cell_at B_g4 7 rfl
  have zg4 := froz_at B_g4
  have lg4 := hid_lt B_g4
  go_upto_region 5 with fail
  clear cg40 cg41 cg42 cg43 cg44 cg45 cg46 cg47 zg4 lg4
  refine wp_gen (fun x4 hW => ?_)
  have l2gR := hid_lt B_gR
  have l2g4 := hid_lt B_g4
  have hp := new_now hW
  have hB := new_blk hW
  clear hW
  have hGe := hid_ge HN
  replace HN := hid_now HN hp
  replace B_gR := hid_blk B_gR hp
  replace B_g4 := hid_blk B_g4 hp
  obtain ⟨g7, hg7⟩ : ∃ g7, g7 = x3.heap.size := ⟨_, rfl⟩
  have G_g7 := Lib.hid (Nat.le_trans hGe (Nat.le_of_eq hg7.symm))
  have n_gR_g7 : ¬ gR = g7 := by omega
  have n_g7_gR : ¬ g7 = gR := by omega
  clear l2gR
  have n_g4_g7 : ¬ g4 = g7 := by omega
  have n_g7_g4 : ¬ g7 = g4 := by omega
  clear l2g4
  rw [← hg7] at hB ⊢
  have B_g7 := hB
  clear hB hGe hg7
  clear hp
  have cg44 := cell_at B_g4 4 rfl
  have zg4 := froz_at B_g4
  have lg4 := hid_lt B_g4
  go_wp2_with fail
  clear cg44 zg4 lg4
  refine (show Calls _ _ _ _ _ from K6.out _).mono ?_
  rintro e x5 ⟨rfl, hp⟩
  replace HN := hid_now HN hp
  replace B_gR := hid_blk B_gR hp
  replace B_g4 := hid_blk B_g4 hp
  replace B_g7 := hid_blk B_g7 hp
  clear hp
  go_upto_region 16 with fail
  refine wp_gen (fun x6 hW => ?_)
  have l2gR := hid_lt B_gR
  have l2g4 := hid_lt B_g4
  have l2g7 := hid_lt B_g7
  have hp := new_now hW
  have hB := new_blk hW
  clear hW
  have hGe := hid_ge HN
  replace HN := hid_now HN hp
  replace B_gR := hid_blk B_gR hp
  replace B_g4 := hid_blk B_g4 hp
  replace B_g7 := hid_blk B_g7 hp
  obtain ⟨g8, hg8⟩ : ∃ g8, g8 = x5.heap.size := ⟨_, rfl⟩
  have G_g8 := Lib.hid (Nat.le_trans hGe (Nat.le_of_eq hg8.symm))
  have n_gR_g8 : ¬ gR = g8 := by omega
  have n_g8_gR : ¬ g8 = gR := by omega
  clear l2gR
  have n_g4_g8 : ¬ g4 = g8 := by omega
  have n_g8_g4 : ¬ g8 = g4 := by omega
  clear l2g4
  have n_g7_g8 : ¬ g7 = g8 := by omega
  have n_g8_g7 : ¬ g8 = g7 := by omega
  clear l2g7
  rw [← hg8] at hB ⊢
  have B_g8 := hB
  clear hB hGe hg8
  clear hp
  have cgR0 := cell_at B_gR 0 rfl
  have cgR1 := cell_at B_gR 1 rfl
  have cgR2 := cell_at B_gR 2 rfl
  have cgR3 := cell_at B_gR 3 rfl
  have cgR4 := cell_at B_gR 4 rfl
  have cgR5 := cell_at B_gR 5 rfl
  have cgR6 := cell_at B_gR 6 rfl
  have cgR7 := cell_at B_gR 7 rfl
  have cgR8 := cell_at B_gR 8 rfl
  have zgR := froz_at B_gR
  have lgR := hid_lt B_gR
  go_wp2_with fail
  refine post_gen (fun W hW => ?_)
  obtain ⟨hB, hf⟩ := setE9 hW B_gR
  replace HN := hid_own HN hf (fun i hi e => by have h1 : i = gR := e; have h2 := G_gR.out; omega)
  clear hW hf cgR0 cgR1 cgR2 cgR3 cgR4 cgR5 cgR6 cgR7 cgR8 zgR lgR
  replace B_gR := hB
  clear hB
  have cgR0 := cell_at B_gR 0 rfl
  have cgR1 := cell_at B_gR 1 rfl
  have cgR2 := cell_at B_gR 2 rfl
  have cgR3 := cell_at B_gR 3 rfl
  have cgR4 := cell_at B_gR 4 rfl
  have cgR5 := cell_at B_gR 5 rfl
  have cgR6 := cell_at B_gR 6 rfl
  have cgR7 := cell_at B_gR 7 rfl
  have cgR8 := cell_at B_gR 8 rfl
  have zgR := froz_at B_gR
  have lgR := hid_lt B_gR
  refine bodyPost_ret (v := .tuple #[.agg #[.int .u8 0, .int .u32 0, .int .u16 0, .int .u32 0, .int .u16 0, .int .i64 0, .int .u8 0, .bool false, .int .u8 0], .int .i64 7]) (by simp only [results, Tryz.results11]; go_simp) rfl ⟨rfl, HN.out⟩
set_option maxHeartbeats 4000000 in
set_option maxRecDepth 100000 in
theorem rof_udp_yes (l d op : List UInt8) (tos id : Int) (fl : Bool) (ttl sr ds : Nat) (ki : ∀ W, Calls Tryz.prog 28 #[str l] W (Ret1 (.tuple #[.agg #[.int .u8 tos, .int .u16 id, .bool fl, .int .u8 (ttl : Nat), .int .u8 17, .int .u32 (sr : Nat), .int .u32 (ds : Nat), str op], str d, .int .i64 0]) W)) (hd : d.length ≤ 1000000) (ho : udpOk d = true) (w : World) : Calls Tryz.prog 11 #[str l] w (Ret1 (.tuple #[.agg #[.int .u8 17, .int .u32 (sr : Nat), .int .u16 (g16 d 0 : Nat), .int .u32 (ds : Nat), .int .u16 (g16 d 2 : Nat), .int .i64 2, .int .u8 0, .bool false, .int .u8 (ttl : Nat)], .int .i64 0]) w) := by
  have KI := Lib.hid ki
  clear ki
  have K6 := Lib.hid (fun W => r05_parse d hd W)
  rw [show udV d = _ from if_pos ho] at K6
  generalize g16 d 0 = sp at *
  generalize g16 d 2 = dp at *
  clear ho
  go_enter Tryz.func11, Tryz.ntmps11
  go_wp2_with fail
  have HN := Lib.hid (Fp.refl (fun _ => False) w)
  refine calls_gen (fun x1 hW => ?_)
  have hp := new_now hW
  have hB := new_blk hW
  clear hW
  have hGe := hid_ge HN
  replace HN := hid_now HN hp
  obtain ⟨gR, hgR⟩ : ∃ gR, gR = w.heap.size := ⟨_, rfl⟩
  have G_gR := Lib.hid (Nat.le_trans hGe (Nat.le_of_eq hgR.symm))
  rw [← hgR] at hB ⊢
  have B_gR := hB
  clear hB hGe hgR
  clear hp
  refine (show Calls _ _ _ _ _ from KI.out _).mono ?_
  rintro e x2 ⟨rfl, hp⟩
  replace HN := hid_now HN hp
  replace B_gR := hid_blk B_gR hp
  clear hp
  go_upto_region 2 with fail
  refine wp_gen (fun x3 hW => ?_)
  have l2gR := hid_lt B_gR
  have hp := new_now hW
  have hB := new_blk hW
  clear hW
  have hGe := hid_ge HN
  replace HN := hid_now HN hp
  replace B_gR := hid_blk B_gR hp
  obtain ⟨g4, hg4⟩ : ∃ g4, g4 = x2.heap.size := ⟨_, rfl⟩
  have G_g4 := Lib.hid (Nat.le_trans hGe (Nat.le_of_eq hg4.symm))
  have n_gR_g4 : ¬ gR = g4 := by omega
  have n_g4_gR : ¬ g4 = gR := by omega
  clear l2gR
  rw [← hg4] at hB ⊢
  have B_g4 := hB
  clear hB hGe hg4
  clear hp
  have cg40 := cell_at B_g4 0 rfl
  have cg41 := cell_at B_g4 1 rfl
  have cg42 := cell_at B_g4 2 rfl
  have cg43 := cell_at B_g4 3 rfl
  have cg44 := cell_at B_g4 4 rfl
  have cg45 := cell_at B_g4 5 rfl
  have cg46 := cell_at B_g4 6 rfl
  have cg47 := cell_at B_g4 7 rfl
  have zg4 := froz_at B_g4
  have lg4 := hid_lt B_g4
  go_upto_region 5 with fail
  clear cg40 cg41 cg42 cg43 cg44 cg45 cg46 cg47 zg4 lg4
  refine wp_gen (fun x4 hW => ?_)
  have l2gR := hid_lt B_gR
  have l2g4 := hid_lt B_g4
  have hp := new_now hW
  have hB := new_blk hW
  clear hW
  have hGe := hid_ge HN
  replace HN := hid_now HN hp
  replace B_gR := hid_blk B_gR hp
  replace B_g4 := hid_blk B_g4 hp
  obtain ⟨g7, hg7⟩ : ∃ g7, g7 = x3.heap.size := ⟨_, rfl⟩
  have G_g7 := Lib.hid (Nat.le_trans hGe (Nat.le_of_eq hg7.symm))
  have n_gR_g7 : ¬ gR = g7 := by omega
  have n_g7_gR : ¬ g7 = gR := by omega
  clear l2gR
  have n_g4_g7 : ¬ g4 = g7 := by omega
  have n_g7_g4 : ¬ g7 = g4 := by omega
  clear l2g4
  rw [← hg7] at hB ⊢
  have B_g7 := hB
  clear hB hGe hg7
  clear hp
  have cg44 := cell_at B_g4 4 rfl
  have zg4 := froz_at B_g4
  have lg4 := hid_lt B_g4
  go_wp2_with fail
  clear cg44 zg4 lg4
  refine (show Calls _ _ _ _ _ from K6.out _).mono ?_
  rintro e x5 ⟨rfl, hp⟩
  replace HN := hid_now HN hp
  replace B_gR := hid_blk B_gR hp
  replace B_g4 := hid_blk B_g4 hp
  replace B_g7 := hid_blk B_g7 hp
  clear hp
  go_upto_region 16 with fail
  refine wp_gen (fun x6 hW => ?_)
  have l2gR := hid_lt B_gR
  have l2g4 := hid_lt B_g4
  have l2g7 := hid_lt B_g7
  have hp := new_now hW
  have hB := new_blk hW
  clear hW
  have hGe := hid_ge HN
  replace HN := hid_now HN hp
  replace B_gR := hid_blk B_gR hp
  replace B_g4 := hid_blk B_g4 hp
  replace B_g7 := hid_blk B_g7 hp
  obtain ⟨g8, hg8⟩ : ∃ g8, g8 = x5.heap.size := ⟨_, rfl⟩
  have G_g8 := Lib.hid (Nat.le_trans hGe (Nat.le_of_eq hg8.symm))
  have n_gR_g8 : ¬ gR = g8 := by omega
  have n_g8_gR : ¬ g8 = gR := by omega
  clear l2gR
  have n_g4_g8 : ¬ g4 = g8 := by omega
  have n_g8_g4 : ¬ g8 = g4 := by omega
  clear l2g4
  have n_g7_g8 : ¬ g7 = g8 := by omega
  have n_g8_g7 : ¬ g8 = g7 := by omega
  clear l2g7
  rw [← hg8] at hB ⊢
  have B_g8 := hB
  clear hB hGe hg8
  clear hp
  have cg80 := cell_at B_g8 0 rfl
  have cg81 := cell_at B_g8 1 rfl
  have cg82 := cell_at B_g8 2 rfl
  have cg83 := cell_at B_g8 3 rfl
  have zg8 := froz_at B_g8
  have lg8 := hid_lt B_g8
  go_upto_region 18 with fail
  refine wp_region_held_drew (S := fun wx => Fp (fun b => b = g7) x6 wx) (by kernel_rfl) (Fp.drew (Fp.refl _ _)) (fun hHeld0 => ?_)
  refine any_eq hHeld0 (fun x7 hW hHeld => ?_)
  clear hHeld0
  replace B_gR := hid_blk B_gR (noW_drew hW)
  replace B_g4 := hid_blk B_g4 (noW_drew hW)
  replace B_g7 := hid_blk B_g7 (noW_drew hW)
  replace B_g8 := hid_blk B_g8 (noW_drew hW)
  clear hW
  (refine take_at 0 (some 83) rfl rfl (by kernel_rfl) (by kernel_rfl) (by kernel_rfl) (fun _ _ _ h => h) (v := ?_) (by kernel_rfl) ?_ (by assumption) ?_; rotate_left; (focus (intro wS hSw; skip; go_simp; try with_reducible rfl)); (try simp only [Act.put, List.setIfInBounds_toArray, List.set_cons_zero, List.set_cons_succ]))
  (refine take_at 1 (some 84) rfl rfl (by kernel_rfl) (by kernel_rfl) (by kernel_rfl) (fun _ _ _ h => h) (v := ?_) (by kernel_rfl) ?_ (by assumption) ?_; rotate_left; (focus (intro wS hSw; have hX := fun b o h hn => hSw.cell (p := ⟨b, o, none⟩) h hn; go_simp; try with_reducible rfl)); (try simp only [Act.put, List.setIfInBounds_toArray, List.set_cons_zero, List.set_cons_succ]))
  (refine take_at 2 (some 85) rfl rfl (by kernel_rfl) (by kernel_rfl) (by kernel_rfl) (fun _ _ _ h => h) (v := ?_) (by kernel_rfl) ?_ (by assumption) ?_; rotate_left; (focus (intro wS hSw; skip; go_simp; try with_reducible rfl)); (try simp only [Act.put, List.setIfInBounds_toArray, List.set_cons_zero, List.set_cons_succ]))
  (refine take_at 3 (some 86) rfl rfl (by kernel_rfl) (by kernel_rfl) (by kernel_rfl) (fun _ _ _ h => h) (v := ?_) (by kernel_rfl) ?_ (by assumption) ?_; rotate_left; (focus (intro wS hSw; have hX := fun b o h hn => hSw.cell (p := ⟨b, o, none⟩) h hn; go_simp; try with_reducible rfl)); (try simp only [Act.put, List.setIfInBounds_toArray, List.set_cons_zero, List.set_cons_succ]))
  (refine take_at 4 (some 87) rfl rfl (by kernel_rfl) (by kernel_rfl) (by kernel_rfl) (fun _ _ _ h => h) (v := ?_) (by kernel_rfl) ?_ (by assumption) ?_; rotate_left; (focus (intro wS hSw; skip; go_simp; try with_reducible rfl)); (try simp only [Act.put, List.setIfInBounds_toArray, List.set_cons_zero, List.set_cons_succ]))
  (refine take_at 5 (some 88) rfl rfl (by kernel_rfl) (by kernel_rfl) (by kernel_rfl) (fun _ _ _ h => h) (v := ?_) (by kernel_rfl) ?_ (by assumption) ?_; rotate_left; (focus (intro wS hSw; skip; go_simp; try with_reducible rfl)); (try simp only [Act.put, List.setIfInBounds_toArray, List.set_cons_zero, List.set_cons_succ]))
  (refine take_at 6 (some 89) rfl rfl (by kernel_rfl) (by kernel_rfl) (by kernel_rfl) (fun _ _ _ h => h) (v := ?_) (by kernel_rfl) ?_ (by assumption) ?_; rotate_left; (focus (intro wS hSw; skip; go_simp; try with_reducible rfl)); (try simp only [Act.put, List.setIfInBounds_toArray, List.set_cons_zero, List.set_cons_succ]))
  refine wpAnyH_ready (rs := [7]) (by kernel_rfl) (by simp) ?_
  refine AllReadyH.cons rfl (fun K hK => ?_) AllReadyH.nil
  have cg72 := cell_at B_g7 2 rfl
  have zg7 := froz_at B_g7
  have lg7 := hid_lt B_g7
  go_simp
  refine k_gen hK (fun x8 hW => ?_)
  have hB := set_blk hW B_g7
  have hf := set_now hW
  clear hW zg7 lg7 cg72
  simp only [List.setIfInBounds_toArray, List.set_cons_zero, List.set_cons_succ] at hB
  have hn := Fp.trans hHeld hf (fun i _ e => e)
  refine ⟨hn, ?_⟩
  clear hK K hHeld
  have hHeld := hn
  clear hn
  try simp only [Act.put, List.setIfInBounds_toArray, List.set_cons_zero, List.set_cons_succ]
  replace B_gR := hid_blkS B_gR hf n_gR_g7
  replace B_g4 := hid_blkS B_g4 hf n_g4_g7
  replace B_g8 := hid_blkS B_g8 hf n_g8_g7
  replace B_g7 := hB
  clear hB hf
  (refine take_at 8 (some 90) rfl rfl (by kernel_rfl) (by kernel_rfl) (by kernel_rfl) (fun _ _ _ h => h) (v := ?_) (by kernel_rfl) ?_ (by assumption) ?_; rotate_left; (focus (intro wS hSw; skip; go_simp; try with_reducible rfl)); (try simp only [Act.put, List.setIfInBounds_toArray, List.set_cons_zero, List.set_cons_succ]))
  (refine take_at 9 (some 91) rfl rfl (by kernel_rfl) (by kernel_rfl) (by kernel_rfl) (fun _ _ _ h => h) (v := ?_) (by kernel_rfl) ?_ (by assumption) ?_; rotate_left; (focus (intro wS hSw; skip; go_simp; try with_reducible rfl)); (try simp only [Act.put, List.setIfInBounds_toArray, List.set_cons_zero, List.set_cons_succ]))
  (refine take_at 10 (some 92) rfl rfl (by kernel_rfl) (by kernel_rfl) (by kernel_rfl) (fun _ _ _ h => h) (v := ?_) (by kernel_rfl) ?_ (by assumption) ?_; rotate_left; (focus (intro wS hSw; skip; go_simp; try with_reducible rfl)); (try simp only [Act.put, List.setIfInBounds_toArray, List.set_cons_zero, List.set_cons_succ]))
  refine wpAnyH_ready (rs := [11]) (by kernel_rfl) (by simp) ?_
  refine AllReadyH.cons rfl (fun K hK => ?_) AllReadyH.nil
  have cg74 := cell_at B_g7 4 rfl
  have zg7 := froz_at B_g7
  have lg7 := hid_lt B_g7
  go_simp
  refine k_gen hK (fun x9 hW => ?_)
  have hB := set_blk hW B_g7
  have hf := set_now hW
  clear hW zg7 lg7 cg74
  simp only [List.setIfInBounds_toArray, List.set_cons_zero, List.set_cons_succ] at hB
  have hn := Fp.trans hHeld hf (fun i _ e => e)
  refine ⟨hn, ?_⟩
  clear hK K hHeld
  have hHeld := hn
  clear hn
  try simp only [Act.put, List.setIfInBounds_toArray, List.set_cons_zero, List.set_cons_succ]
  replace B_gR := hid_blkS B_gR hf n_gR_g7
  replace B_g4 := hid_blkS B_g4 hf n_g4_g7
  replace B_g8 := hid_blkS B_g8 hf n_g8_g7
  replace B_g7 := hB
  clear hB hf
  refine wpAnyH_done (by kernel_rfl) ?_ _
  clear cg80 cg81 cg82 cg83 zg8 lg8
  have hGe := hid_ge HN
  replace HN := hid_own HN hHeld (fun i hi e => by have h1 : i = g7 := e; have h2 := G_g7.out; omega)
  clear hHeld hGe
  have cg70 := cell_at B_g7 0 rfl
  have cg71 := cell_at B_g7 1 rfl
  have cg72 := cell_at B_g7 2 rfl
  have cg73 := cell_at B_g7 3 rfl
  have cg74 := cell_at B_g7 4 rfl
  have cg75 := cell_at B_g7 5 rfl
  have cg76 := cell_at B_g7 6 rfl
  have cg77 := cell_at B_g7 7 rfl
  have cg78 := cell_at B_g7 8 rfl
  have zg7 := froz_at B_g7
  have lg7 := hid_lt B_g7
  have cgR0 := cell_at B_gR 0 rfl
  have cgR1 := cell_at B_gR 1 rfl
  have cgR2 := cell_at B_gR 2 rfl
  have cgR3 := cell_at B_gR 3 rfl
  have cgR4 := cell_at B_gR 4 rfl
  have cgR5 := cell_at B_gR 5 rfl
  have cgR6 := cell_at B_gR 6 rfl
  have cgR7 := cell_at B_gR 7 rfl
  have cgR8 := cell_at B_gR 8 rfl
  have zgR := froz_at B_gR
  have lgR := hid_lt B_gR
  go_wp2_with fail
  refine post_gen (fun W hW => ?_)
  obtain ⟨hB, hf⟩ := setE9 hW B_gR
  replace HN := hid_own HN hf (fun i hi e => by have h1 : i = gR := e; have h2 := G_gR.out; omega)
  clear hW hf cgR0 cgR1 cgR2 cgR3 cgR4 cgR5 cgR6 cgR7 cgR8 zgR lgR
  replace B_gR := hB
  clear hB
  have cgR0 := cell_at B_gR 0 rfl
  have cgR1 := cell_at B_gR 1 rfl
  have cgR2 := cell_at B_gR 2 rfl
  have cgR3 := cell_at B_gR 3 rfl
  have cgR4 := cell_at B_gR 4 rfl
  have cgR5 := cell_at B_gR 5 rfl
  have cgR6 := cell_at B_gR 6 rfl
  have cgR7 := cell_at B_gR 7 rfl
  have cgR8 := cell_at B_gR 8 rfl
  have zgR := froz_at B_gR
  have lgR := hid_lt B_gR
  refine bodyPost_ret (v := .tuple #[.agg #[.int .u8 17, .int .u32 (sr : Nat), .int .u16 (sp : Nat), .int .u32 (ds : Nat), .int .u16 (dp : Nat), .int .i64 2, .int .u8 0, .bool false, .int .u8 (ttl : Nat)], .int .i64 0]) (by simp only [results, Tryz.results11]; go_simp) rfl ⟨rfl, HN.out⟩
set_option maxHeartbeats 4000000 in
set_option maxRecDepth 100000 in
theorem rof_icmp_short (l d op : List UInt8) (tos id : Int) (fl : Bool) (ttl sr ds : Nat) (ki : ∀ W, Calls Tryz.prog 28 #[str l] W (Ret1 (.tuple #[.agg #[.int .u8 tos, .int .u16 id, .bool fl, .int .u8 (ttl : Nat), .int .u8 1, .int .u32 (sr : Nat), .int .u32 (ds : Nat), str op], str d, .int .i64 0]) W)) (hd : d.length ≤ 1000000) (h8 : d.length < 8) (w : World) : Calls Tryz.prog 11 #[str l] w (Ret1 (.tuple #[.agg #[.int .u8 0, .int .u32 0, .int .u16 0, .int .u32 0, .int .u16 0, .int .i64 0, .int .u8 0, .bool false, .int .u8 0], .int .i64 7]) w) := by
  have KI := Lib.hid ki
  clear ki
  have K6 := Lib.hid (fun W => r07_short d h8 W)
  unfold icZ at K6
  go_enter Tryz.func11, Tryz.ntmps11
  go_wp2_with fail
  have HN := Lib.hid (Fp.refl (fun _ => False) w)
  refine calls_gen (fun x1 hW => ?_)
  have hp := new_now hW
  have hB := new_blk hW
  clear hW
  have hGe := hid_ge HN
  replace HN := hid_now HN hp
  obtain ⟨gR, hgR⟩ : ∃ gR, gR = w.heap.size := ⟨_, rfl⟩
  have G_gR := Lib.hid (Nat.le_trans hGe (Nat.le_of_eq hgR.symm))
  rw [← hgR] at hB ⊢
  have B_gR := hB
  clear hB hGe hgR
  clear hp
  refine (show Calls _ _ _ _ _ from KI.out _).mono ?_
  rintro e x2 ⟨rfl, hp⟩
  replace HN := hid_now HN hp
  replace B_gR := hid_blk B_gR hp
  clear hp
  go_upto_region 2 with fail
  refine wp_gen (fun x3 hW => ?_)
  have l2gR := hid_lt B_gR
  have hp := new_now hW
  have hB := new_blk hW
  clear hW
  have hGe := hid_ge HN
  replace HN := hid_now HN hp
  replace B_gR := hid_blk B_gR hp
  obtain ⟨g4, hg4⟩ : ∃ g4, g4 = x2.heap.size := ⟨_, rfl⟩
  have G_g4 := Lib.hid (Nat.le_trans hGe (Nat.le_of_eq hg4.symm))
  have n_gR_g4 : ¬ gR = g4 := by omega
  have n_g4_gR : ¬ g4 = gR := by omega
  clear l2gR
  rw [← hg4] at hB ⊢
  have B_g4 := hB
  clear hB hGe hg4
  clear hp
  have cg40 := cell_at B_g4 0 rfl
  have cg41 := cell_at B_g4 1 rfl
  have cg42 := cell_at B_g4 2 rfl
  have cg43 := cell_at B_g4 3 rfl
  have cg44 := cell_at B_g4 4 rfl
  have cg45 := cell_at B_g4 5 rfl
  have cg46 := cell_at B_g4 6 rfl
  have cg47 := cell_at B_g4 7 rfl
  have zg4 := froz_at B_g4
  have lg4 := hid_lt B_g4
  go_upto_region 5 with fail
  clear cg40 cg41 cg42 cg43 cg44 cg45 cg46 cg47 zg4 lg4
  refine wp_gen (fun x4 hW => ?_)
  have l2gR := hid_lt B_gR
  have l2g4 := hid_lt B_g4
  have hp := new_now hW
  have hB := new_blk hW
  clear hW
  have hGe := hid_ge HN
  replace HN := hid_now HN hp
  replace B_gR := hid_blk B_gR hp
  replace B_g4 := hid_blk B_g4 hp
  obtain ⟨g7, hg7⟩ : ∃ g7, g7 = x3.heap.size := ⟨_, rfl⟩
  have G_g7 := Lib.hid (Nat.le_trans hGe (Nat.le_of_eq hg7.symm))
  have n_gR_g7 : ¬ gR = g7 := by omega
  have n_g7_gR : ¬ g7 = gR := by omega
  clear l2gR
  have n_g4_g7 : ¬ g4 = g7 := by omega
  have n_g7_g4 : ¬ g7 = g4 := by omega
  clear l2g4
  rw [← hg7] at hB ⊢
  have B_g7 := hB
  clear hB hGe hg7
  clear hp
  have cg44 := cell_at B_g4 4 rfl
  have zg4 := froz_at B_g4
  have lg4 := hid_lt B_g4
  go_wp2_with fail
  clear cg44 zg4 lg4
  refine (show Calls _ _ _ _ _ from K6.out _).mono ?_
  rintro e x5 ⟨rfl, hp⟩
  replace HN := hid_now HN hp
  replace B_gR := hid_blk B_gR hp
  replace B_g4 := hid_blk B_g4 hp
  replace B_g7 := hid_blk B_g7 hp
  clear hp
  go_upto_region 21 with fail
  refine wp_gen (fun x6 hW => ?_)
  have l2gR := hid_lt B_gR
  have l2g4 := hid_lt B_g4
  have l2g7 := hid_lt B_g7
  have hp := new_now hW
  have hB := new_blk hW
  clear hW
  have hGe := hid_ge HN
  replace HN := hid_now HN hp
  replace B_gR := hid_blk B_gR hp
  replace B_g4 := hid_blk B_g4 hp
  replace B_g7 := hid_blk B_g7 hp
  obtain ⟨g8, hg8⟩ : ∃ g8, g8 = x5.heap.size := ⟨_, rfl⟩
  have G_g8 := Lib.hid (Nat.le_trans hGe (Nat.le_of_eq hg8.symm))
  have n_gR_g8 : ¬ gR = g8 := by omega
  have n_g8_gR : ¬ g8 = gR := by omega
  clear l2gR
  have n_g4_g8 : ¬ g4 = g8 := by omega
  have n_g8_g4 : ¬ g8 = g4 := by omega
  clear l2g4
  have n_g7_g8 : ¬ g7 = g8 := by omega
  have n_g8_g7 : ¬ g8 = g7 := by omega
  clear l2g7
  rw [← hg8] at hB ⊢
  have B_g8 := hB
  clear hB hGe hg8
  clear hp
  have cgR0 := cell_at B_gR 0 rfl
  have cgR1 := cell_at B_gR 1 rfl
  have cgR2 := cell_at B_gR 2 rfl
  have cgR3 := cell_at B_gR 3 rfl
  have cgR4 := cell_at B_gR 4 rfl
  have cgR5 := cell_at B_gR 5 rfl
  have cgR6 := cell_at B_gR 6 rfl
  have cgR7 := cell_at B_gR 7 rfl
  have cgR8 := cell_at B_gR 8 rfl
  have zgR := froz_at B_gR
  have lgR := hid_lt B_gR
  go_wp2_with fail
  refine post_gen (fun W hW => ?_)
  obtain ⟨hB, hf⟩ := setE9 hW B_gR
  replace HN := hid_own HN hf (fun i hi e => by have h1 : i = gR := e; have h2 := G_gR.out; omega)
  clear hW hf cgR0 cgR1 cgR2 cgR3 cgR4 cgR5 cgR6 cgR7 cgR8 zgR lgR
  replace B_gR := hB
  clear hB
  have cgR0 := cell_at B_gR 0 rfl
  have cgR1 := cell_at B_gR 1 rfl
  have cgR2 := cell_at B_gR 2 rfl
  have cgR3 := cell_at B_gR 3 rfl
  have cgR4 := cell_at B_gR 4 rfl
  have cgR5 := cell_at B_gR 5 rfl
  have cgR6 := cell_at B_gR 6 rfl
  have cgR7 := cell_at B_gR 7 rfl
  have cgR8 := cell_at B_gR 8 rfl
  have zgR := froz_at B_gR
  have lgR := hid_lt B_gR
  refine bodyPost_ret (v := .tuple #[.agg #[.int .u8 0, .int .u32 0, .int .u16 0, .int .u32 0, .int .u16 0, .int .i64 0, .int .u8 0, .bool false, .int .u8 0], .int .i64 7]) (by simp only [results, Tryz.results11]; go_simp) rfl ⟨rfl, HN.out⟩
set_option maxHeartbeats 4000000 in
set_option maxRecDepth 100000 in
theorem rof_icmp_none (l d op : List UInt8) (tos id : Int) (fl : Bool) (ttl sr ds : Nat) (ki : ∀ W, Calls Tryz.prog 28 #[str l] W (Ret1 (.tuple #[.agg #[.int .u8 tos, .int .u16 id, .bool fl, .int .u8 (ttl : Nat), .int .u8 1, .int .u32 (sr : Nat), .int .u32 (ds : Nat), str op], str d, .int .i64 0]) W)) (hd : d.length ≤ 1000000) (h8 : 8 ≤ d.length) (hA : askB d = false) (hQ : queryB d = false) (hE : errB d = false) (w : World) : Calls Tryz.prog 11 #[str l] w (Ret1 (.tuple #[.agg #[.int .u8 0, .int .u32 0, .int .u16 0, .int .u32 0, .int .u16 0, .int .i64 0, .int .u8 0, .bool false, .int .u8 0], .int .i64 6]) w) := by
  have KI := Lib.hid ki
  clear ki
  have K6 := Lib.hid (fun W => r07_parse d h8 hd W)
  have KQ := Lib.hid (fun W => r07_query (byt d 0) (byt d 1) (g16 d 2 : Nat) (str ((d.take 8).drop 4)) (str (d.drop 8)) W)
  rw [kind1, kind2, hA, hQ] at KQ
  have KE := Lib.hid (fun W => r07_error (byt d 0) (byt d 1) (g16 d 2 : Nat) (str ((d.take 8).drop 4)) (str (d.drop 8)) W)
  rw [kind3, hE] at KE
  have KD := Lib.hid (fun W => r07_id (byt d 0) (byt d 1) (g16 d 2 : Nat) ((d.take 8).drop 4) (str (d.drop 8)) (by simp; omega) W)
  have hid_ : icmpId d = g16 ((d.take 8).drop 4) 0 := rfl
  try rw [hid_]
  clear hid_ hA hQ hE
  generalize g16 (((d.take 8).drop 4)) 0 = n at *
  generalize byt d 0 = ty at *
  generalize byt d 1 = co at *
  generalize g16 d 2 = su at *
  generalize ((d.take 8).drop 4) = re at *
  generalize d.drop 8 = da at *
  go_enter Tryz.func11, Tryz.ntmps11
  go_wp2_with fail
  have HN := Lib.hid (Fp.refl (fun _ => False) w)
  refine calls_gen (fun x1 hW => ?_)
  have hp := new_now hW
  have hB := new_blk hW
  clear hW
  have hGe := hid_ge HN
  replace HN := hid_now HN hp
  obtain ⟨gR, hgR⟩ : ∃ gR, gR = w.heap.size := ⟨_, rfl⟩
  have G_gR := Lib.hid (Nat.le_trans hGe (Nat.le_of_eq hgR.symm))
  rw [← hgR] at hB ⊢
  have B_gR := hB
  clear hB hGe hgR
  clear hp
  refine (show Calls _ _ _ _ _ from KI.out _).mono ?_
  rintro e x2 ⟨rfl, hp⟩
  replace HN := hid_now HN hp
  replace B_gR := hid_blk B_gR hp
  clear hp
  go_upto_region 2 with fail
  refine wp_gen (fun x3 hW => ?_)
  have l2gR := hid_lt B_gR
  have hp := new_now hW
  have hB := new_blk hW
  clear hW
  have hGe := hid_ge HN
  replace HN := hid_now HN hp
  replace B_gR := hid_blk B_gR hp
  obtain ⟨g4, hg4⟩ : ∃ g4, g4 = x2.heap.size := ⟨_, rfl⟩
  have G_g4 := Lib.hid (Nat.le_trans hGe (Nat.le_of_eq hg4.symm))
  have n_gR_g4 : ¬ gR = g4 := by omega
  have n_g4_gR : ¬ g4 = gR := by omega
  clear l2gR
  rw [← hg4] at hB ⊢
  have B_g4 := hB
  clear hB hGe hg4
  clear hp
  have cg40 := cell_at B_g4 0 rfl
  have cg41 := cell_at B_g4 1 rfl
  have cg42 := cell_at B_g4 2 rfl
  have cg43 := cell_at B_g4 3 rfl
  have cg44 := cell_at B_g4 4 rfl
  have cg45 := cell_at B_g4 5 rfl
  have cg46 := cell_at B_g4 6 rfl
  have cg47 := cell_at B_g4 7 rfl
  have zg4 := froz_at B_g4
  have lg4 := hid_lt B_g4
  go_upto_region 5 with fail
  clear cg40 cg41 cg42 cg43 cg44 cg45 cg46 cg47 zg4 lg4
  refine wp_gen (fun x4 hW => ?_)
  have l2gR := hid_lt B_gR
  have l2g4 := hid_lt B_g4
  have hp := new_now hW
  have hB := new_blk hW
  clear hW
  have hGe := hid_ge HN
  replace HN := hid_now HN hp
  replace B_gR := hid_blk B_gR hp
  replace B_g4 := hid_blk B_g4 hp
  obtain ⟨g7, hg7⟩ : ∃ g7, g7 = x3.heap.size := ⟨_, rfl⟩
  have G_g7 := Lib.hid (Nat.le_trans hGe (Nat.le_of_eq hg7.symm))
  have n_gR_g7 : ¬ gR = g7 := by omega
  have n_g7_gR : ¬ g7 = gR := by omega
  clear l2gR
  have n_g4_g7 : ¬ g4 = g7 := by omega
  have n_g7_g4 : ¬ g7 = g4 := by omega
  clear l2g4
  rw [← hg7] at hB ⊢
  have B_g7 := hB
  clear hB hGe hg7
  clear hp
  have cg44 := cell_at B_g4 4 rfl
  have zg4 := froz_at B_g4
  have lg4 := hid_lt B_g4
  go_wp2_with fail
  clear cg44 zg4 lg4
  refine (show Calls _ _ _ _ _ from K6.out _).mono ?_
  rintro e x5 ⟨rfl, hp⟩
  replace HN := hid_now HN hp
  replace B_gR := hid_blk B_gR hp
  replace B_g4 := hid_blk B_g4 hp
  replace B_g7 := hid_blk B_g7 hp
  clear hp
  go_upto_region 21 with fail
  refine wp_gen (fun x6 hW => ?_)
  have l2gR := hid_lt B_gR
  have l2g4 := hid_lt B_g4
  have l2g7 := hid_lt B_g7
  have hp := new_now hW
  have hB := new_blk hW
  clear hW
  have hGe := hid_ge HN
  replace HN := hid_now HN hp
  replace B_gR := hid_blk B_gR hp
  replace B_g4 := hid_blk B_g4 hp
  replace B_g7 := hid_blk B_g7 hp
  obtain ⟨g8, hg8⟩ : ∃ g8, g8 = x5.heap.size := ⟨_, rfl⟩
  have G_g8 := Lib.hid (Nat.le_trans hGe (Nat.le_of_eq hg8.symm))
  have n_gR_g8 : ¬ gR = g8 := by omega
  have n_g8_gR : ¬ g8 = gR := by omega
  clear l2gR
  have n_g4_g8 : ¬ g4 = g8 := by omega
  have n_g8_g4 : ¬ g8 = g4 := by omega
  clear l2g4
  have n_g7_g8 : ¬ g7 = g8 := by omega
  have n_g8_g7 : ¬ g8 = g7 := by omega
  clear l2g7
  rw [← hg8] at hB ⊢
  have B_g8 := hB
  clear hB hGe hg8
  clear hp
  have cg80 := cell_at B_g8 0 rfl
  have cg81 := cell_at B_g8 1 rfl
  have cg82 := cell_at B_g8 2 rfl
  have cg83 := cell_at B_g8 3 rfl
  have cg84 := cell_at B_g8 4 rfl
  have zg8 := froz_at B_g8
  have lg8 := hid_lt B_g8
  go_wp2_with fail
  clear cg80 cg81 cg82 cg83 cg84 zg8 lg8
  refine (show Calls _ _ _ _ _ from KQ.out _).mono ?_
  rintro e x7 ⟨rfl, hp⟩
  replace HN := hid_now HN hp
  replace B_gR := hid_blk B_gR hp
  replace B_g4 := hid_blk B_g4 hp
  replace B_g7 := hid_blk B_g7 hp
  replace B_g8 := hid_blk B_g8 hp
  clear hp
  have cg80 := cell_at B_g8 0 rfl
  have cg81 := cell_at B_g8 1 rfl
  have cg82 := cell_at B_g8 2 rfl
  have cg83 := cell_at B_g8 3 rfl
  have cg84 := cell_at B_g8 4 rfl
  have zg8 := froz_at B_g8
  have lg8 := hid_lt B_g8
  go_wp2_with fail
  clear cg80 cg81 cg82 cg83 cg84 zg8 lg8
  refine (show Calls _ _ _ _ _ from KE.out _).mono ?_
  rintro e x8 ⟨rfl, hp⟩
  replace HN := hid_now HN hp
  replace B_gR := hid_blk B_gR hp
  replace B_g4 := hid_blk B_g4 hp
  replace B_g7 := hid_blk B_g7 hp
  replace B_g8 := hid_blk B_g8 hp
  clear hp
  have cgR0 := cell_at B_gR 0 rfl
  have cgR1 := cell_at B_gR 1 rfl
  have cgR2 := cell_at B_gR 2 rfl
  have cgR3 := cell_at B_gR 3 rfl
  have cgR4 := cell_at B_gR 4 rfl
  have cgR5 := cell_at B_gR 5 rfl
  have cgR6 := cell_at B_gR 6 rfl
  have cgR7 := cell_at B_gR 7 rfl
  have cgR8 := cell_at B_gR 8 rfl
  have zgR := froz_at B_gR
  have lgR := hid_lt B_gR
  go_wp2_with fail
  refine post_gen (fun W hW => ?_)
  obtain ⟨hB, hf⟩ := setE9 hW B_gR
  replace HN := hid_own HN hf (fun i hi e => by have h1 : i = gR := e; have h2 := G_gR.out; omega)
  clear hW hf cgR0 cgR1 cgR2 cgR3 cgR4 cgR5 cgR6 cgR7 cgR8 zgR lgR
  replace B_gR := hB
  clear hB
  have cgR0 := cell_at B_gR 0 rfl
  have cgR1 := cell_at B_gR 1 rfl
  have cgR2 := cell_at B_gR 2 rfl
  have cgR3 := cell_at B_gR 3 rfl
  have cgR4 := cell_at B_gR 4 rfl
  have cgR5 := cell_at B_gR 5 rfl
  have cgR6 := cell_at B_gR 6 rfl
  have cgR7 := cell_at B_gR 7 rfl
  have cgR8 := cell_at B_gR 8 rfl
  have zgR := froz_at B_gR
  have lgR := hid_lt B_gR
  refine bodyPost_ret (v := .tuple #[.agg #[.int .u8 0, .int .u32 0, .int .u16 0, .int .u32 0, .int .u16 0, .int .i64 0, .int .u8 0, .bool false, .int .u8 0], .int .i64 6]) (by simp only [results, Tryz.results11]; go_simp) rfl ⟨rfl, HN.out⟩
set_option maxHeartbeats 4000000 in
set_option maxRecDepth 100000 in
theorem rof_icmp_ask (l d op : List UInt8) (tos id : Int) (fl : Bool) (ttl sr ds : Nat) (ki : ∀ W, Calls Tryz.prog 28 #[str l] W (Ret1 (.tuple #[.agg #[.int .u8 tos, .int .u16 id, .bool fl, .int .u8 (ttl : Nat), .int .u8 1, .int .u32 (sr : Nat), .int .u32 (ds : Nat), str op], str d, .int .i64 0]) W)) (hd : d.length ≤ 1000000) (h8 : 8 ≤ d.length) (hA : askB d = true) (hQ : queryB d = true) (w : World) : Calls Tryz.prog 11 #[str l] w (Ret1 (.tuple #[.agg #[.int .u8 1, .int .u32 (sr : Nat), .int .u16 (icmpId d : Nat), .int .u32 (ds : Nat), .int .u16 0, .int .i64 2, .int .u8 0, .bool true, .int .u8 (ttl : Nat)], .int .i64 0]) w) := by
  have KI := Lib.hid ki
  clear ki
  have K6 := Lib.hid (fun W => r07_parse d h8 hd W)
  have KQ := Lib.hid (fun W => r07_query (byt d 0) (byt d 1) (g16 d 2 : Nat) (str ((d.take 8).drop 4)) (str (d.drop 8)) W)
  rw [kind1, kind2, hA, hQ] at KQ
  have KE := Lib.hid (fun W => r07_error (byt d 0) (byt d 1) (g16 d 2 : Nat) (str ((d.take 8).drop 4)) (str (d.drop 8)) W)
  have KD := Lib.hid (fun W => r07_id (byt d 0) (byt d 1) (g16 d 2 : Nat) ((d.take 8).drop 4) (str (d.drop 8)) (by simp; omega) W)
  have hid_ : icmpId d = g16 ((d.take 8).drop 4) 0 := rfl
  try rw [hid_]
  clear hid_ hA hQ
  generalize g16 (((d.take 8).drop 4)) 0 = n at *
  generalize byt d 0 = ty at *
  generalize byt d 1 = co at *
  generalize g16 d 2 = su at *
  generalize ((d.take 8).drop 4) = re at *
  generalize d.drop 8 = da at *
  go_enter Tryz.func11, Tryz.ntmps11
  go_wp2_with fail
  have HN := Lib.hid (Fp.refl (fun _ => False) w)
  refine calls_gen (fun x1 hW => ?_)
  have hp := new_now hW
  have hB := new_blk hW
  clear hW
  have hGe := hid_ge HN
  replace HN := hid_now HN hp
  obtain ⟨gR, hgR⟩ : ∃ gR, gR = w.heap.size := ⟨_, rfl⟩
  have G_gR := Lib.hid (Nat.le_trans hGe (Nat.le_of_eq hgR.symm))
  rw [← hgR] at hB ⊢
  have B_gR := hB
  clear hB hGe hgR
  clear hp
  refine (show Calls _ _ _ _ _ from KI.out _).mono ?_
  rintro e x2 ⟨rfl, hp⟩
  replace HN := hid_now HN hp
  replace B_gR := hid_blk B_gR hp
  clear hp
  go_upto_region 2 with fail
  refine wp_gen (fun x3 hW => ?_)
  have l2gR := hid_lt B_gR
  have hp := new_now hW
  have hB := new_blk hW
  clear hW
  have hGe := hid_ge HN
  replace HN := hid_now HN hp
  replace B_gR := hid_blk B_gR hp
  obtain ⟨g4, hg4⟩ : ∃ g4, g4 = x2.heap.size := ⟨_, rfl⟩
  have G_g4 := Lib.hid (Nat.le_trans hGe (Nat.le_of_eq hg4.symm))
  have n_gR_g4 : ¬ gR = g4 := by omega
  have n_g4_gR : ¬ g4 = gR := by omega
  clear l2gR
  rw [← hg4] at hB ⊢
  have B_g4 := hB
  clear hB hGe hg4
  clear hp
  have cg40 := cell_at B_g4 0 rfl
  have cg41 := cell_at B_g4 1 rfl
  have cg42 := cell_at B_g4 2 rfl
  have cg43 := cell_at B_g4 3 rfl
  have cg44 := cell_at B_g4 4 rfl
  have cg45 := cell_at B_g4 5 rfl
  have cg46 := cell_at B_g4 6 rfl
  have cg47 := cell_at B_g4 7 rfl
  have zg4 := froz_at B_g4
  have lg4 := hid_lt B_g4
  go_upto_region 5 with fail
  clear cg40 cg41 cg42 cg43 cg44 cg45 cg46 cg47 zg4 lg4
  refine wp_gen (fun x4 hW => ?_)
  have l2gR := hid_lt B_gR
  have l2g4 := hid_lt B_g4
  have hp := new_now hW
  have hB := new_blk hW
  clear hW
  have hGe := hid_ge HN
  replace HN := hid_now HN hp
  replace B_gR := hid_blk B_gR hp
  replace B_g4 := hid_blk B_g4 hp
  obtain ⟨g7, hg7⟩ : ∃ g7, g7 = x3.heap.size := ⟨_, rfl⟩
  have G_g7 := Lib.hid (Nat.le_trans hGe (Nat.le_of_eq hg7.symm))
  have n_gR_g7 : ¬ gR = g7 := by omega
  have n_g7_gR : ¬ g7 = gR := by omega
  clear l2gR
  have n_g4_g7 : ¬ g4 = g7 := by omega
  have n_g7_g4 : ¬ g7 = g4 := by omega
  clear l2g4
  rw [← hg7] at hB ⊢
  have B_g7 := hB
  clear hB hGe hg7
  clear hp
  have cg44 := cell_at B_g4 4 rfl
  have zg4 := froz_at B_g4
  have lg4 := hid_lt B_g4
  go_wp2_with fail
  clear cg44 zg4 lg4
  refine (show Calls _ _ _ _ _ from K6.out _).mono ?_
  rintro e x5 ⟨rfl, hp⟩
  replace HN := hid_now HN hp
  replace B_gR := hid_blk B_gR hp
  replace B_g4 := hid_blk B_g4 hp
  replace B_g7 := hid_blk B_g7 hp
  clear hp
  go_upto_region 21 with fail
  refine wp_gen (fun x6 hW => ?_)
  have l2gR := hid_lt B_gR
  have l2g4 := hid_lt B_g4
  have l2g7 := hid_lt B_g7
  have hp := new_now hW
  have hB := new_blk hW
  clear hW
  have hGe := hid_ge HN
  replace HN := hid_now HN hp
  replace B_gR := hid_blk B_gR hp
  replace B_g4 := hid_blk B_g4 hp
  replace B_g7 := hid_blk B_g7 hp
  obtain ⟨g8, hg8⟩ : ∃ g8, g8 = x5.heap.size := ⟨_, rfl⟩
  have G_g8 := Lib.hid (Nat.le_trans hGe (Nat.le_of_eq hg8.symm))
  have n_gR_g8 : ¬ gR = g8 := by omega
  have n_g8_gR : ¬ g8 = gR := by omega
  clear l2gR
  have n_g4_g8 : ¬ g4 = g8 := by omega
  have n_g8_g4 : ¬ g8 = g4 := by omega
  clear l2g4
  have n_g7_g8 : ¬ g7 = g8 := by omega
  have n_g8_g7 : ¬ g8 = g7 := by omega
  clear l2g7
  rw [← hg8] at hB ⊢
  have B_g8 := hB
  clear hB hGe hg8
  clear hp
  have cg80 := cell_at B_g8 0 rfl
  have cg81 := cell_at B_g8 1 rfl
  have cg82 := cell_at B_g8 2 rfl
  have cg83 := cell_at B_g8 3 rfl
  have cg84 := cell_at B_g8 4 rfl
  have zg8 := froz_at B_g8
  have lg8 := hid_lt B_g8
  go_wp2_with fail
  clear cg80 cg81 cg82 cg83 cg84 zg8 lg8
  refine (show Calls _ _ _ _ _ from KQ.out _).mono ?_
  rintro e x7 ⟨rfl, hp⟩
  replace HN := hid_now HN hp
  replace B_gR := hid_blk B_gR hp
  replace B_g4 := hid_blk B_g4 hp
  replace B_g7 := hid_blk B_g7 hp
  replace B_g8 := hid_blk B_g8 hp
  clear hp
  have cg70 := cell_at B_g7 0 rfl
  have cg71 := cell_at B_g7 1 rfl
  have cg72 := cell_at B_g7 2 rfl
  have cg73 := cell_at B_g7 3 rfl
  have cg74 := cell_at B_g7 4 rfl
  have cg75 := cell_at B_g7 5 rfl
  have cg76 := cell_at B_g7 6 rfl
  have cg77 := cell_at B_g7 7 rfl
  have cg78 := cell_at B_g7 8 rfl
  have zg7 := froz_at B_g7
  have lg7 := hid_lt B_g7
  go_upto_region 27 with fail
  refine wp_gen (fun x8 hW => ?_)
  have hB := set_blk hW B_g7
  have hf := set_now hW
  clear hW
  simp only [List.setIfInBounds_toArray, List.set_cons_zero, List.set_cons_succ] at hB
  replace HN := hid_own HN hf (fun i hi e => by have h1 : i = g7 := e; have h2 := G_g7.out; omega)
  replace B_gR := hid_blkS B_gR hf n_gR_g7
  replace B_g4 := hid_blkS B_g4 hf n_g4_g7
  replace B_g8 := hid_blkS B_g8 hf n_g8_g7
  replace B_g7 := hB
  clear hB hf
  clear cg70 cg71 cg72 cg73 cg74 cg75 cg76 cg77 cg78 zg7 lg7
  have cg80 := cell_at B_g8 0 rfl
  have cg81 := cell_at B_g8 1 rfl
  have cg82 := cell_at B_g8 2 rfl
  have cg83 := cell_at B_g8 3 rfl
  have cg84 := cell_at B_g8 4 rfl
  have zg8 := froz_at B_g8
  have lg8 := hid_lt B_g8
  go_wp2_with fail
  clear cg80 cg81 cg82 cg83 cg84 zg8 lg8
  refine (show Calls _ _ _ _ _ from KD.out _).mono ?_
  rintro e x9 ⟨rfl, hp⟩
  replace HN := hid_now HN hp
  replace B_gR := hid_blk B_gR hp
  replace B_g4 := hid_blk B_g4 hp
  replace B_g7 := hid_blk B_g7 hp
  replace B_g8 := hid_blk B_g8 hp
  clear hp
  have cg70 := cell_at B_g7 0 rfl
  have cg71 := cell_at B_g7 1 rfl
  have cg72 := cell_at B_g7 2 rfl
  have cg73 := cell_at B_g7 3 rfl
  have cg74 := cell_at B_g7 4 rfl
  have cg75 := cell_at B_g7 5 rfl
  have cg76 := cell_at B_g7 6 rfl
  have cg77 := cell_at B_g7 7 rfl
  have cg78 := cell_at B_g7 8 rfl
  have zg7 := froz_at B_g7
  have lg7 := hid_lt B_g7
  go_upto_region 32 with fail
  refine wp_gen (fun x10 hW => ?_)
  have hB := set_blk hW B_g7
  have hf := set_now hW
  clear hW
  simp only [List.setIfInBounds_toArray, List.set_cons_zero, List.set_cons_succ] at hB
  replace HN := hid_own HN hf (fun i hi e => by have h1 : i = g7 := e; have h2 := G_g7.out; omega)
  replace B_gR := hid_blkS B_gR hf n_gR_g7
  replace B_g4 := hid_blkS B_g4 hf n_g4_g7
  replace B_g8 := hid_blkS B_g8 hf n_g8_g7
  replace B_g7 := hB
  clear hB hf
  clear cg70 cg71 cg72 cg73 cg74 cg75 cg76 cg77 cg78 zg7 lg7
  have cg70 := cell_at B_g7 0 rfl
  have cg71 := cell_at B_g7 1 rfl
  have cg72 := cell_at B_g7 2 rfl
  have cg73 := cell_at B_g7 3 rfl
  have cg74 := cell_at B_g7 4 rfl
  have cg75 := cell_at B_g7 5 rfl
  have cg76 := cell_at B_g7 6 rfl
  have cg77 := cell_at B_g7 7 rfl
  have cg78 := cell_at B_g7 8 rfl
  have zg7 := froz_at B_g7
  have lg7 := hid_lt B_g7
  have cgR0 := cell_at B_gR 0 rfl
  have cgR1 := cell_at B_gR 1 rfl
  have cgR2 := cell_at B_gR 2 rfl
  have cgR3 := cell_at B_gR 3 rfl
  have cgR4 := cell_at B_gR 4 rfl
  have cgR5 := cell_at B_gR 5 rfl
  have cgR6 := cell_at B_gR 6 rfl
  have cgR7 := cell_at B_gR 7 rfl
  have cgR8 := cell_at B_gR 8 rfl
  have zgR := froz_at B_gR
  have lgR := hid_lt B_gR
  go_wp2_with fail
  refine post_gen (fun W hW => ?_)
  obtain ⟨hB, hf⟩ := setE9 hW B_gR
  replace HN := hid_own HN hf (fun i hi e => by have h1 : i = gR := e; have h2 := G_gR.out; omega)
  clear hW hf cgR0 cgR1 cgR2 cgR3 cgR4 cgR5 cgR6 cgR7 cgR8 zgR lgR
  replace B_gR := hB
  clear hB
  have cgR0 := cell_at B_gR 0 rfl
  have cgR1 := cell_at B_gR 1 rfl
  have cgR2 := cell_at B_gR 2 rfl
  have cgR3 := cell_at B_gR 3 rfl
  have cgR4 := cell_at B_gR 4 rfl
  have cgR5 := cell_at B_gR 5 rfl
  have cgR6 := cell_at B_gR 6 rfl
  have cgR7 := cell_at B_gR 7 rfl
  have cgR8 := cell_at B_gR 8 rfl
  have zgR := froz_at B_gR
  have lgR := hid_lt B_gR
  refine bodyPost_ret (v := .tuple #[.agg #[.int .u8 1, .int .u32 (sr : Nat), .int .u16 (n : Nat), .int .u32 (ds : Nat), .int .u16 0, .int .i64 2, .int .u8 0, .bool true, .int .u8 (ttl : Nat)], .int .i64 0]) (by simp only [results, Tryz.results11]; go_simp) rfl ⟨rfl, HN.out⟩
set_option maxHeartbeats 4000000 in
set_option maxRecDepth 100000 in
theorem rof_icmp_told (l d op : List UInt8) (tos id : Int) (fl : Bool) (ttl sr ds : Nat) (ki : ∀ W, Calls Tryz.prog 28 #[str l] W (Ret1 (.tuple #[.agg #[.int .u8 tos, .int .u16 id, .bool fl, .int .u8 (ttl : Nat), .int .u8 1, .int .u32 (sr : Nat), .int .u32 (ds : Nat), str op], str d, .int .i64 0]) W)) (hd : d.length ≤ 1000000) (h8 : 8 ≤ d.length) (hA : askB d = false) (hQ : queryB d = true) (w : World) : Calls Tryz.prog 11 #[str l] w (Ret1 (.tuple #[.agg #[.int .u8 1, .int .u32 (sr : Nat), .int .u16 0, .int .u32 (ds : Nat), .int .u16 (icmpId d : Nat), .int .i64 2, .int .u8 0, .bool false, .int .u8 (ttl : Nat)], .int .i64 0]) w) := by
  have KI := Lib.hid ki
  clear ki
  have K6 := Lib.hid (fun W => r07_parse d h8 hd W)
  have KQ := Lib.hid (fun W => r07_query (byt d 0) (byt d 1) (g16 d 2 : Nat) (str ((d.take 8).drop 4)) (str (d.drop 8)) W)
  rw [kind1, kind2, hA, hQ] at KQ
  have KE := Lib.hid (fun W => r07_error (byt d 0) (byt d 1) (g16 d 2 : Nat) (str ((d.take 8).drop 4)) (str (d.drop 8)) W)
  have KD := Lib.hid (fun W => r07_id (byt d 0) (byt d 1) (g16 d 2 : Nat) ((d.take 8).drop 4) (str (d.drop 8)) (by simp; omega) W)
  have hid_ : icmpId d = g16 ((d.take 8).drop 4) 0 := rfl
  try rw [hid_]
  clear hid_ hA hQ
  generalize g16 (((d.take 8).drop 4)) 0 = n at *
  generalize byt d 0 = ty at *
  generalize byt d 1 = co at *
  generalize g16 d 2 = su at *
  generalize ((d.take 8).drop 4) = re at *
  generalize d.drop 8 = da at *
  go_enter Tryz.func11, Tryz.ntmps11
  go_wp2_with fail
  have HN := Lib.hid (Fp.refl (fun _ => False) w)
  refine calls_gen (fun x1 hW => ?_)
  have hp := new_now hW
  have hB := new_blk hW
  clear hW
  have hGe := hid_ge HN
  replace HN := hid_now HN hp
  obtain ⟨gR, hgR⟩ : ∃ gR, gR = w.heap.size := ⟨_, rfl⟩
  have G_gR := Lib.hid (Nat.le_trans hGe (Nat.le_of_eq hgR.symm))
  rw [← hgR] at hB ⊢
  have B_gR := hB
  clear hB hGe hgR
  clear hp
  refine (show Calls _ _ _ _ _ from KI.out _).mono ?_
  rintro e x2 ⟨rfl, hp⟩
  replace HN := hid_now HN hp
  replace B_gR := hid_blk B_gR hp
  clear hp
  go_upto_region 2 with fail
  refine wp_gen (fun x3 hW => ?_)
  have l2gR := hid_lt B_gR
  have hp := new_now hW
  have hB := new_blk hW
  clear hW
  have hGe := hid_ge HN
  replace HN := hid_now HN hp
  replace B_gR := hid_blk B_gR hp
  obtain ⟨g4, hg4⟩ : ∃ g4, g4 = x2.heap.size := ⟨_, rfl⟩
  have G_g4 := Lib.hid (Nat.le_trans hGe (Nat.le_of_eq hg4.symm))
  have n_gR_g4 : ¬ gR = g4 := by omega
  have n_g4_gR : ¬ g4 = gR := by omega
  clear l2gR
  rw [← hg4] at hB ⊢
  have B_g4 := hB
  clear hB hGe hg4
  clear hp
  have cg40 := cell_at B_g4 0 rfl
  have cg41 := cell_at B_g4 1 rfl
  have cg42 := cell_at B_g4 2 rfl
  have cg43 := cell_at B_g4 3 rfl
  have cg44 := cell_at B_g4 4 rfl
  have cg45 := cell_at B_g4 5 rfl
  have cg46 := cell_at B_g4 6 rfl
  have cg47 := cell_at B_g4 7 rfl
  have zg4 := froz_at B_g4
  have lg4 := hid_lt B_g4
  go_upto_region 5 with fail
  clear cg40 cg41 cg42 cg43 cg44 cg45 cg46 cg47 zg4 lg4
  refine wp_gen (fun x4 hW => ?_)
  have l2gR := hid_lt B_gR
  have l2g4 := hid_lt B_g4
  have hp := new_now hW
  have hB := new_blk hW
  clear hW
  have hGe := hid_ge HN
  replace HN := hid_now HN hp
  replace B_gR := hid_blk B_gR hp
  replace B_g4 := hid_blk B_g4 hp
  obtain ⟨g7, hg7⟩ : ∃ g7, g7 = x3.heap.size := ⟨_, rfl⟩
  have G_g7 := Lib.hid (Nat.le_trans hGe (Nat.le_of_eq hg7.symm))
  have n_gR_g7 : ¬ gR = g7 := by omega
  have n_g7_gR : ¬ g7 = gR := by omega
  clear l2gR
  have n_g4_g7 : ¬ g4 = g7 := by omega
  have n_g7_g4 : ¬ g7 = g4 := by omega
  clear l2g4
  rw [← hg7] at hB ⊢
  have B_g7 := hB
  clear hB hGe hg7
  clear hp
  have cg44 := cell_at B_g4 4 rfl
  have zg4 := froz_at B_g4
  have lg4 := hid_lt B_g4
  go_wp2_with fail
  clear cg44 zg4 lg4
  refine (show Calls _ _ _ _ _ from K6.out _).mono ?_
  rintro e x5 ⟨rfl, hp⟩
  replace HN := hid_now HN hp
  replace B_gR := hid_blk B_gR hp
  replace B_g4 := hid_blk B_g4 hp
  replace B_g7 := hid_blk B_g7 hp
  clear hp
  go_upto_region 21 with fail
  refine wp_gen (fun x6 hW => ?_)
  have l2gR := hid_lt B_gR
  have l2g4 := hid_lt B_g4
  have l2g7 := hid_lt B_g7
  have hp := new_now hW
  have hB := new_blk hW
  clear hW
  have hGe := hid_ge HN
  replace HN := hid_now HN hp
  replace B_gR := hid_blk B_gR hp
  replace B_g4 := hid_blk B_g4 hp
  replace B_g7 := hid_blk B_g7 hp
  obtain ⟨g8, hg8⟩ : ∃ g8, g8 = x5.heap.size := ⟨_, rfl⟩
  have G_g8 := Lib.hid (Nat.le_trans hGe (Nat.le_of_eq hg8.symm))
  have n_gR_g8 : ¬ gR = g8 := by omega
  have n_g8_gR : ¬ g8 = gR := by omega
  clear l2gR
  have n_g4_g8 : ¬ g4 = g8 := by omega
  have n_g8_g4 : ¬ g8 = g4 := by omega
  clear l2g4
  have n_g7_g8 : ¬ g7 = g8 := by omega
  have n_g8_g7 : ¬ g8 = g7 := by omega
  clear l2g7
  rw [← hg8] at hB ⊢
  have B_g8 := hB
  clear hB hGe hg8
  clear hp
  have cg80 := cell_at B_g8 0 rfl
  have cg81 := cell_at B_g8 1 rfl
  have cg82 := cell_at B_g8 2 rfl
  have cg83 := cell_at B_g8 3 rfl
  have cg84 := cell_at B_g8 4 rfl
  have zg8 := froz_at B_g8
  have lg8 := hid_lt B_g8
  go_wp2_with fail
  clear cg80 cg81 cg82 cg83 cg84 zg8 lg8
  refine (show Calls _ _ _ _ _ from KQ.out _).mono ?_
  rintro e x7 ⟨rfl, hp⟩
  replace HN := hid_now HN hp
  replace B_gR := hid_blk B_gR hp
  replace B_g4 := hid_blk B_g4 hp
  replace B_g7 := hid_blk B_g7 hp
  replace B_g8 := hid_blk B_g8 hp
  clear hp
  have cg70 := cell_at B_g7 0 rfl
  have cg71 := cell_at B_g7 1 rfl
  have cg72 := cell_at B_g7 2 rfl
  have cg73 := cell_at B_g7 3 rfl
  have cg74 := cell_at B_g7 4 rfl
  have cg75 := cell_at B_g7 5 rfl
  have cg76 := cell_at B_g7 6 rfl
  have cg77 := cell_at B_g7 7 rfl
  have cg78 := cell_at B_g7 8 rfl
  have zg7 := froz_at B_g7
  have lg7 := hid_lt B_g7
  go_upto_region 27 with fail
  refine wp_gen (fun x8 hW => ?_)
  have hB := set_blk hW B_g7
  have hf := set_now hW
  clear hW
  simp only [List.setIfInBounds_toArray, List.set_cons_zero, List.set_cons_succ] at hB
  replace HN := hid_own HN hf (fun i hi e => by have h1 : i = g7 := e; have h2 := G_g7.out; omega)
  replace B_gR := hid_blkS B_gR hf n_gR_g7
  replace B_g4 := hid_blkS B_g4 hf n_g4_g7
  replace B_g8 := hid_blkS B_g8 hf n_g8_g7
  replace B_g7 := hB
  clear hB hf
  clear cg70 cg71 cg72 cg73 cg74 cg75 cg76 cg77 cg78 zg7 lg7
  have cg80 := cell_at B_g8 0 rfl
  have cg81 := cell_at B_g8 1 rfl
  have cg82 := cell_at B_g8 2 rfl
  have cg83 := cell_at B_g8 3 rfl
  have cg84 := cell_at B_g8 4 rfl
  have zg8 := froz_at B_g8
  have lg8 := hid_lt B_g8
  go_wp2_with fail
  clear cg80 cg81 cg82 cg83 cg84 zg8 lg8
  refine (show Calls _ _ _ _ _ from KD.out _).mono ?_
  rintro e x9 ⟨rfl, hp⟩
  replace HN := hid_now HN hp
  replace B_gR := hid_blk B_gR hp
  replace B_g4 := hid_blk B_g4 hp
  replace B_g7 := hid_blk B_g7 hp
  replace B_g8 := hid_blk B_g8 hp
  clear hp
  have cg70 := cell_at B_g7 0 rfl
  have cg71 := cell_at B_g7 1 rfl
  have cg72 := cell_at B_g7 2 rfl
  have cg73 := cell_at B_g7 3 rfl
  have cg74 := cell_at B_g7 4 rfl
  have cg75 := cell_at B_g7 5 rfl
  have cg76 := cell_at B_g7 6 rfl
  have cg77 := cell_at B_g7 7 rfl
  have cg78 := cell_at B_g7 8 rfl
  have zg7 := froz_at B_g7
  have lg7 := hid_lt B_g7
  go_upto_region 32 with fail
  refine wp_gen (fun x10 hW => ?_)
  have hB := set_blk hW B_g7
  have hf := set_now hW
  clear hW
  simp only [List.setIfInBounds_toArray, List.set_cons_zero, List.set_cons_succ] at hB
  replace HN := hid_own HN hf (fun i hi e => by have h1 : i = g7 := e; have h2 := G_g7.out; omega)
  replace B_gR := hid_blkS B_gR hf n_gR_g7
  replace B_g4 := hid_blkS B_g4 hf n_g4_g7
  replace B_g8 := hid_blkS B_g8 hf n_g8_g7
  replace B_g7 := hB
  clear hB hf
  clear cg70 cg71 cg72 cg73 cg74 cg75 cg76 cg77 cg78 zg7 lg7
  have cg70 := cell_at B_g7 0 rfl
  have cg71 := cell_at B_g7 1 rfl
  have cg72 := cell_at B_g7 2 rfl
  have cg73 := cell_at B_g7 3 rfl
  have cg74 := cell_at B_g7 4 rfl
  have cg75 := cell_at B_g7 5 rfl
  have cg76 := cell_at B_g7 6 rfl
  have cg77 := cell_at B_g7 7 rfl
  have cg78 := cell_at B_g7 8 rfl
  have zg7 := froz_at B_g7
  have lg7 := hid_lt B_g7
  have cgR0 := cell_at B_gR 0 rfl
  have cgR1 := cell_at B_gR 1 rfl
  have cgR2 := cell_at B_gR 2 rfl
  have cgR3 := cell_at B_gR 3 rfl
  have cgR4 := cell_at B_gR 4 rfl
  have cgR5 := cell_at B_gR 5 rfl
  have cgR6 := cell_at B_gR 6 rfl
  have cgR7 := cell_at B_gR 7 rfl
  have cgR8 := cell_at B_gR 8 rfl
  have zgR := froz_at B_gR
  have lgR := hid_lt B_gR
  go_wp2_with fail
  refine post_gen (fun W hW => ?_)
  obtain ⟨hB, hf⟩ := setE9 hW B_gR
  replace HN := hid_own HN hf (fun i hi e => by have h1 : i = gR := e; have h2 := G_gR.out; omega)
  clear hW hf cgR0 cgR1 cgR2 cgR3 cgR4 cgR5 cgR6 cgR7 cgR8 zgR lgR
  replace B_gR := hB
  clear hB
  have cgR0 := cell_at B_gR 0 rfl
  have cgR1 := cell_at B_gR 1 rfl
  have cgR2 := cell_at B_gR 2 rfl
  have cgR3 := cell_at B_gR 3 rfl
  have cgR4 := cell_at B_gR 4 rfl
  have cgR5 := cell_at B_gR 5 rfl
  have cgR6 := cell_at B_gR 6 rfl
  have cgR7 := cell_at B_gR 7 rfl
  have cgR8 := cell_at B_gR 8 rfl
  have zgR := froz_at B_gR
  have lgR := hid_lt B_gR
  refine bodyPost_ret (v := .tuple #[.agg #[.int .u8 1, .int .u32 (sr : Nat), .int .u16 0, .int .u32 (ds : Nat), .int .u16 (n : Nat), .int .i64 2, .int .u8 0, .bool false, .int .u8 (ttl : Nat)], .int .i64 0]) (by simp only [results, Tryz.results11]; go_simp) rfl ⟨rfl, HN.out⟩
set_option maxHeartbeats 4000000 in
set_option maxRecDepth 100000 in
theorem rof_icmp_err (l d op : List UInt8) (tos id : Int) (fl : Bool) (ttl sr ds : Nat) (ki : ∀ W, Calls Tryz.prog 28 #[str l] W (Ret1 (.tuple #[.agg #[.int .u8 tos, .int .u16 id, .bool fl, .int .u8 (ttl : Nat), .int .u8 1, .int .u32 (sr : Nat), .int .u32 (ds : Nat), str op], str d, .int .i64 0]) W)) (hd : d.length ≤ 1000000) (h8 : 8 ≤ d.length) (hA : askB d = false) (hQ : queryB d = false) (hE : errB d = true) (w : World) : Calls Tryz.prog 11 #[str l] w (Ret1 (.tuple #[.agg #[.int .u8 1, .int .u32 (sr : Nat), .int .u16 0, .int .u32 (ds : Nat), .int .u16 0, .int .i64 3, .int .u8 0, .bool false, .int .u8 (ttl : Nat)], .int .i64 0]) w) := by
  have KI := Lib.hid ki
  clear ki
  have K6 := Lib.hid (fun W => r07_parse d h8 hd W)
  have KQ := Lib.hid (fun W => r07_query (byt d 0) (byt d 1) (g16 d 2 : Nat) (str ((d.take 8).drop 4)) (str (d.drop 8)) W)
  rw [kind1, kind2, hA, hQ] at KQ
  have KE := Lib.hid (fun W => r07_error (byt d 0) (byt d 1) (g16 d 2 : Nat) (str ((d.take 8).drop 4)) (str (d.drop 8)) W)
  rw [kind3, hE] at KE
  have KD := Lib.hid (fun W => r07_id (byt d 0) (byt d 1) (g16 d 2 : Nat) ((d.take 8).drop 4) (str (d.drop 8)) (by simp; omega) W)
  have hid_ : icmpId d = g16 ((d.take 8).drop 4) 0 := rfl
  try rw [hid_]
  clear hid_ hA hQ hE
  generalize g16 (((d.take 8).drop 4)) 0 = n at *
  generalize byt d 0 = ty at *
  generalize byt d 1 = co at *
  generalize g16 d 2 = su at *
  generalize ((d.take 8).drop 4) = re at *
  generalize d.drop 8 = da at *
  go_enter Tryz.func11, Tryz.ntmps11
  go_wp2_with fail
  have HN := Lib.hid (Fp.refl (fun _ => False) w)
  refine calls_gen (fun x1 hW => ?_)
  have hp := new_now hW
  have hB := new_blk hW
  clear hW
  have hGe := hid_ge HN
  replace HN := hid_now HN hp
  obtain ⟨gR, hgR⟩ : ∃ gR, gR = w.heap.size := ⟨_, rfl⟩
  have G_gR := Lib.hid (Nat.le_trans hGe (Nat.le_of_eq hgR.symm))
  rw [← hgR] at hB ⊢
  have B_gR := hB
  clear hB hGe hgR
  clear hp
  refine (show Calls _ _ _ _ _ from KI.out _).mono ?_
  rintro e x2 ⟨rfl, hp⟩
  replace HN := hid_now HN hp
  replace B_gR := hid_blk B_gR hp
  clear hp
  go_upto_region 2 with fail
  refine wp_gen (fun x3 hW => ?_)
  have l2gR := hid_lt B_gR
  have hp := new_now hW
  have hB := new_blk hW
  clear hW
  have hGe := hid_ge HN
  replace HN := hid_now HN hp
  replace B_gR := hid_blk B_gR hp
  obtain ⟨g4, hg4⟩ : ∃ g4, g4 = x2.heap.size := ⟨_, rfl⟩
  have G_g4 := Lib.hid (Nat.le_trans hGe (Nat.le_of_eq hg4.symm))
  have n_gR_g4 : ¬ gR = g4 := by omega
  have n_g4_gR : ¬ g4 = gR := by omega
  clear l2gR
  rw [← hg4] at hB ⊢
  have B_g4 := hB
  clear hB hGe hg4
  clear hp
  have cg40 := cell_at B_g4 0 rfl
  have cg41 := cell_at B_g4 1 rfl
  have cg42 := cell_at B_g4 2 rfl
  have cg43 := cell_at B_g4 3 rfl
  have cg44 := cell_at B_g4 4 rfl
  have cg45 := cell_at B_g4 5 rfl
  have cg46 := cell_at B_g4 6 rfl
  have cg47 := cell_at B_g4 7 rfl
  have zg4 := froz_at B_g4
  have lg4 := hid_lt B_g4
  go_upto_region 5 with fail
  clear cg40 cg41 cg42 cg43 cg44 cg45 cg46 cg47 zg4 lg4
  refine wp_gen (fun x4 hW => ?_)
  have l2gR := hid_lt B_gR
  have l2g4 := hid_lt B_g4
  have hp := new_now hW
  have hB := new_blk hW
  clear hW
  have hGe := hid_ge HN
  replace HN := hid_now HN hp
  replace B_gR := hid_blk B_gR hp
  replace B_g4 := hid_blk B_g4 hp
  obtain ⟨g7, hg7⟩ : ∃ g7, g7 = x3.heap.size := ⟨_, rfl⟩
  have G_g7 := Lib.hid (Nat.le_trans hGe (Nat.le_of_eq hg7.symm))
  have n_gR_g7 : ¬ gR = g7 := by omega
  have n_g7_gR : ¬ g7 = gR := by omega
  clear l2gR
  have n_g4_g7 : ¬ g4 = g7 := by omega
  have n_g7_g4 : ¬ g7 = g4 := by omega
  clear l2g4
  rw [← hg7] at hB ⊢
  have B_g7 := hB
  clear hB hGe hg7
  clear hp
  have cg44 := cell_at B_g4 4 rfl
  have zg4 := froz_at B_g4
  have lg4 := hid_lt B_g4
  go_wp2_with fail
  clear cg44 zg4 lg4
  refine (show Calls _ _ _ _ _ from K6.out _).mono ?_
  rintro e x5 ⟨rfl, hp⟩
  replace HN := hid_now HN hp
  replace B_gR := hid_blk B_gR hp
  replace B_g4 := hid_blk B_g4 hp
  replace B_g7 := hid_blk B_g7 hp
  clear hp
  go_upto_region 21 with fail
  refine wp_gen (fun x6 hW => ?_)
  have l2gR := hid_lt B_gR
  have l2g4 := hid_lt B_g4
  have l2g7 := hid_lt B_g7
  have hp := new_now hW
  have hB := new_blk hW
  clear hW
  have hGe := hid_ge HN
  replace HN := hid_now HN hp
  replace B_gR := hid_blk B_gR hp
  replace B_g4 := hid_blk B_g4 hp
  replace B_g7 := hid_blk B_g7 hp
  obtain ⟨g8, hg8⟩ : ∃ g8, g8 = x5.heap.size := ⟨_, rfl⟩
  have G_g8 := Lib.hid (Nat.le_trans hGe (Nat.le_of_eq hg8.symm))
  have n_gR_g8 : ¬ gR = g8 := by omega
  have n_g8_gR : ¬ g8 = gR := by omega
  clear l2gR
  have n_g4_g8 : ¬ g4 = g8 := by omega
  have n_g8_g4 : ¬ g8 = g4 := by omega
  clear l2g4
  have n_g7_g8 : ¬ g7 = g8 := by omega
  have n_g8_g7 : ¬ g8 = g7 := by omega
  clear l2g7
  rw [← hg8] at hB ⊢
  have B_g8 := hB
  clear hB hGe hg8
  clear hp
  have cg80 := cell_at B_g8 0 rfl
  have cg81 := cell_at B_g8 1 rfl
  have cg82 := cell_at B_g8 2 rfl
  have cg83 := cell_at B_g8 3 rfl
  have cg84 := cell_at B_g8 4 rfl
  have zg8 := froz_at B_g8
  have lg8 := hid_lt B_g8
  go_wp2_with fail
  clear cg80 cg81 cg82 cg83 cg84 zg8 lg8
  refine (show Calls _ _ _ _ _ from KQ.out _).mono ?_
  rintro e x7 ⟨rfl, hp⟩
  replace HN := hid_now HN hp
  replace B_gR := hid_blk B_gR hp
  replace B_g4 := hid_blk B_g4 hp
  replace B_g7 := hid_blk B_g7 hp
  replace B_g8 := hid_blk B_g8 hp
  clear hp
  have cg80 := cell_at B_g8 0 rfl
  have cg81 := cell_at B_g8 1 rfl
  have cg82 := cell_at B_g8 2 rfl
  have cg83 := cell_at B_g8 3 rfl
  have cg84 := cell_at B_g8 4 rfl
  have zg8 := froz_at B_g8
  have lg8 := hid_lt B_g8
  go_wp2_with fail
  clear cg80 cg81 cg82 cg83 cg84 zg8 lg8
  refine (show Calls _ _ _ _ _ from KE.out _).mono ?_
  rintro e x8 ⟨rfl, hp⟩
  replace HN := hid_now HN hp
  replace B_gR := hid_blk B_gR hp
  replace B_g4 := hid_blk B_g4 hp
  replace B_g7 := hid_blk B_g7 hp
  replace B_g8 := hid_blk B_g8 hp
  clear hp
  have cg70 := cell_at B_g7 0 rfl
  have cg71 := cell_at B_g7 1 rfl
  have cg72 := cell_at B_g7 2 rfl
  have cg73 := cell_at B_g7 3 rfl
  have cg74 := cell_at B_g7 4 rfl
  have cg75 := cell_at B_g7 5 rfl
  have cg76 := cell_at B_g7 6 rfl
  have cg77 := cell_at B_g7 7 rfl
  have cg78 := cell_at B_g7 8 rfl
  have zg7 := froz_at B_g7
  have lg7 := hid_lt B_g7
  go_upto_region 27 with fail
  refine wp_gen (fun x9 hW => ?_)
  have hB := set_blk hW B_g7
  have hf := set_now hW
  clear hW
  simp only [List.setIfInBounds_toArray, List.set_cons_zero, List.set_cons_succ] at hB
  replace HN := hid_own HN hf (fun i hi e => by have h1 : i = g7 := e; have h2 := G_g7.out; omega)
  replace B_gR := hid_blkS B_gR hf n_gR_g7
  replace B_g4 := hid_blkS B_g4 hf n_g4_g7
  replace B_g8 := hid_blkS B_g8 hf n_g8_g7
  replace B_g7 := hB
  clear hB hf
  clear cg70 cg71 cg72 cg73 cg74 cg75 cg76 cg77 cg78 zg7 lg7
  have cg70 := cell_at B_g7 0 rfl
  have cg71 := cell_at B_g7 1 rfl
  have cg72 := cell_at B_g7 2 rfl
  have cg73 := cell_at B_g7 3 rfl
  have cg74 := cell_at B_g7 4 rfl
  have cg75 := cell_at B_g7 5 rfl
  have cg76 := cell_at B_g7 6 rfl
  have cg77 := cell_at B_g7 7 rfl
  have cg78 := cell_at B_g7 8 rfl
  have zg7 := froz_at B_g7
  have lg7 := hid_lt B_g7
  go_upto_region 32 with fail
  refine wp_gen (fun x10 hW => ?_)
  have hB := set_blk hW B_g7
  have hf := set_now hW
  clear hW
  simp only [List.setIfInBounds_toArray, List.set_cons_zero, List.set_cons_succ] at hB
  replace HN := hid_own HN hf (fun i hi e => by have h1 : i = g7 := e; have h2 := G_g7.out; omega)
  replace B_gR := hid_blkS B_gR hf n_gR_g7
  replace B_g4 := hid_blkS B_g4 hf n_g4_g7
  replace B_g8 := hid_blkS B_g8 hf n_g8_g7
  replace B_g7 := hB
  clear hB hf
  clear cg70 cg71 cg72 cg73 cg74 cg75 cg76 cg77 cg78 zg7 lg7
  have cg70 := cell_at B_g7 0 rfl
  have cg71 := cell_at B_g7 1 rfl
  have cg72 := cell_at B_g7 2 rfl
  have cg73 := cell_at B_g7 3 rfl
  have cg74 := cell_at B_g7 4 rfl
  have cg75 := cell_at B_g7 5 rfl
  have cg76 := cell_at B_g7 6 rfl
  have cg77 := cell_at B_g7 7 rfl
  have cg78 := cell_at B_g7 8 rfl
  have zg7 := froz_at B_g7
  have lg7 := hid_lt B_g7
  have cgR0 := cell_at B_gR 0 rfl
  have cgR1 := cell_at B_gR 1 rfl
  have cgR2 := cell_at B_gR 2 rfl
  have cgR3 := cell_at B_gR 3 rfl
  have cgR4 := cell_at B_gR 4 rfl
  have cgR5 := cell_at B_gR 5 rfl
  have cgR6 := cell_at B_gR 6 rfl
  have cgR7 := cell_at B_gR 7 rfl
  have cgR8 := cell_at B_gR 8 rfl
  have zgR := froz_at B_gR
  have lgR := hid_lt B_gR
  go_wp2_with fail
  refine post_gen (fun W hW => ?_)
  obtain ⟨hB, hf⟩ := setE9 hW B_gR
  replace HN := hid_own HN hf (fun i hi e => by have h1 : i = gR := e; have h2 := G_gR.out; omega)
  clear hW hf cgR0 cgR1 cgR2 cgR3 cgR4 cgR5 cgR6 cgR7 cgR8 zgR lgR
  replace B_gR := hB
  clear hB
  have cgR0 := cell_at B_gR 0 rfl
  have cgR1 := cell_at B_gR 1 rfl
  have cgR2 := cell_at B_gR 2 rfl
  have cgR3 := cell_at B_gR 3 rfl
  have cgR4 := cell_at B_gR 4 rfl
  have cgR5 := cell_at B_gR 5 rfl
  have cgR6 := cell_at B_gR 6 rfl
  have cgR7 := cell_at B_gR 7 rfl
  have cgR8 := cell_at B_gR 8 rfl
  have zgR := froz_at B_gR
  have lgR := hid_lt B_gR
  refine bodyPost_ret (v := .tuple #[.agg #[.int .u8 1, .int .u32 (sr : Nat), .int .u16 0, .int .u32 (ds : Nat), .int .u16 0, .int .i64 3, .int .u8 0, .bool false, .int .u8 (ttl : Nat)], .int .i64 0]) (by simp only [results, Tryz.results11]; go_simp) rfl ⟨rfl, HN.out⟩
set_option maxHeartbeats 4000000 in
set_option maxRecDepth 100000 in
theorem rof_other (l d op : List UInt8) (tos id : Int) (fl : Bool) (ttl sr ds : Nat) (pr : Nat) (ki : ∀ W, Calls Tryz.prog 28 #[str l] W (Ret1 (.tuple #[.agg #[.int .u8 tos, .int .u16 id, .bool fl, .int .u8 (ttl : Nat), .int .u8 (pr : Nat), .int .u32 (sr : Nat), .int .u32 (ds : Nat), str op], str d, .int .i64 0]) W)) (hd : d.length ≤ 1000000) (h6 : pr ≠ 6) (h17 : pr ≠ 17) (h1 : pr ≠ 1) (w : World) : Calls Tryz.prog 11 #[str l] w (Ret1 (.tuple #[.agg #[.int .u8 0, .int .u32 0, .int .u16 0, .int .u32 0, .int .u16 0, .int .i64 0, .int .u8 0, .bool false, .int .u8 0], .int .i64 6]) w) := by
  have KI := Lib.hid ki
  clear ki
  have p6 : ((pr : Int) == 6) = false := beq_eq_false_iff_ne.2 (by omega)
  have p17 : ((pr : Int) == 17) = false := beq_eq_false_iff_ne.2 (by omega)
  have p1 : ((pr : Int) == 1) = false := beq_eq_false_iff_ne.2 (by omega)
  go_enter Tryz.func11, Tryz.ntmps11
  go_wp2_with fail
  have HN := Lib.hid (Fp.refl (fun _ => False) w)
  refine calls_gen (fun x1 hW => ?_)
  have hp := new_now hW
  have hB := new_blk hW
  clear hW
  have hGe := hid_ge HN
  replace HN := hid_now HN hp
  obtain ⟨gR, hgR⟩ : ∃ gR, gR = w.heap.size := ⟨_, rfl⟩
  have G_gR := Lib.hid (Nat.le_trans hGe (Nat.le_of_eq hgR.symm))
  rw [← hgR] at hB ⊢
  have B_gR := hB
  clear hB hGe hgR
  clear hp
  refine (show Calls _ _ _ _ _ from KI.out _).mono ?_
  rintro e x2 ⟨rfl, hp⟩
  replace HN := hid_now HN hp
  replace B_gR := hid_blk B_gR hp
  clear hp
  go_upto_region 2 with fail
  refine wp_gen (fun x3 hW => ?_)
  have l2gR := hid_lt B_gR
  have hp := new_now hW
  have hB := new_blk hW
  clear hW
  have hGe := hid_ge HN
  replace HN := hid_now HN hp
  replace B_gR := hid_blk B_gR hp
  obtain ⟨g4, hg4⟩ : ∃ g4, g4 = x2.heap.size := ⟨_, rfl⟩
  have G_g4 := Lib.hid (Nat.le_trans hGe (Nat.le_of_eq hg4.symm))
  have n_gR_g4 : ¬ gR = g4 := by omega
  have n_g4_gR : ¬ g4 = gR := by omega
  clear l2gR
  rw [← hg4] at hB ⊢
  have B_g4 := hB
  clear hB hGe hg4
  clear hp
  have cg40 := cell_at B_g4 0 rfl
  have cg41 := cell_at B_g4 1 rfl
  have cg42 := cell_at B_g4 2 rfl
  have cg43 := cell_at B_g4 3 rfl
  have cg44 := cell_at B_g4 4 rfl
  have cg45 := cell_at B_g4 5 rfl
  have cg46 := cell_at B_g4 6 rfl
  have cg47 := cell_at B_g4 7 rfl
  have zg4 := froz_at B_g4
  have lg4 := hid_lt B_g4
  go_upto_region 5 with fail
  clear cg40 cg41 cg42 cg43 cg44 cg45 cg46 cg47 zg4 lg4
  refine wp_gen (fun x4 hW => ?_)
  have l2gR := hid_lt B_gR
  have l2g4 := hid_lt B_g4
  have hp := new_now hW
  have hB := new_blk hW
  clear hW
  have hGe := hid_ge HN
  replace HN := hid_now HN hp
  replace B_gR := hid_blk B_gR hp
  replace B_g4 := hid_blk B_g4 hp
  obtain ⟨g7, hg7⟩ : ∃ g7, g7 = x3.heap.size := ⟨_, rfl⟩
  have G_g7 := Lib.hid (Nat.le_trans hGe (Nat.le_of_eq hg7.symm))
  have n_gR_g7 : ¬ gR = g7 := by omega
  have n_g7_gR : ¬ g7 = gR := by omega
  clear l2gR
  have n_g4_g7 : ¬ g4 = g7 := by omega
  have n_g7_g4 : ¬ g7 = g4 := by omega
  clear l2g4
  rw [← hg7] at hB ⊢
  have B_g7 := hB
  clear hB hGe hg7
  clear hp
  have cg44 := cell_at B_g4 4 rfl
  have zg4 := froz_at B_g4
  have lg4 := hid_lt B_g4
  have cgR0 := cell_at B_gR 0 rfl
  have cgR1 := cell_at B_gR 1 rfl
  have cgR2 := cell_at B_gR 2 rfl
  have cgR3 := cell_at B_gR 3 rfl
  have cgR4 := cell_at B_gR 4 rfl
  have cgR5 := cell_at B_gR 5 rfl
  have cgR6 := cell_at B_gR 6 rfl
  have cgR7 := cell_at B_gR 7 rfl
  have cgR8 := cell_at B_gR 8 rfl
  have zgR := froz_at B_gR
  have lgR := hid_lt B_gR
  go_wp2_with fail
  refine post_gen (fun W hW => ?_)
  obtain ⟨hB, hf⟩ := setE9 hW B_gR
  replace HN := hid_own HN hf (fun i hi e => by have h1 : i = gR := e; have h2 := G_gR.out; omega)
  clear hW hf cgR0 cgR1 cgR2 cgR3 cgR4 cgR5 cgR6 cgR7 cgR8 zgR lgR
  replace B_gR := hB
  clear hB
  have cgR0 := cell_at B_gR 0 rfl
  have cgR1 := cell_at B_gR 1 rfl
  have cgR2 := cell_at B_gR 2 rfl
  have cgR3 := cell_at B_gR 3 rfl
  have cgR4 := cell_at B_gR 4 rfl
  have cgR5 := cell_at B_gR 5 rfl
  have cgR6 := cell_at B_gR 6 rfl
  have cgR7 := cell_at B_gR 7 rfl
  have cgR8 := cell_at B_gR 8 rfl
  have zgR := froz_at B_gR
  have lgR := hid_lt B_gR
  refine bodyPost_ret (v := .tuple #[.agg #[.int .u8 0, .int .u32 0, .int .u16 0, .int .u32 0, .int .u16 0, .int .i64 0, .int .u8 0, .bool false, .int .u8 0], .int .i64 6]) (by simp only [results, Tryz.results11]; go_simp) rfl ⟨rfl, HN.out⟩
theorem rof_good (l d op : List UInt8) (tos id : Int) (fl : Bool) (ttl sr ds pr : Nat) (ki : ∀ W, Calls Tryz.prog 28 #[str l] W (Ret1 (.tuple #[.agg #[.int .u8 tos, .int .u16 id, .bool fl, .int .u8 (ttl : Nat), .int .u8 (pr : Nat), .int .u32 (sr : Nat), .int .u32 (ds : Nat), str op], str d, .int .i64 0]) W)) (hd : d.length ≤ 1000000) (w : World) : Calls Tryz.prog 11 #[str l] w (Ret1 (ofV (lookAt pr sr ds ttl d)) w) := by
  by_cases h6 : pr = 6
  · subst h6
    by_cases ho : tcpOk d = true
    · have e : lookAt 6 sr ds ttl d = .inl ⟨6, sr, g16 d 0, ds, g16 d 2, if firstB (byt d 13) then 1 else 2, byt d 13, false, ttl⟩ := by unfold lookAt; rw [if_pos rfl, if_pos ho]
      rw [e]
      by_cases hfb : firstB (byt d 13) = true
      · rw [if_pos hfb]
        exact rof_tcp_yes1 l d op tos id fl ttl sr ds ki hd ho hfb w
      · rw [if_neg hfb]
        exact rof_tcp_yes0 l d op tos id fl ttl sr ds ki hd ho (by simpa using hfb) w
    · have e : lookAt 6 sr ds ttl d = .inr 7 := by unfold lookAt; rw [if_pos rfl, if_neg ho]
      rw [e]
      exact rof_tcp_no l d op tos id fl ttl sr ds ki hd (by simpa using ho) w
  by_cases h17 : pr = 17
  · subst h17
    by_cases ho : udpOk d = true
    · have e : lookAt 17 sr ds ttl d = .inl ⟨17, sr, g16 d 0, ds, g16 d 2, 2, 0, false, ttl⟩ := by unfold lookAt; rw [if_neg h6, if_pos rfl, if_pos ho]
      rw [e]
      exact rof_udp_yes l d op tos id fl ttl sr ds ki hd ho w
    · have e : lookAt 17 sr ds ttl d = .inr 7 := by unfold lookAt; rw [if_neg h6, if_pos rfl, if_neg ho]
      rw [e]
      exact rof_udp_no l d op tos id fl ttl sr ds ki hd (by simpa using ho) w
  by_cases h1' : pr = 1
  · subst h1'
    by_cases h8 : d.length < 8
    · have e : lookAt 1 sr ds ttl d = .inr 7 := by unfold lookAt; rw [if_neg h6, if_neg h17, if_pos rfl, if_pos h8]
      rw [e]
      exact rof_icmp_short l d op tos id fl ttl sr ds ki hd h8 w
    have h8' : 8 ≤ d.length := by omega
    by_cases ha : askB d = true
    · have e : lookAt 1 sr ds ttl d = .inl ⟨1, sr, icmpId d, ds, 0, 2, 0, true, ttl⟩ := by unfold lookAt; rw [if_neg h6, if_neg h17, if_pos rfl, if_neg h8, if_pos ha]
      rw [e]
      exact rof_icmp_ask l d op tos id fl ttl sr ds ki hd h8' ha (ask_query ha) w
    have ha' : askB d = false := by simpa using ha
    by_cases hq : queryB d = true
    · have e : lookAt 1 sr ds ttl d = .inl ⟨1, sr, 0, ds, icmpId d, 2, 0, false, ttl⟩ := by unfold lookAt; rw [if_neg h6, if_neg h17, if_pos rfl, if_neg h8, if_neg ha, if_pos hq]
      rw [e]
      exact rof_icmp_told l d op tos id fl ttl sr ds ki hd h8' ha' hq w
    have hq' : queryB d = false := by simpa using hq
    by_cases he : errB d = true
    · have e : lookAt 1 sr ds ttl d = .inl ⟨1, sr, 0, ds, 0, 3, 0, false, ttl⟩ := by unfold lookAt; rw [if_neg h6, if_neg h17, if_pos rfl, if_neg h8, if_neg ha, if_neg hq, if_pos he]
      rw [e]
      exact rof_icmp_err l d op tos id fl ttl sr ds ki hd h8' ha' hq' he w
    · have e : lookAt 1 sr ds ttl d = .inr 6 := by unfold lookAt; rw [if_neg h6, if_neg h17, if_pos rfl, if_neg h8, if_neg ha, if_neg hq, if_neg he]
      rw [e]
      exact rof_icmp_none l d op tos id fl ttl sr ds ki hd h8' ha' hq' (by simpa using he) w
  · have e : lookAt pr sr ds ttl d = .inr 6 := by unfold lookAt; rw [if_neg h6, if_neg h17, if_neg h1']
    rw [e]
    exact rof_other l d op tos id fl ttl sr ds pr ki hd h6 h17 h1' w
theorem rof_ok (l : List UInt8) (hl : l.length ≤ 1000000) (w : World) : Calls Tryz.prog 11 #[str l] w (Ret1 (ofV (seenOf l)) w) := by
  by_cases hz : ipWhy l = 0
  · have e : seenOf l = lookAt (byt l 9) (g32 l 12) (g32 l 16) (byt l 8) (ipLoad l) := if_pos hz
    rw [e]
    refine rof_good l (ipLoad l) ((l.take (ipOwn l)).drop 20) (byt l 1 : Nat) (g16 l 4 : Nat) (g16 l 6 == 16384) _ _ _ _ (fun W => ?_) (by unfold ipLoad; simp; omega) w
    have h := r04_parse l hl W
    rw [show ipV l = .tuple #[ipH l (g16 l 6 == 16384), str (ipLoad l), .int .i64 0] from if_pos hz] at h
    exact h
  · have e : seenOf l = .inr (ipWhy l) := if_neg hz
    rw [e]
    exact rof_bad l hl _ rfl (by omega) w
end Go.Proofs.YtmghjaoodnkjlaaGreatDoor
