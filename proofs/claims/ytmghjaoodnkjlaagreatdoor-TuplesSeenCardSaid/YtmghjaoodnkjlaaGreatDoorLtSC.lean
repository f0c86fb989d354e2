/- Chapter 08: TuplesSeen, its cases (written by gen8f.py). -/
import Derived.Test.YtmghjaoodnkjlaaGreatDoorLtSA
namespace Go.Proofs.YtmghjaoodnkjlaaGreatDoor
set_option linter.unusedVariables false
set_option linter.unusedSimpArgs false
open Go.RowKit Go.Lib Go.Sort
set_option maxHeartbeats 8000000 in
set_option maxRecDepth 100000 in
theorem ts_tcpno1 (tos id : Nat) (fl : Bool) (ttl : Nat) (pr0 sr0 ds0 : Int) (op : List UInt8) (sp0 dp0 : Int) (seq ack low fg win sum urg : Nat) (gop : List UInt8) (ty : Nat) (d : List UInt8) (sr sp ds dp : Nat) (beh : List UInt8) (htos : tos < 256) (hid : id < 65536) (httl : ttl < 256) (hseq : seq < 4294967296) (hack : ack < 4294967296) (hfg : fg < 256) (hwin : win < 65536) (hsum : sum < 65536) (hurg : urg < 65536) (hty : ty < 256) (hsr : sr < 4294967296) (hsp : sp < 65536) (hds : ds < 4294967296) (hdp : dp < 65536) (hl0 : op.length ≤ 9223372036854775807) (hl1 : gop.length ≤ 9223372036854775807) (hl2 : d.length ≤ 9223372036854775807) (hl3 : beh.length ≤ 9223372036854775807) (h0 : op.length ≤ 600) (h1 : gop.length ≤ 600) (h2 : d.length ≤ 600) (h3 : beh.length ≤ 100) (m t2 : Nat) (hm : m = ty % 4) (ht2 : t2 = 0 ∨ t2 = 8 ∨ t2 = 13 ∨ t2 = 14) (KX : ∀ W, (Instr.index 54 (.agg #[.int .u8 0, .int .u8 8, .int .u8 13, .int .u8 14]) (.int .u8 (m : Nat))).run Tryz.prog W = .ok (.int .u8 (t2 : Nat)) W) (hT0 : t2 = 0) (hok : tcpOkP low gop = false) (w : World) (ht : TbQ w) : Calls Tryz.prog 8 #[.agg #[.int .u8 6, .int .u32 (sr : Nat), .int .u16 (sp : Nat), .int .u32 (ds : Nat), .int .u16 (dp : Nat)], .agg #[.int .u8 (tos : Nat), .int .u16 (id : Nat), .bool fl, .int .u8 (ttl : Nat), .int .u8 pr0, .int .u32 sr0, .int .u32 ds0, str op, .int .u16 sp0, .int .u16 dp0, .int .u32 (seq : Nat), .int .u32 (ack : Nat), .int .u8 (low : Nat), .int .u8 (fg : Nat), .int .u16 (win : Nat), .int .u16 (sum : Nat), .int .u16 (urg : Nat), str gop, .int .u8 (ty : Nat), str d], str beh] w (Ret1 (.bool true) w) := by
  have hB : tupB 6 sp dp = true := by simp [tupB, isWord]
  have KM := Lib.hid (fun W hW => tup_ok 6 sr sp ds dp (by omega) W hW)
  rw [hB] at KM
  have e0 : decide ((600 : Int) < (op.length : Int)) = false := decide_eq_false (by omega)
  have e1 : decide ((600 : Int) < (gop.length : Int)) = false := decide_eq_false (by omega)
  have e2 : decide ((600 : Int) < (d.length : Int)) = false := decide_eq_false (by omega)
  have e3 : decide ((100 : Int) < (beh.length : Int)) = false := decide_eq_false (by omega)
  have c0 : (ty : Int) % 4 = (m : Int) := by omega
  have c0' : (ty : Int).tmod 4 = (m : Int) := by rw [Int.tmod_eq_emod_of_nonneg (by omega)]; omega
  have t0 : ((t2 : Int) == 0) = true := by rw [hT0]; rfl
  have KP := Lib.hid (fun W => lput_tcp0 tos id fl ttl pr0 sr0 ds0 op sp0 dp0 seq ack low fg win sum urg gop t2 d sr sp ds dp htos hid httl h0 hseq hack hfg hwin hsum hurg h1 (by omega) h2 hsr hsp hds hdp hok W)
  obtain ⟨ld, hld⟩ : ∃ ld, ld = (tcpS sp dp seq ack low fg win sum urg gop d) := ⟨_, rfl⟩
  rw [← hld] at KP
  have eN : ∀ W, (binOp .neq 29 (.agg #[.int .u8 6, .int .u32 (sr : Nat), .int .u16 (sp : Nat), .int .u32 (ds : Nat), .int .u16 (dp : Nat)]) (.agg #[.int .u8 6, .int .u32 (sr : Nat), .int .u16 (sp : Nat), .int .u32 (ds : Nat), .int .u16 (dp : Nat)])).run Tryz.prog W = .ok (.bool false) W := fun W => (tup_neq2 6 sr sp ds dp 6 sr sp ds dp W).trans (by simp)
  clear hB hm hl0 hl1 hl2 hl3 h0 h1 h2 h3 hT0
  go_enter Tryz.func8, Tryz.ntmps8
  have HN := Lib.hid (Fp.refl (fun _ => False) w)
  have HT := Lib.hid ht
  go_upto_region 1 with fail
  refine wp_gen (fun x1 hW => ?_)
  obtain ⟨hB, hB2, hp⟩ := new2_blk hW
  clear hW
  have hGe := hid_ge HN
  replace HN := hid_now HN hp
  obtain ⟨g4, hg4⟩ : ∃ g4, g4 = w.heap.size + 1 := ⟨_, rfl⟩
  obtain ⟨g3, hg3⟩ : ∃ g3, g3 = w.heap.size := ⟨_, rfl⟩
  have G_g3 := Lib.hid (show w.heap.size ≤ g3 by omega)
  have G_g4 := Lib.hid (show w.heap.size ≤ g4 by omega)
  have n_g3_g4 : ¬ g3 = g4 := by omega
  have n_g4_g3 : ¬ g4 = g3 := by omega
  rw [← hg4] at hB2 ⊢
  rw [← hg3] at hB ⊢
  have B_g3 := hB
  have B_g4 := hB2
  clear hB hB2 hg3 hg4 hGe hp
  have cg30 := cell_at B_g3 0 rfl
  have cg31 := cell_at B_g3 1 rfl
  have cg32 := cell_at B_g3 2 rfl
  have cg33 := cell_at B_g3 3 rfl
  have cg34 := cell_at B_g3 4 rfl
  have zg3 := froz_at B_g3
  have lg3 := hid_lt B_g3
  go_wp2_with fail
  clear cg30 cg31 cg32 cg33 cg34 zg3 lg3
  refine (show Calls _ _ _ _ _ from KM.out _ (HT.out.low HN.out).toP.base).mono ?_
  rintro e x2 ⟨rfl, hp⟩
  replace HN := hid_now HN hp
  replace B_g3 := hid_blk B_g3 hp
  replace B_g4 := hid_blk B_g4 hp
  clear hp
  have cg47 := cell_at B_g4 7 rfl
  have cg417 := cell_at B_g4 17 rfl
  have cg419 := cell_at B_g4 19 rfl
  have cg418 := cell_at B_g4 18 rfl
  have zg4 := froz_at B_g4
  have lg4 := hid_lt B_g4
  go_upto_region 4 with fail
  refine wp_gen (fun x3 hW => ?_)
  have hB := set_blk hW B_g4
  have hf := set_now hW
  clear hW
  simp only [List.setIfInBounds_toArray, List.set_cons_zero, List.set_cons_succ] at hB
  replace HN := hid_own HN hf (fun i hi e => by have h1 : i = g4 := e; have h2 := G_g4.out; omega)
  replace B_g3 := hid_blkS B_g3 hf n_g3_g4
  replace B_g4 := hB
  clear hB hf
  clear cg47 cg417 cg419 cg418 zg4 lg4
  have cg30 := cell_at B_g3 0 rfl
  have cg31 := cell_at B_g3 1 rfl
  have cg32 := cell_at B_g3 2 rfl
  have cg33 := cell_at B_g3 3 rfl
  have cg34 := cell_at B_g3 4 rfl
  have zg3 := froz_at B_g3
  have lg3 := hid_lt B_g3
  have cg418 := cell_at B_g4 18 rfl
  have zg4 := froz_at B_g4
  have lg4 := hid_lt B_g4
  go_upto_region 9 with fail
  clear cg30 cg31 cg32 cg33 cg34 zg3 lg3 cg418 zg4 lg4
  refine wp_region_list ?_
  refine wpList_load_row rfl _ _ rfl g3 (by kernel_rfl) _ _ _ _ B_g3.out Tryz.underlying29 rfl (by kernel_rfl) ?_
  try simp only [Act.put, List.setIfInBounds_toArray, List.set_cons_zero, List.set_cons_succ]
  refine wpList_load_row rfl _ _ rfl g4 (by kernel_rfl) _ _ _ _ B_g4.out Tryz.underlying53 rfl (by kernel_rfl) ?_
  try simp only [Act.put, List.setIfInBounds_toArray, List.set_cons_zero, List.set_cons_succ]
  go_wp2_with fail
  refine (show Calls _ _ _ _ _ from KP.out _).mono ?_
  rintro e x4 ⟨rfl, hp⟩
  replace HN := hid_now HN hp
  replace B_g3 := hid_blk B_g3 hp
  replace B_g4 := hid_blk B_g4 hp
  clear hp
  go_wp2_with fail
  refine (show Calls _ _ _ _ _ from watched_ok _ (HT.out.low HN.out)).mono ?_
  rintro e n1 ⟨rfl, hp⟩
  replace HN := hid_now HN hp
  replace B_g3 := hid_blk B_g3 hp
  replace B_g4 := hid_blk B_g4 hp
  clear hp
  go_wp2_with fail
  go_ret
  exact ⟨rfl, HN.out⟩
set_option maxHeartbeats 8000000 in
set_option maxRecDepth 100000 in
theorem ts_tcpno0 (tos id : Nat) (fl : Bool) (ttl : Nat) (pr0 sr0 ds0 : Int) (op : List UInt8) (sp0 dp0 : Int) (seq ack low fg win sum urg : Nat) (gop : List UInt8) (ty : Nat) (d : List UInt8) (sr sp ds dp : Nat) (beh : List UInt8) (htos : tos < 256) (hid : id < 65536) (httl : ttl < 256) (hseq : seq < 4294967296) (hack : ack < 4294967296) (hfg : fg < 256) (hwin : win < 65536) (hsum : sum < 65536) (hurg : urg < 65536) (hty : ty < 256) (hsr : sr < 4294967296) (hsp : sp < 65536) (hds : ds < 4294967296) (hdp : dp < 65536) (hl0 : op.length ≤ 9223372036854775807) (hl1 : gop.length ≤ 9223372036854775807) (hl2 : d.length ≤ 9223372036854775807) (hl3 : beh.length ≤ 9223372036854775807) (h0 : op.length ≤ 600) (h1 : gop.length ≤ 600) (h2 : d.length ≤ 600) (h3 : beh.length ≤ 100) (m t2 : Nat) (hm : m = ty % 4) (ht2 : t2 = 0 ∨ t2 = 8 ∨ t2 = 13 ∨ t2 = 14) (KX : ∀ W, (Instr.index 54 (.agg #[.int .u8 0, .int .u8 8, .int .u8 13, .int .u8 14]) (.int .u8 (m : Nat))).run Tryz.prog W = .ok (.int .u8 (t2 : Nat)) W) (hT0 : ¬ t2 = 0) (hok : tcpOkP low gop = false) (w : World) (ht : TbQ w) : Calls Tryz.prog 8 #[.agg #[.int .u8 6, .int .u32 (sr : Nat), .int .u16 (sp : Nat), .int .u32 (ds : Nat), .int .u16 (dp : Nat)], .agg #[.int .u8 (tos : Nat), .int .u16 (id : Nat), .bool fl, .int .u8 (ttl : Nat), .int .u8 pr0, .int .u32 sr0, .int .u32 ds0, str op, .int .u16 sp0, .int .u16 dp0, .int .u32 (seq : Nat), .int .u32 (ack : Nat), .int .u8 (low : Nat), .int .u8 (fg : Nat), .int .u16 (win : Nat), .int .u16 (sum : Nat), .int .u16 (urg : Nat), str gop, .int .u8 (ty : Nat), str d], str beh] w (Ret1 (.bool true) w) := by
  have hB : tupB 6 sp dp = true := by simp [tupB, isWord]
  have KM := Lib.hid (fun W hW => tup_ok 6 sr sp ds dp (by omega) W hW)
  rw [hB] at KM
  have e0 : decide ((600 : Int) < (op.length : Int)) = false := decide_eq_false (by omega)
  have e1 : decide ((600 : Int) < (gop.length : Int)) = false := decide_eq_false (by omega)
  have e2 : decide ((600 : Int) < (d.length : Int)) = false := decide_eq_false (by omega)
  have e3 : decide ((100 : Int) < (beh.length : Int)) = false := decide_eq_false (by omega)
  have c0 : (ty : Int) % 4 = (m : Int) := by omega
  have c0' : (ty : Int).tmod 4 = (m : Int) := by rw [Int.tmod_eq_emod_of_nonneg (by omega)]; omega
  have t0 : ((t2 : Int) == 0) = false := beq_eq_false_iff_ne.2 (by omega)
  have KP := Lib.hid (fun W => lput_tcp0 tos id fl ttl pr0 sr0 ds0 op sp0 dp0 seq ack low fg win sum urg gop t2 d sr sp ds dp htos hid httl h0 hseq hack hfg hwin hsum hurg h1 (by omega) h2 hsr hsp hds hdp hok W)
  obtain ⟨ld, hld⟩ : ∃ ld, ld = (tcpS sp dp seq ack low fg win sum urg gop d) := ⟨_, rfl⟩
  rw [← hld] at KP
  have eN : ∀ W, (binOp .neq 29 (.agg #[.int .u8 6, .int .u32 (sr : Nat), .int .u16 (sp : Nat), .int .u32 (ds : Nat), .int .u16 (dp : Nat)]) (.agg #[.int .u8 6, .int .u32 (sr : Nat), .int .u16 (sp : Nat), .int .u32 (ds : Nat), .int .u16 (dp : Nat)])).run Tryz.prog W = .ok (.bool false) W := fun W => (tup_neq2 6 sr sp ds dp 6 sr sp ds dp W).trans (by simp)
  clear hB hm hl0 hl1 hl2 hl3 h0 h1 h2 h3 hT0
  go_enter Tryz.func8, Tryz.ntmps8
  have HN := Lib.hid (Fp.refl (fun _ => False) w)
  have HT := Lib.hid ht
  go_upto_region 1 with fail
  refine wp_gen (fun x1 hW => ?_)
  obtain ⟨hB, hB2, hp⟩ := new2_blk hW
  clear hW
  have hGe := hid_ge HN
  replace HN := hid_now HN hp
  obtain ⟨g4, hg4⟩ : ∃ g4, g4 = w.heap.size + 1 := ⟨_, rfl⟩
  obtain ⟨g3, hg3⟩ : ∃ g3, g3 = w.heap.size := ⟨_, rfl⟩
  have G_g3 := Lib.hid (show w.heap.size ≤ g3 by omega)
  have G_g4 := Lib.hid (show w.heap.size ≤ g4 by omega)
  have n_g3_g4 : ¬ g3 = g4 := by omega
  have n_g4_g3 : ¬ g4 = g3 := by omega
  rw [← hg4] at hB2 ⊢
  rw [← hg3] at hB ⊢
  have B_g3 := hB
  have B_g4 := hB2
  clear hB hB2 hg3 hg4 hGe hp
  have cg30 := cell_at B_g3 0 rfl
  have cg31 := cell_at B_g3 1 rfl
  have cg32 := cell_at B_g3 2 rfl
  have cg33 := cell_at B_g3 3 rfl
  have cg34 := cell_at B_g3 4 rfl
  have zg3 := froz_at B_g3
  have lg3 := hid_lt B_g3
  go_wp2_with fail
  clear cg30 cg31 cg32 cg33 cg34 zg3 lg3
  refine (show Calls _ _ _ _ _ from KM.out _ (HT.out.low HN.out).toP.base).mono ?_
  rintro e x2 ⟨rfl, hp⟩
  replace HN := hid_now HN hp
  replace B_g3 := hid_blk B_g3 hp
  replace B_g4 := hid_blk B_g4 hp
  clear hp
  have cg47 := cell_at B_g4 7 rfl
  have cg417 := cell_at B_g4 17 rfl
  have cg419 := cell_at B_g4 19 rfl
  have cg418 := cell_at B_g4 18 rfl
  have zg4 := froz_at B_g4
  have lg4 := hid_lt B_g4
  go_upto_region 4 with fail
  refine wp_gen (fun x3 hW => ?_)
  have hB := set_blk hW B_g4
  have hf := set_now hW
  clear hW
  simp only [List.setIfInBounds_toArray, List.set_cons_zero, List.set_cons_succ] at hB
  replace HN := hid_own HN hf (fun i hi e => by have h1 : i = g4 := e; have h2 := G_g4.out; omega)
  replace B_g3 := hid_blkS B_g3 hf n_g3_g4
  replace B_g4 := hB
  clear hB hf
  clear cg47 cg417 cg419 cg418 zg4 lg4
  have cg30 := cell_at B_g3 0 rfl
  have cg31 := cell_at B_g3 1 rfl
  have cg32 := cell_at B_g3 2 rfl
  have cg33 := cell_at B_g3 3 rfl
  have cg34 := cell_at B_g3 4 rfl
  have zg3 := froz_at B_g3
  have lg3 := hid_lt B_g3
  have cg418 := cell_at B_g4 18 rfl
  have zg4 := froz_at B_g4
  have lg4 := hid_lt B_g4
  go_upto_region 9 with fail
  clear cg30 cg31 cg32 cg33 cg34 zg3 lg3 cg418 zg4 lg4
  refine wp_region_list ?_
  refine wpList_load_row rfl _ _ rfl g3 (by kernel_rfl) _ _ _ _ B_g3.out Tryz.underlying29 rfl (by kernel_rfl) ?_
  try simp only [Act.put, List.setIfInBounds_toArray, List.set_cons_zero, List.set_cons_succ]
  refine wpList_load_row rfl _ _ rfl g4 (by kernel_rfl) _ _ _ _ B_g4.out Tryz.underlying53 rfl (by kernel_rfl) ?_
  try simp only [Act.put, List.setIfInBounds_toArray, List.set_cons_zero, List.set_cons_succ]
  go_wp2_with fail
  refine (show Calls _ _ _ _ _ from KP.out _).mono ?_
  rintro e x4 ⟨rfl, hp⟩
  replace HN := hid_now HN hp
  replace B_g3 := hid_blk B_g3 hp
  replace B_g4 := hid_blk B_g4 hp
  clear hp
  go_wp2_with fail
  refine (show Calls _ _ _ _ _ from watched_ok _ (HT.out.low HN.out)).mono ?_
  rintro e n1 ⟨rfl, hp⟩
  replace HN := hid_now HN hp
  replace B_g3 := hid_blk B_g3 hp
  replace B_g4 := hid_blk B_g4 hp
  clear hp
  go_wp2_with fail
  go_ret
  exact ⟨rfl, HN.out⟩
set_option maxHeartbeats 8000000 in
set_option maxRecDepth 100000 in
theorem ts_tcp100 (tos id : Nat) (fl : Bool) (ttl : Nat) (pr0 sr0 ds0 : Int) (op : List UInt8) (sp0 dp0 : Int) (seq ack low fg win sum urg : Nat) (gop : List UInt8) (ty : Nat) (d : List UInt8) (sr sp ds dp : Nat) (beh : List UInt8) (htos : tos < 256) (hid : id < 65536) (httl : ttl < 256) (hseq : seq < 4294967296) (hack : ack < 4294967296) (hfg : fg < 256) (hwin : win < 65536) (hsum : sum < 65536) (hurg : urg < 65536) (hty : ty < 256) (hsr : sr < 4294967296) (hsp : sp < 65536) (hds : ds < 4294967296) (hdp : dp < 65536) (hl0 : op.length ≤ 9223372036854775807) (hl1 : gop.length ≤ 9223372036854775807) (hl2 : d.length ≤ 9223372036854775807) (hl3 : beh.length ≤ 9223372036854775807) (h0 : op.length ≤ 600) (h1 : gop.length ≤ 600) (h2 : d.length ≤ 600) (h3 : beh.length ≤ 100) (m t2 : Nat) (hm : m = ty % 4) (ht2 : t2 = 0 ∨ t2 = 8 ∨ t2 = 13 ∨ t2 = 14) (KX : ∀ W, (Instr.index 54 (.agg #[.int .u8 0, .int .u8 8, .int .u8 13, .int .u8 14]) (.int .u8 (m : Nat))).run Tryz.prog W = .ok (.int .u8 (t2 : Nat)) W) (hT0 : t2 = 0) (hok : tcpOkP low gop = true) (hfb : firstB fg = false) (hX2 : decide ((0 : Int) < bits .and .u8 (fg : Int) 2) = false) (w : World) (ht : TbQ w) : Calls Tryz.prog 8 #[.agg #[.int .u8 6, .int .u32 (sr : Nat), .int .u16 (sp : Nat), .int .u32 (ds : Nat), .int .u16 (dp : Nat)], .agg #[.int .u8 (tos : Nat), .int .u16 (id : Nat), .bool fl, .int .u8 (ttl : Nat), .int .u8 pr0, .int .u32 sr0, .int .u32 ds0, str op, .int .u16 sp0, .int .u16 dp0, .int .u32 (seq : Nat), .int .u32 (ack : Nat), .int .u8 (low : Nat), .int .u8 (fg : Nat), .int .u16 (win : Nat), .int .u16 (sum : Nat), .int .u16 (urg : Nat), str gop, .int .u8 (ty : Nat), str d], str beh] w (Ret1 (.bool true) w) := by
  have hB : tupB 6 sp dp = true := by simp [tupB, isWord]
  have KM := Lib.hid (fun W hW => tup_ok 6 sr sp ds dp (by omega) W hW)
  rw [hB] at KM
  have e0 : decide ((600 : Int) < (op.length : Int)) = false := decide_eq_false (by omega)
  have e1 : decide ((600 : Int) < (gop.length : Int)) = false := decide_eq_false (by omega)
  have e2 : decide ((600 : Int) < (d.length : Int)) = false := decide_eq_false (by omega)
  have e3 : decide ((100 : Int) < (beh.length : Int)) = false := decide_eq_false (by omega)
  have c0 : (ty : Int) % 4 = (m : Int) := by omega
  have c0' : (ty : Int).tmod 4 = (m : Int) := by rw [Int.tmod_eq_emod_of_nonneg (by omega)]; omega
  have t0 : ((t2 : Int) == 0) = true := by rw [hT0]; rfl
  have KP := Lib.hid (fun W => lput_tcp1 tos id fl ttl pr0 sr0 ds0 op sp0 dp0 seq ack low fg win sum urg gop t2 d sr sp ds dp htos hid httl h0 hseq hack hfg hwin hsum hurg h1 (by omega) h2 hsr hsp hds hdp hok W)
  obtain ⟨ld, hld⟩ : ∃ ld, ld = (tcpS sp dp seq ack low fg win sum urg gop d) := ⟨_, rfl⟩
  rw [← hld] at KP
  have lS := @ipS_len tos id fl ttl 6 sr ds op ld
  obtain ⟨S, hS⟩ : ∃ S, S = ipS tos id fl ttl 6 sr ds op ld := ⟨_, rfl⟩
  rw [← hS] at KP lS
  obtain ⟨hg40, hg4, hgl⟩ : gop.length ≤ 40 ∧ gop.length % 4 = 0 ∧ low ≤ 15 := of_decide_eq_true hok
  have hl2' : ld = tcpPutL sp dp seq ack low fg win sum urg gop d := hld.trans (if_pos hok)
  have hlk : lookAt 6 sr ds ttl ld = .inl ⟨6, sr, sp, ds, dp, 2, fg, false, ttl⟩ := by rw [hl2', look_tcp hsp hdp hgl hfg hg40 hg4, hfb]; rfl
  have HOF := Lib.hid (fun (hb : ipOkB op ld = true) W hW => of_ok (S ++ beh) (by rw [List.length_append]; omega) W hW)
  have HSE := Lib.hid (show ipOkB op ld = true → seenOf (S ++ beh) = .inl ⟨6, sr, sp, ds, dp, 2, fg, false, ttl⟩ from fun hb => by rw [hS]; exact (of_put htos hid httl (by omega) hsr hds hb).trans hlk)
  obtain ⟨s1, hs1⟩ : ∃ s : List UInt8, s = S ++ beh := ⟨_, rfl⟩
  have ls1 : s1.length ≤ 4000 := by rw [hs1, List.length_append]; omega
  have as1 : ∀ W, (Op.stringOp .add ⟨(S).toArray⟩ ⟨(beh).toArray⟩).run Tryz.prog W = .ok (str s1) W := fun W => by rw [hs1]; exact run_string_add_lists (P := Tryz.prog) W (S) (beh) (by omega) (by omega)
  rw [← hs1] at HOF HSE
  have HOK := Lib.hid (show (ipOkB op ld = true) ∨ (ipOkB op ld = false) by cases ipOkB op ld <;> simp)
  obtain ⟨OK, hOK⟩ : ∃ b, b = ipOkB op ld := ⟨_, rfl⟩
  have HOKe := Lib.hid hOK
  rw [← hOK] at KP
  clear hOK hlk hld hS hs1 ls1 lS hl2'
  have X2 : decide ((0 : Int) < bits .and .u8 (fg : Int) 2) = false := hX2
  clear hX2
  have eN : ∀ W, (binOp .neq 29 (.agg #[.int .u8 6, .int .u32 (sr : Nat), .int .u16 (sp : Nat), .int .u32 (ds : Nat), .int .u16 (dp : Nat)]) (.agg #[.int .u8 6, .int .u32 (sr : Nat), .int .u16 (sp : Nat), .int .u32 (ds : Nat), .int .u16 (dp : Nat)])).run Tryz.prog W = .ok (.bool false) W := fun W => (tup_neq2 6 sr sp ds dp 6 sr sp ds dp W).trans (by simp)
  clear hB hm hl0 hl1 hl2 hl3 h0 h1 h2 h3 hT0
  go_enter Tryz.func8, Tryz.ntmps8
  have HN := Lib.hid (Fp.refl (fun _ => False) w)
  have HT := Lib.hid ht
  go_upto_region 1 with fail
  refine wp_gen (fun x1 hW => ?_)
  obtain ⟨hB, hB2, hp⟩ := new2_blk hW
  clear hW
  have hGe := hid_ge HN
  replace HN := hid_now HN hp
  obtain ⟨g4, hg4⟩ : ∃ g4, g4 = w.heap.size + 1 := ⟨_, rfl⟩
  obtain ⟨g3, hg3⟩ : ∃ g3, g3 = w.heap.size := ⟨_, rfl⟩
  have G_g3 := Lib.hid (show w.heap.size ≤ g3 by omega)
  have G_g4 := Lib.hid (show w.heap.size ≤ g4 by omega)
  have n_g3_g4 : ¬ g3 = g4 := by omega
  have n_g4_g3 : ¬ g4 = g3 := by omega
  rw [← hg4] at hB2 ⊢
  rw [← hg3] at hB ⊢
  have B_g3 := hB
  have B_g4 := hB2
  clear hB hB2 hg3 hg4 hGe hp
  have cg30 := cell_at B_g3 0 rfl
  have cg31 := cell_at B_g3 1 rfl
  have cg32 := cell_at B_g3 2 rfl
  have cg33 := cell_at B_g3 3 rfl
  have cg34 := cell_at B_g3 4 rfl
  have zg3 := froz_at B_g3
  have lg3 := hid_lt B_g3
  go_wp2_with fail
  clear cg30 cg31 cg32 cg33 cg34 zg3 lg3
  refine (show Calls _ _ _ _ _ from KM.out _ (HT.out.low HN.out).toP.base).mono ?_
  rintro e x2 ⟨rfl, hp⟩
  replace HN := hid_now HN hp
  replace B_g3 := hid_blk B_g3 hp
  replace B_g4 := hid_blk B_g4 hp
  clear hp
  have cg47 := cell_at B_g4 7 rfl
  have cg417 := cell_at B_g4 17 rfl
  have cg419 := cell_at B_g4 19 rfl
  have cg418 := cell_at B_g4 18 rfl
  have zg4 := froz_at B_g4
  have lg4 := hid_lt B_g4
  go_upto_region 4 with fail
  refine wp_gen (fun x3 hW => ?_)
  have hB := set_blk hW B_g4
  have hf := set_now hW
  clear hW
  simp only [List.setIfInBounds_toArray, List.set_cons_zero, List.set_cons_succ] at hB
  replace HN := hid_own HN hf (fun i hi e => by have h1 : i = g4 := e; have h2 := G_g4.out; omega)
  replace B_g3 := hid_blkS B_g3 hf n_g3_g4
  replace B_g4 := hB
  clear hB hf
  clear cg47 cg417 cg419 cg418 zg4 lg4
  have cg30 := cell_at B_g3 0 rfl
  have cg31 := cell_at B_g3 1 rfl
  have cg32 := cell_at B_g3 2 rfl
  have cg33 := cell_at B_g3 3 rfl
  have cg34 := cell_at B_g3 4 rfl
  have zg3 := froz_at B_g3
  have lg3 := hid_lt B_g3
  have cg418 := cell_at B_g4 18 rfl
  have zg4 := froz_at B_g4
  have lg4 := hid_lt B_g4
  go_upto_region 9 with fail
  clear cg30 cg31 cg32 cg33 cg34 zg3 lg3 cg418 zg4 lg4
  refine wp_region_list ?_
  refine wpList_load_row rfl _ _ rfl g3 (by kernel_rfl) _ _ _ _ B_g3.out Tryz.underlying29 rfl (by kernel_rfl) ?_
  try simp only [Act.put, List.setIfInBounds_toArray, List.set_cons_zero, List.set_cons_succ]
  refine wpList_load_row rfl _ _ rfl g4 (by kernel_rfl) _ _ _ _ B_g4.out Tryz.underlying53 rfl (by kernel_rfl) ?_
  try simp only [Act.put, List.setIfInBounds_toArray, List.set_cons_zero, List.set_cons_succ]
  go_wp2_with fail
  refine (show Calls _ _ _ _ _ from KP.out _).mono ?_
  rintro e x4 ⟨rfl, hp⟩
  replace HN := hid_now HN hp
  replace B_g3 := hid_blk B_g3 hp
  replace B_g4 := hid_blk B_g4 hp
  clear hp
  rcases HOK.out with hb | hb
  rotate_left
  · have hO := HOKe.out
    rw [hb] at hO
    subst hO
    clear HOF HSE HOK HOKe hb
    go_wp2_with fail
    refine (show Calls _ _ _ _ _ from watched_ok _ (HT.out.low HN.out)).mono ?_
    rintro e n1 ⟨rfl, hp⟩
    replace HN := hid_now HN hp
    replace B_g3 := hid_blk B_g3 hp
    replace B_g4 := hid_blk B_g4 hp
    clear hp
    go_wp2_with fail
    go_ret
    exact ⟨rfl, HN.out⟩
  · have hO := HOKe.out
    rw [hb] at hO
    subst hO
    have KO := Lib.hid (fun W hW => HOF.out hb W hW)
    have hse := HSE.out hb
    rw [hse] at KO
    unfold ofV seenV at KO
    clear HOF HSE HOK HOKe hb hse
    go_wp2_with fail
    refine (show Calls _ _ _ _ _ from KO.out _ (HT.out.low HN.out).toP.base).mono ?_
    rintro e k1 ⟨rfl, hp⟩
    replace HN := hid_now HN hp
    replace B_g3 := hid_blk B_g3 hp
    replace B_g4 := hid_blk B_g4 hp
    clear hp
    go_upto_region 13 with fail
    refine wp_gen (fun k2 hW => ?_)
    have l2g3 := hid_lt B_g3
    have l2g4 := hid_lt B_g4
    have hp := new_now hW
    have hB := new_blk hW
    clear hW
    have hGe := hid_ge HN
    replace HN := hid_now HN hp
    replace B_g3 := hid_blk B_g3 hp
    replace B_g4 := hid_blk B_g4 hp
    obtain ⟨g10, hg10⟩ : ∃ g10, g10 = k1.heap.size := ⟨_, rfl⟩
    have G_g10 := Lib.hid (Nat.le_trans hGe (Nat.le_of_eq hg10.symm))
    have n_g3_g10 : ¬ g3 = g10 := by omega
    have n_g10_g3 : ¬ g10 = g3 := by omega
    clear l2g3
    have n_g4_g10 : ¬ g4 = g10 := by omega
    have n_g10_g4 : ¬ g10 = g4 := by omega
    clear l2g4
    rw [← hg10] at hB ⊢
    have B_g10 := hB
    clear hB hGe hg10
    clear hp
    have cg30 := cell_at B_g3 0 rfl
    have cg31 := cell_at B_g3 1 rfl
    have cg32 := cell_at B_g3 2 rfl
    have cg33 := cell_at B_g3 3 rfl
    have cg34 := cell_at B_g3 4 rfl
    have zg3 := froz_at B_g3
    have lg3 := hid_lt B_g3
    have cg43 := cell_at B_g4 3 rfl
    have cg413 := cell_at B_g4 13 rfl
    have zg4 := froz_at B_g4
    have lg4 := hid_lt B_g4
    have cg100 := cell_at B_g10 0 rfl
    have cg101 := cell_at B_g10 1 rfl
    have cg102 := cell_at B_g10 2 rfl
    have cg103 := cell_at B_g10 3 rfl
    have cg104 := cell_at B_g10 4 rfl
    have cg105 := cell_at B_g10 5 rfl
    have cg106 := cell_at B_g10 6 rfl
    have cg107 := cell_at B_g10 7 rfl
    have cg108 := cell_at B_g10 8 rfl
    have zg10 := froz_at B_g10
    have lg10 := hid_lt B_g10
    go_wp2_with fail
    clear cg30 cg31 cg32 cg33 cg34 zg3 lg3 cg43 cg413 zg4 lg4 cg100 cg101 cg102 cg103 cg104 cg105 cg106 cg107 cg108 zg10 lg10
    have KM2 := Lib.hid (fun W hW => tup_ok 6 sr sp ds dp (by omega) W hW)
    rw [show tupB 6 sp dp = true by simp [tupB, isWord]] at KM2
    refine (show Calls _ _ _ _ _ from KM2.out _ (HT.out.low HN.out).toP.base).mono ?_
    rintro e k3 ⟨rfl, hp⟩
    replace HN := hid_now HN hp
    replace B_g3 := hid_blk B_g3 hp
    replace B_g4 := hid_blk B_g4 hp
    replace B_g10 := hid_blk B_g10 hp
    clear hp
    go_wp2_with fail
    refine (show Calls _ _ _ _ _ from watched_ok _ (HT.out.low HN.out)).mono ?_
    rintro e k4 ⟨rfl, hp⟩
    replace HN := hid_now HN hp
    replace B_g3 := hid_blk B_g3 hp
    replace B_g4 := hid_blk B_g4 hp
    replace B_g10 := hid_blk B_g10 hp
    clear hp
    go_wp2_with fail
    go_ret
    exact ⟨rfl, HN.out⟩
set_option maxHeartbeats 8000000 in
set_option maxRecDepth 100000 in
theorem ts_tcp110 (tos id : Nat) (fl : Bool) (ttl : Nat) (pr0 sr0 ds0 : Int) (op : List UInt8) (sp0 dp0 : Int) (seq ack low fg win sum urg : Nat) (gop : List UInt8) (ty : Nat) (d : List UInt8) (sr sp ds dp : Nat) (beh : List UInt8) (htos : tos < 256) (hid : id < 65536) (httl : ttl < 256) (hseq : seq < 4294967296) (hack : ack < 4294967296) (hfg : fg < 256) (hwin : win < 65536) (hsum : sum < 65536) (hurg : urg < 65536) (hty : ty < 256) (hsr : sr < 4294967296) (hsp : sp < 65536) (hds : ds < 4294967296) (hdp : dp < 65536) (hl0 : op.length ≤ 9223372036854775807) (hl1 : gop.length ≤ 9223372036854775807) (hl2 : d.length ≤ 9223372036854775807) (hl3 : beh.length ≤ 9223372036854775807) (h0 : op.length ≤ 600) (h1 : gop.length ≤ 600) (h2 : d.length ≤ 600) (h3 : beh.length ≤ 100) (m t2 : Nat) (hm : m = ty % 4) (ht2 : t2 = 0 ∨ t2 = 8 ∨ t2 = 13 ∨ t2 = 14) (KX : ∀ W, (Instr.index 54 (.agg #[.int .u8 0, .int .u8 8, .int .u8 13, .int .u8 14]) (.int .u8 (m : Nat))).run Tryz.prog W = .ok (.int .u8 (t2 : Nat)) W) (hT0 : t2 = 0) (hok : tcpOkP low gop = true) (hfb : firstB fg = false) (hX2 : decide ((0 : Int) < bits .and .u8 (fg : Int) 2) = true) (hX21 : (bits .and .u8 (fg : Int) 21 == 0) = false) (w : World) (ht : TbQ w) : Calls Tryz.prog 8 #[.agg #[.int .u8 6, .int .u32 (sr : Nat), .int .u16 (sp : Nat), .int .u32 (ds : Nat), .int .u16 (dp : Nat)], .agg #[.int .u8 (tos : Nat), .int .u16 (id : Nat), .bool fl, .int .u8 (ttl : Nat), .int .u8 pr0, .int .u32 sr0, .int .u32 ds0, str op, .int .u16 sp0, .int .u16 dp0, .int .u32 (seq : Nat), .int .u32 (ack : Nat), .int .u8 (low : Nat), .int .u8 (fg : Nat), .int .u16 (win : Nat), .int .u16 (sum : Nat), .int .u16 (urg : Nat), str gop, .int .u8 (ty : Nat), str d], str beh] w (Ret1 (.bool true) w) := by
  have hB : tupB 6 sp dp = true := by simp [tupB, isWord]
  have KM := Lib.hid (fun W hW => tup_ok 6 sr sp ds dp (by omega) W hW)
  rw [hB] at KM
  have e0 : decide ((600 : Int) < (op.length : Int)) = false := decide_eq_false (by omega)
  have e1 : decide ((600 : Int) < (gop.length : Int)) = false := decide_eq_false (by omega)
  have e2 : decide ((600 : Int) < (d.length : Int)) = false := decide_eq_false (by omega)
  have e3 : decide ((100 : Int) < (beh.length : Int)) = false := decide_eq_false (by omega)
  have c0 : (ty : Int) % 4 = (m : Int) := by omega
  have c0' : (ty : Int).tmod 4 = (m : Int) := by rw [Int.tmod_eq_emod_of_nonneg (by omega)]; omega
  have t0 : ((t2 : Int) == 0) = true := by rw [hT0]; rfl
  have KP := Lib.hid (fun W => lput_tcp1 tos id fl ttl pr0 sr0 ds0 op sp0 dp0 seq ack low fg win sum urg gop t2 d sr sp ds dp htos hid httl h0 hseq hack hfg hwin hsum hurg h1 (by omega) h2 hsr hsp hds hdp hok W)
  obtain ⟨ld, hld⟩ : ∃ ld, ld = (tcpS sp dp seq ack low fg win sum urg gop d) := ⟨_, rfl⟩
  rw [← hld] at KP
  have lS := @ipS_len tos id fl ttl 6 sr ds op ld
  obtain ⟨S, hS⟩ : ∃ S, S = ipS tos id fl ttl 6 sr ds op ld := ⟨_, rfl⟩
  rw [← hS] at KP lS
  obtain ⟨hg40, hg4, hgl⟩ : gop.length ≤ 40 ∧ gop.length % 4 = 0 ∧ low ≤ 15 := of_decide_eq_true hok
  have hl2' : ld = tcpPutL sp dp seq ack low fg win sum urg gop d := hld.trans (if_pos hok)
  have hlk : lookAt 6 sr ds ttl ld = .inl ⟨6, sr, sp, ds, dp, 2, fg, false, ttl⟩ := by rw [hl2', look_tcp hsp hdp hgl hfg hg40 hg4, hfb]; rfl
  have HOF := Lib.hid (fun (hb : ipOkB op ld = true) W hW => of_ok (S ++ beh) (by rw [List.length_append]; omega) W hW)
  have HSE := Lib.hid (show ipOkB op ld = true → seenOf (S ++ beh) = .inl ⟨6, sr, sp, ds, dp, 2, fg, false, ttl⟩ from fun hb => by rw [hS]; exact (of_put htos hid httl (by omega) hsr hds hb).trans hlk)
  obtain ⟨s1, hs1⟩ : ∃ s : List UInt8, s = S ++ beh := ⟨_, rfl⟩
  have ls1 : s1.length ≤ 4000 := by rw [hs1, List.length_append]; omega
  have as1 : ∀ W, (Op.stringOp .add ⟨(S).toArray⟩ ⟨(beh).toArray⟩).run Tryz.prog W = .ok (str s1) W := fun W => by rw [hs1]; exact run_string_add_lists (P := Tryz.prog) W (S) (beh) (by omega) (by omega)
  rw [← hs1] at HOF HSE
  have HOK := Lib.hid (show (ipOkB op ld = true) ∨ (ipOkB op ld = false) by cases ipOkB op ld <;> simp)
  obtain ⟨OK, hOK⟩ : ∃ b, b = ipOkB op ld := ⟨_, rfl⟩
  have HOKe := Lib.hid hOK
  rw [← hOK] at KP
  clear hOK hlk hld hS hs1 ls1 lS hl2'
  have X2 : decide ((0 : Int) < bits .and .u8 (fg : Int) 2) = true := hX2
  have X21 : (bits .and .u8 (fg : Int) 21 == 0) = false := hX21
  clear hX2 hX21
  have eN : ∀ W, (binOp .neq 29 (.agg #[.int .u8 6, .int .u32 (sr : Nat), .int .u16 (sp : Nat), .int .u32 (ds : Nat), .int .u16 (dp : Nat)]) (.agg #[.int .u8 6, .int .u32 (sr : Nat), .int .u16 (sp : Nat), .int .u32 (ds : Nat), .int .u16 (dp : Nat)])).run Tryz.prog W = .ok (.bool false) W := fun W => (tup_neq2 6 sr sp ds dp 6 sr sp ds dp W).trans (by simp)
  clear hB hm hl0 hl1 hl2 hl3 h0 h1 h2 h3 hT0
  go_enter Tryz.func8, Tryz.ntmps8
  have HN := Lib.hid (Fp.refl (fun _ => False) w)
  have HT := Lib.hid ht
  go_upto_region 1 with fail
  refine wp_gen (fun x1 hW => ?_)
  obtain ⟨hB, hB2, hp⟩ := new2_blk hW
  clear hW
  have hGe := hid_ge HN
  replace HN := hid_now HN hp
  obtain ⟨g4, hg4⟩ : ∃ g4, g4 = w.heap.size + 1 := ⟨_, rfl⟩
  obtain ⟨g3, hg3⟩ : ∃ g3, g3 = w.heap.size := ⟨_, rfl⟩
  have G_g3 := Lib.hid (show w.heap.size ≤ g3 by omega)
  have G_g4 := Lib.hid (show w.heap.size ≤ g4 by omega)
  have n_g3_g4 : ¬ g3 = g4 := by omega
  have n_g4_g3 : ¬ g4 = g3 := by omega
  rw [← hg4] at hB2 ⊢
  rw [← hg3] at hB ⊢
  have B_g3 := hB
  have B_g4 := hB2
  clear hB hB2 hg3 hg4 hGe hp
  have cg30 := cell_at B_g3 0 rfl
  have cg31 := cell_at B_g3 1 rfl
  have cg32 := cell_at B_g3 2 rfl
  have cg33 := cell_at B_g3 3 rfl
  have cg34 := cell_at B_g3 4 rfl
  have zg3 := froz_at B_g3
  have lg3 := hid_lt B_g3
  go_wp2_with fail
  clear cg30 cg31 cg32 cg33 cg34 zg3 lg3
  refine (show Calls _ _ _ _ _ from KM.out _ (HT.out.low HN.out).toP.base).mono ?_
  rintro e x2 ⟨rfl, hp⟩
  replace HN := hid_now HN hp
  replace B_g3 := hid_blk B_g3 hp
  replace B_g4 := hid_blk B_g4 hp
  clear hp
  have cg47 := cell_at B_g4 7 rfl
  have cg417 := cell_at B_g4 17 rfl
  have cg419 := cell_at B_g4 19 rfl
  have cg418 := cell_at B_g4 18 rfl
  have zg4 := froz_at B_g4
  have lg4 := hid_lt B_g4
  go_upto_region 4 with fail
  refine wp_gen (fun x3 hW => ?_)
  have hB := set_blk hW B_g4
  have hf := set_now hW
  clear hW
  simp only [List.setIfInBounds_toArray, List.set_cons_zero, List.set_cons_succ] at hB
  replace HN := hid_own HN hf (fun i hi e => by have h1 : i = g4 := e; have h2 := G_g4.out; omega)
  replace B_g3 := hid_blkS B_g3 hf n_g3_g4
  replace B_g4 := hB
  clear hB hf
  clear cg47 cg417 cg419 cg418 zg4 lg4
  have cg30 := cell_at B_g3 0 rfl
  have cg31 := cell_at B_g3 1 rfl
  have cg32 := cell_at B_g3 2 rfl
  have cg33 := cell_at B_g3 3 rfl
  have cg34 := cell_at B_g3 4 rfl
  have zg3 := froz_at B_g3
  have lg3 := hid_lt B_g3
  have cg418 := cell_at B_g4 18 rfl
  have zg4 := froz_at B_g4
  have lg4 := hid_lt B_g4
  go_upto_region 9 with fail
  clear cg30 cg31 cg32 cg33 cg34 zg3 lg3 cg418 zg4 lg4
  refine wp_region_list ?_
  refine wpList_load_row rfl _ _ rfl g3 (by kernel_rfl) _ _ _ _ B_g3.out Tryz.underlying29 rfl (by kernel_rfl) ?_
  try simp only [Act.put, List.setIfInBounds_toArray, List.set_cons_zero, List.set_cons_succ]
  refine wpList_load_row rfl _ _ rfl g4 (by kernel_rfl) _ _ _ _ B_g4.out Tryz.underlying53 rfl (by kernel_rfl) ?_
  try simp only [Act.put, List.setIfInBounds_toArray, List.set_cons_zero, List.set_cons_succ]
  go_wp2_with fail
  refine (show Calls _ _ _ _ _ from KP.out _).mono ?_
  rintro e x4 ⟨rfl, hp⟩
  replace HN := hid_now HN hp
  replace B_g3 := hid_blk B_g3 hp
  replace B_g4 := hid_blk B_g4 hp
  clear hp
  rcases HOK.out with hb | hb
  rotate_left
  · have hO := HOKe.out
    rw [hb] at hO
    subst hO
    clear HOF HSE HOK HOKe hb
    go_wp2_with fail
    refine (show Calls _ _ _ _ _ from watched_ok _ (HT.out.low HN.out)).mono ?_
    rintro e n1 ⟨rfl, hp⟩
    replace HN := hid_now HN hp
    replace B_g3 := hid_blk B_g3 hp
    replace B_g4 := hid_blk B_g4 hp
    clear hp
    go_wp2_with fail
    go_ret
    exact ⟨rfl, HN.out⟩
  · have hO := HOKe.out
    rw [hb] at hO
    subst hO
    have KO := Lib.hid (fun W hW => HOF.out hb W hW)
    have hse := HSE.out hb
    rw [hse] at KO
    unfold ofV seenV at KO
    clear HOF HSE HOK HOKe hb hse
    go_wp2_with fail
    refine (show Calls _ _ _ _ _ from KO.out _ (HT.out.low HN.out).toP.base).mono ?_
    rintro e k1 ⟨rfl, hp⟩
    replace HN := hid_now HN hp
    replace B_g3 := hid_blk B_g3 hp
    replace B_g4 := hid_blk B_g4 hp
    clear hp
    go_upto_region 13 with fail
    refine wp_gen (fun k2 hW => ?_)
    have l2g3 := hid_lt B_g3
    have l2g4 := hid_lt B_g4
    have hp := new_now hW
    have hB := new_blk hW
    clear hW
    have hGe := hid_ge HN
    replace HN := hid_now HN hp
    replace B_g3 := hid_blk B_g3 hp
    replace B_g4 := hid_blk B_g4 hp
    obtain ⟨g10, hg10⟩ : ∃ g10, g10 = k1.heap.size := ⟨_, rfl⟩
    have G_g10 := Lib.hid (Nat.le_trans hGe (Nat.le_of_eq hg10.symm))
    have n_g3_g10 : ¬ g3 = g10 := by omega
    have n_g10_g3 : ¬ g10 = g3 := by omega
    clear l2g3
    have n_g4_g10 : ¬ g4 = g10 := by omega
    have n_g10_g4 : ¬ g10 = g4 := by omega
    clear l2g4
    rw [← hg10] at hB ⊢
    have B_g10 := hB
    clear hB hGe hg10
    clear hp
    have cg30 := cell_at B_g3 0 rfl
    have cg31 := cell_at B_g3 1 rfl
    have cg32 := cell_at B_g3 2 rfl
    have cg33 := cell_at B_g3 3 rfl
    have cg34 := cell_at B_g3 4 rfl
    have zg3 := froz_at B_g3
    have lg3 := hid_lt B_g3
    have cg43 := cell_at B_g4 3 rfl
    have cg413 := cell_at B_g4 13 rfl
    have zg4 := froz_at B_g4
    have lg4 := hid_lt B_g4
    have cg100 := cell_at B_g10 0 rfl
    have cg101 := cell_at B_g10 1 rfl
    have cg102 := cell_at B_g10 2 rfl
    have cg103 := cell_at B_g10 3 rfl
    have cg104 := cell_at B_g10 4 rfl
    have cg105 := cell_at B_g10 5 rfl
    have cg106 := cell_at B_g10 6 rfl
    have cg107 := cell_at B_g10 7 rfl
    have cg108 := cell_at B_g10 8 rfl
    have zg10 := froz_at B_g10
    have lg10 := hid_lt B_g10
    go_wp2_with fail
    clear cg30 cg31 cg32 cg33 cg34 zg3 lg3 cg43 cg413 zg4 lg4 cg100 cg101 cg102 cg103 cg104 cg105 cg106 cg107 cg108 zg10 lg10
    have KM2 := Lib.hid (fun W hW => tup_ok 6 sr sp ds dp (by omega) W hW)
    rw [show tupB 6 sp dp = true by simp [tupB, isWord]] at KM2
    refine (show Calls _ _ _ _ _ from KM2.out _ (HT.out.low HN.out).toP.base).mono ?_
    rintro e k3 ⟨rfl, hp⟩
    replace HN := hid_now HN hp
    replace B_g3 := hid_blk B_g3 hp
    replace B_g4 := hid_blk B_g4 hp
    replace B_g10 := hid_blk B_g10 hp
    clear hp
    go_wp2_with fail
    refine (show Calls _ _ _ _ _ from watched_ok _ (HT.out.low HN.out)).mono ?_
    rintro e k4 ⟨rfl, hp⟩
    replace HN := hid_now HN hp
    replace B_g3 := hid_blk B_g3 hp
    replace B_g4 := hid_blk B_g4 hp
    replace B_g10 := hid_blk B_g10 hp
    clear hp
    go_wp2_with fail
    go_ret
    exact ⟨rfl, HN.out⟩
set_option maxHeartbeats 8000000 in
set_option maxRecDepth 100000 in
theorem ts_tcp111 (tos id : Nat) (fl : Bool) (ttl : Nat) (pr0 sr0 ds0 : Int) (op : List UInt8) (sp0 dp0 : Int) (seq ack low fg win sum urg : Nat) (gop : List UInt8) (ty : Nat) (d : List UInt8) (sr sp ds dp : Nat) (beh : List UInt8) (htos : tos < 256) (hid : id < 65536) (httl : ttl < 256) (hseq : seq < 4294967296) (hack : ack < 4294967296) (hfg : fg < 256) (hwin : win < 65536) (hsum : sum < 65536) (hurg : urg < 65536) (hty : ty < 256) (hsr : sr < 4294967296) (hsp : sp < 65536) (hds : ds < 4294967296) (hdp : dp < 65536) (hl0 : op.length ≤ 9223372036854775807) (hl1 : gop.length ≤ 9223372036854775807) (hl2 : d.length ≤ 9223372036854775807) (hl3 : beh.length ≤ 9223372036854775807) (h0 : op.length ≤ 600) (h1 : gop.length ≤ 600) (h2 : d.length ≤ 600) (h3 : beh.length ≤ 100) (m t2 : Nat) (hm : m = ty % 4) (ht2 : t2 = 0 ∨ t2 = 8 ∨ t2 = 13 ∨ t2 = 14) (KX : ∀ W, (Instr.index 54 (.agg #[.int .u8 0, .int .u8 8, .int .u8 13, .int .u8 14]) (.int .u8 (m : Nat))).run Tryz.prog W = .ok (.int .u8 (t2 : Nat)) W) (hT0 : t2 = 0) (hok : tcpOkP low gop = true) (hfb : firstB fg = true) (hX2 : decide ((0 : Int) < bits .and .u8 (fg : Int) 2) = true) (hX21 : (bits .and .u8 (fg : Int) 21 == 0) = true) (w : World) (ht : TbQ w) : Calls Tryz.prog 8 #[.agg #[.int .u8 6, .int .u32 (sr : Nat), .int .u16 (sp : Nat), .int .u32 (ds : Nat), .int .u16 (dp : Nat)], .agg #[.int .u8 (tos : Nat), .int .u16 (id : Nat), .bool fl, .int .u8 (ttl : Nat), .int .u8 pr0, .int .u32 sr0, .int .u32 ds0, str op, .int .u16 sp0, .int .u16 dp0, .int .u32 (seq : Nat), .int .u32 (ack : Nat), .int .u8 (low : Nat), .int .u8 (fg : Nat), .int .u16 (win : Nat), .int .u16 (sum : Nat), .int .u16 (urg : Nat), str gop, .int .u8 (ty : Nat), str d], str beh] w (Ret1 (.bool true) w) := by
  have hB : tupB 6 sp dp = true := by simp [tupB, isWord]
  have KM := Lib.hid (fun W hW => tup_ok 6 sr sp ds dp (by omega) W hW)
  rw [hB] at KM
  have e0 : decide ((600 : Int) < (op.length : Int)) = false := decide_eq_false (by omega)
  have e1 : decide ((600 : Int) < (gop.length : Int)) = false := decide_eq_false (by omega)
  have e2 : decide ((600 : Int) < (d.length : Int)) = false := decide_eq_false (by omega)
  have e3 : decide ((100 : Int) < (beh.length : Int)) = false := decide_eq_false (by omega)
  have c0 : (ty : Int) % 4 = (m : Int) := by omega
  have c0' : (ty : Int).tmod 4 = (m : Int) := by rw [Int.tmod_eq_emod_of_nonneg (by omega)]; omega
  have t0 : ((t2 : Int) == 0) = true := by rw [hT0]; rfl
  have KP := Lib.hid (fun W => lput_tcp1 tos id fl ttl pr0 sr0 ds0 op sp0 dp0 seq ack low fg win sum urg gop t2 d sr sp ds dp htos hid httl h0 hseq hack hfg hwin hsum hurg h1 (by omega) h2 hsr hsp hds hdp hok W)
  obtain ⟨ld, hld⟩ : ∃ ld, ld = (tcpS sp dp seq ack low fg win sum urg gop d) := ⟨_, rfl⟩
  rw [← hld] at KP
  have lS := @ipS_len tos id fl ttl 6 sr ds op ld
  obtain ⟨S, hS⟩ : ∃ S, S = ipS tos id fl ttl 6 sr ds op ld := ⟨_, rfl⟩
  rw [← hS] at KP lS
  obtain ⟨hg40, hg4, hgl⟩ : gop.length ≤ 40 ∧ gop.length % 4 = 0 ∧ low ≤ 15 := of_decide_eq_true hok
  have hl2' : ld = tcpPutL sp dp seq ack low fg win sum urg gop d := hld.trans (if_pos hok)
  have hlk : lookAt 6 sr ds ttl ld = .inl ⟨6, sr, sp, ds, dp, 1, fg, false, ttl⟩ := by rw [hl2', look_tcp hsp hdp hgl hfg hg40 hg4, hfb]; rfl
  have HOF := Lib.hid (fun (hb : ipOkB op ld = true) W hW => of_ok (S ++ beh) (by rw [List.length_append]; omega) W hW)
  have HSE := Lib.hid (show ipOkB op ld = true → seenOf (S ++ beh) = .inl ⟨6, sr, sp, ds, dp, 1, fg, false, ttl⟩ from fun hb => by rw [hS]; exact (of_put htos hid httl (by omega) hsr hds hb).trans hlk)
  obtain ⟨s1, hs1⟩ : ∃ s : List UInt8, s = S ++ beh := ⟨_, rfl⟩
  have ls1 : s1.length ≤ 4000 := by rw [hs1, List.length_append]; omega
  have as1 : ∀ W, (Op.stringOp .add ⟨(S).toArray⟩ ⟨(beh).toArray⟩).run Tryz.prog W = .ok (str s1) W := fun W => by rw [hs1]; exact run_string_add_lists (P := Tryz.prog) W (S) (beh) (by omega) (by omega)
  rw [← hs1] at HOF HSE
  have HOK := Lib.hid (show (ipOkB op ld = true) ∨ (ipOkB op ld = false) by cases ipOkB op ld <;> simp)
  obtain ⟨OK, hOK⟩ : ∃ b, b = ipOkB op ld := ⟨_, rfl⟩
  have HOKe := Lib.hid hOK
  rw [← hOK] at KP
  clear hOK hlk hld hS hs1 ls1 lS hl2'
  have X2 : decide ((0 : Int) < bits .and .u8 (fg : Int) 2) = true := hX2
  have X21 : (bits .and .u8 (fg : Int) 21 == 0) = true := hX21
  clear hX2 hX21
  have eN : ∀ W, (binOp .neq 29 (.agg #[.int .u8 6, .int .u32 (sr : Nat), .int .u16 (sp : Nat), .int .u32 (ds : Nat), .int .u16 (dp : Nat)]) (.agg #[.int .u8 6, .int .u32 (sr : Nat), .int .u16 (sp : Nat), .int .u32 (ds : Nat), .int .u16 (dp : Nat)])).run Tryz.prog W = .ok (.bool false) W := fun W => (tup_neq2 6 sr sp ds dp 6 sr sp ds dp W).trans (by simp)
  clear hB hm hl0 hl1 hl2 hl3 h0 h1 h2 h3 hT0
  go_enter Tryz.func8, Tryz.ntmps8
  have HN := Lib.hid (Fp.refl (fun _ => False) w)
  have HT := Lib.hid ht
  go_upto_region 1 with fail
  refine wp_gen (fun x1 hW => ?_)
  obtain ⟨hB, hB2, hp⟩ := new2_blk hW
  clear hW
  have hGe := hid_ge HN
  replace HN := hid_now HN hp
  obtain ⟨g4, hg4⟩ : ∃ g4, g4 = w.heap.size + 1 := ⟨_, rfl⟩
  obtain ⟨g3, hg3⟩ : ∃ g3, g3 = w.heap.size := ⟨_, rfl⟩
  have G_g3 := Lib.hid (show w.heap.size ≤ g3 by omega)
  have G_g4 := Lib.hid (show w.heap.size ≤ g4 by omega)
  have n_g3_g4 : ¬ g3 = g4 := by omega
  have n_g4_g3 : ¬ g4 = g3 := by omega
  rw [← hg4] at hB2 ⊢
  rw [← hg3] at hB ⊢
  have B_g3 := hB
  have B_g4 := hB2
  clear hB hB2 hg3 hg4 hGe hp
  have cg30 := cell_at B_g3 0 rfl
  have cg31 := cell_at B_g3 1 rfl
  have cg32 := cell_at B_g3 2 rfl
  have cg33 := cell_at B_g3 3 rfl
  have cg34 := cell_at B_g3 4 rfl
  have zg3 := froz_at B_g3
  have lg3 := hid_lt B_g3
  go_wp2_with fail
  clear cg30 cg31 cg32 cg33 cg34 zg3 lg3
  refine (show Calls _ _ _ _ _ from KM.out _ (HT.out.low HN.out).toP.base).mono ?_
  rintro e x2 ⟨rfl, hp⟩
  replace HN := hid_now HN hp
  replace B_g3 := hid_blk B_g3 hp
  replace B_g4 := hid_blk B_g4 hp
  clear hp
  have cg47 := cell_at B_g4 7 rfl
  have cg417 := cell_at B_g4 17 rfl
  have cg419 := cell_at B_g4 19 rfl
  have cg418 := cell_at B_g4 18 rfl
  have zg4 := froz_at B_g4
  have lg4 := hid_lt B_g4
  go_upto_region 4 with fail
  refine wp_gen (fun x3 hW => ?_)
  have hB := set_blk hW B_g4
  have hf := set_now hW
  clear hW
  simp only [List.setIfInBounds_toArray, List.set_cons_zero, List.set_cons_succ] at hB
  replace HN := hid_own HN hf (fun i hi e => by have h1 : i = g4 := e; have h2 := G_g4.out; omega)
  replace B_g3 := hid_blkS B_g3 hf n_g3_g4
  replace B_g4 := hB
  clear hB hf
  clear cg47 cg417 cg419 cg418 zg4 lg4
  have cg30 := cell_at B_g3 0 rfl
  have cg31 := cell_at B_g3 1 rfl
  have cg32 := cell_at B_g3 2 rfl
  have cg33 := cell_at B_g3 3 rfl
  have cg34 := cell_at B_g3 4 rfl
  have zg3 := froz_at B_g3
  have lg3 := hid_lt B_g3
  have cg418 := cell_at B_g4 18 rfl
  have zg4 := froz_at B_g4
  have lg4 := hid_lt B_g4
  go_upto_region 9 with fail
  clear cg30 cg31 cg32 cg33 cg34 zg3 lg3 cg418 zg4 lg4
  refine wp_region_list ?_
  refine wpList_load_row rfl _ _ rfl g3 (by kernel_rfl) _ _ _ _ B_g3.out Tryz.underlying29 rfl (by kernel_rfl) ?_
  try simp only [Act.put, List.setIfInBounds_toArray, List.set_cons_zero, List.set_cons_succ]
  refine wpList_load_row rfl _ _ rfl g4 (by kernel_rfl) _ _ _ _ B_g4.out Tryz.underlying53 rfl (by kernel_rfl) ?_
  try simp only [Act.put, List.setIfInBounds_toArray, List.set_cons_zero, List.set_cons_succ]
  go_wp2_with fail
  refine (show Calls _ _ _ _ _ from KP.out _).mono ?_
  rintro e x4 ⟨rfl, hp⟩
  replace HN := hid_now HN hp
  replace B_g3 := hid_blk B_g3 hp
  replace B_g4 := hid_blk B_g4 hp
  clear hp
  rcases HOK.out with hb | hb
  rotate_left
  · have hO := HOKe.out
    rw [hb] at hO
    subst hO
    clear HOF HSE HOK HOKe hb
    go_wp2_with fail
    refine (show Calls _ _ _ _ _ from watched_ok _ (HT.out.low HN.out)).mono ?_
    rintro e n1 ⟨rfl, hp⟩
    replace HN := hid_now HN hp
    replace B_g3 := hid_blk B_g3 hp
    replace B_g4 := hid_blk B_g4 hp
    clear hp
    go_wp2_with fail
    go_ret
    exact ⟨rfl, HN.out⟩
  · have hO := HOKe.out
    rw [hb] at hO
    subst hO
    have KO := Lib.hid (fun W hW => HOF.out hb W hW)
    have hse := HSE.out hb
    rw [hse] at KO
    unfold ofV seenV at KO
    clear HOF HSE HOK HOKe hb hse
    go_wp2_with fail
    refine (show Calls _ _ _ _ _ from KO.out _ (HT.out.low HN.out).toP.base).mono ?_
    rintro e k1 ⟨rfl, hp⟩
    replace HN := hid_now HN hp
    replace B_g3 := hid_blk B_g3 hp
    replace B_g4 := hid_blk B_g4 hp
    clear hp
    go_upto_region 13 with fail
    refine wp_gen (fun k2 hW => ?_)
    have l2g3 := hid_lt B_g3
    have l2g4 := hid_lt B_g4
    have hp := new_now hW
    have hB := new_blk hW
    clear hW
    have hGe := hid_ge HN
    replace HN := hid_now HN hp
    replace B_g3 := hid_blk B_g3 hp
    replace B_g4 := hid_blk B_g4 hp
    obtain ⟨g10, hg10⟩ : ∃ g10, g10 = k1.heap.size := ⟨_, rfl⟩
    have G_g10 := Lib.hid (Nat.le_trans hGe (Nat.le_of_eq hg10.symm))
    have n_g3_g10 : ¬ g3 = g10 := by omega
    have n_g10_g3 : ¬ g10 = g3 := by omega
    clear l2g3
    have n_g4_g10 : ¬ g4 = g10 := by omega
    have n_g10_g4 : ¬ g10 = g4 := by omega
    clear l2g4
    rw [← hg10] at hB ⊢
    have B_g10 := hB
    clear hB hGe hg10
    clear hp
    have cg30 := cell_at B_g3 0 rfl
    have cg31 := cell_at B_g3 1 rfl
    have cg32 := cell_at B_g3 2 rfl
    have cg33 := cell_at B_g3 3 rfl
    have cg34 := cell_at B_g3 4 rfl
    have zg3 := froz_at B_g3
    have lg3 := hid_lt B_g3
    have cg43 := cell_at B_g4 3 rfl
    have cg413 := cell_at B_g4 13 rfl
    have zg4 := froz_at B_g4
    have lg4 := hid_lt B_g4
    have cg100 := cell_at B_g10 0 rfl
    have cg101 := cell_at B_g10 1 rfl
    have cg102 := cell_at B_g10 2 rfl
    have cg103 := cell_at B_g10 3 rfl
    have cg104 := cell_at B_g10 4 rfl
    have cg105 := cell_at B_g10 5 rfl
    have cg106 := cell_at B_g10 6 rfl
    have cg107 := cell_at B_g10 7 rfl
    have cg108 := cell_at B_g10 8 rfl
    have zg10 := froz_at B_g10
    have lg10 := hid_lt B_g10
    go_wp2_with fail
    clear cg30 cg31 cg32 cg33 cg34 zg3 lg3 cg43 cg413 zg4 lg4 cg100 cg101 cg102 cg103 cg104 cg105 cg106 cg107 cg108 zg10 lg10
    have KM2 := Lib.hid (fun W hW => tup_ok 6 sr sp ds dp (by omega) W hW)
    rw [show tupB 6 sp dp = true by simp [tupB, isWord]] at KM2
    refine (show Calls _ _ _ _ _ from KM2.out _ (HT.out.low HN.out).toP.base).mono ?_
    rintro e k3 ⟨rfl, hp⟩
    replace HN := hid_now HN hp
    replace B_g3 := hid_blk B_g3 hp
    replace B_g4 := hid_blk B_g4 hp
    replace B_g10 := hid_blk B_g10 hp
    clear hp
    go_wp2_with fail
    refine (show Calls _ _ _ _ _ from watched_ok _ (HT.out.low HN.out)).mono ?_
    rintro e k4 ⟨rfl, hp⟩
    replace HN := hid_now HN hp
    replace B_g3 := hid_blk B_g3 hp
    replace B_g4 := hid_blk B_g4 hp
    replace B_g10 := hid_blk B_g10 hp
    clear hp
    go_wp2_with fail
    go_ret
    exact ⟨rfl, HN.out⟩
set_option maxHeartbeats 8000000 in
set_option maxRecDepth 100000 in
theorem ts_tcp000 (tos id : Nat) (fl : Bool) (ttl : Nat) (pr0 sr0 ds0 : Int) (op : List UInt8) (sp0 dp0 : Int) (seq ack low fg win sum urg : Nat) (gop : List UInt8) (ty : Nat) (d : List UInt8) (sr sp ds dp : Nat) (beh : List UInt8) (htos : tos < 256) (hid : id < 65536) (httl : ttl < 256) (hseq : seq < 4294967296) (hack : ack < 4294967296) (hfg : fg < 256) (hwin : win < 65536) (hsum : sum < 65536) (hurg : urg < 65536) (hty : ty < 256) (hsr : sr < 4294967296) (hsp : sp < 65536) (hds : ds < 4294967296) (hdp : dp < 65536) (hl0 : op.length ≤ 9223372036854775807) (hl1 : gop.length ≤ 9223372036854775807) (hl2 : d.length ≤ 9223372036854775807) (hl3 : beh.length ≤ 9223372036854775807) (h0 : op.length ≤ 600) (h1 : gop.length ≤ 600) (h2 : d.length ≤ 600) (h3 : beh.length ≤ 100) (m t2 : Nat) (hm : m = ty % 4) (ht2 : t2 = 0 ∨ t2 = 8 ∨ t2 = 13 ∨ t2 = 14) (KX : ∀ W, (Instr.index 54 (.agg #[.int .u8 0, .int .u8 8, .int .u8 13, .int .u8 14]) (.int .u8 (m : Nat))).run Tryz.prog W = .ok (.int .u8 (t2 : Nat)) W) (hT0 : ¬ t2 = 0) (hok : tcpOkP low gop = true) (hfb : firstB fg = false) (hX2 : decide ((0 : Int) < bits .and .u8 (fg : Int) 2) = false) (w : World) (ht : TbQ w) : Calls Tryz.prog 8 #[.agg #[.int .u8 6, .int .u32 (sr : Nat), .int .u16 (sp : Nat), .int .u32 (ds : Nat), .int .u16 (dp : Nat)], .agg #[.int .u8 (tos : Nat), .int .u16 (id : Nat), .bool fl, .int .u8 (ttl : Nat), .int .u8 pr0, .int .u32 sr0, .int .u32 ds0, str op, .int .u16 sp0, .int .u16 dp0, .int .u32 (seq : Nat), .int .u32 (ack : Nat), .int .u8 (low : Nat), .int .u8 (fg : Nat), .int .u16 (win : Nat), .int .u16 (sum : Nat), .int .u16 (urg : Nat), str gop, .int .u8 (ty : Nat), str d], str beh] w (Ret1 (.bool true) w) := by
  have hB : tupB 6 sp dp = true := by simp [tupB, isWord]
  have KM := Lib.hid (fun W hW => tup_ok 6 sr sp ds dp (by omega) W hW)
  rw [hB] at KM
  have e0 : decide ((600 : Int) < (op.length : Int)) = false := decide_eq_false (by omega)
  have e1 : decide ((600 : Int) < (gop.length : Int)) = false := decide_eq_false (by omega)
  have e2 : decide ((600 : Int) < (d.length : Int)) = false := decide_eq_false (by omega)
  have e3 : decide ((100 : Int) < (beh.length : Int)) = false := decide_eq_false (by omega)
  have c0 : (ty : Int) % 4 = (m : Int) := by omega
  have c0' : (ty : Int).tmod 4 = (m : Int) := by rw [Int.tmod_eq_emod_of_nonneg (by omega)]; omega
  have t0 : ((t2 : Int) == 0) = false := beq_eq_false_iff_ne.2 (by omega)
  have KP := Lib.hid (fun W => lput_tcp1 tos id fl ttl pr0 sr0 ds0 op sp0 dp0 seq ack low fg win sum urg gop t2 d sr sp ds dp htos hid httl h0 hseq hack hfg hwin hsum hurg h1 (by omega) h2 hsr hsp hds hdp hok W)
  obtain ⟨ld, hld⟩ : ∃ ld, ld = (tcpS sp dp seq ack low fg win sum urg gop d) := ⟨_, rfl⟩
  rw [← hld] at KP
  have lS := @ipS_len tos id fl ttl 6 sr ds op ld
  obtain ⟨S, hS⟩ : ∃ S, S = ipS tos id fl ttl 6 sr ds op ld := ⟨_, rfl⟩
  rw [← hS] at KP lS
  obtain ⟨hg40, hg4, hgl⟩ : gop.length ≤ 40 ∧ gop.length % 4 = 0 ∧ low ≤ 15 := of_decide_eq_true hok
  have hl2' : ld = tcpPutL sp dp seq ack low fg win sum urg gop d := hld.trans (if_pos hok)
  have hlk : lookAt 6 sr ds ttl ld = .inl ⟨6, sr, sp, ds, dp, 2, fg, false, ttl⟩ := by rw [hl2', look_tcp hsp hdp hgl hfg hg40 hg4, hfb]; rfl
  have HOF := Lib.hid (fun (hb : ipOkB op ld = true) W hW => of_ok (S ++ beh) (by rw [List.length_append]; omega) W hW)
  have HSE := Lib.hid (show ipOkB op ld = true → seenOf (S ++ beh) = .inl ⟨6, sr, sp, ds, dp, 2, fg, false, ttl⟩ from fun hb => by rw [hS]; exact (of_put htos hid httl (by omega) hsr hds hb).trans hlk)
  obtain ⟨s1, hs1⟩ : ∃ s : List UInt8, s = S ++ beh := ⟨_, rfl⟩
  have ls1 : s1.length ≤ 4000 := by rw [hs1, List.length_append]; omega
  have as1 : ∀ W, (Op.stringOp .add ⟨(S).toArray⟩ ⟨(beh).toArray⟩).run Tryz.prog W = .ok (str s1) W := fun W => by rw [hs1]; exact run_string_add_lists (P := Tryz.prog) W (S) (beh) (by omega) (by omega)
  rw [← hs1] at HOF HSE
  have HOK := Lib.hid (show (ipOkB op ld = true) ∨ (ipOkB op ld = false) by cases ipOkB op ld <;> simp)
  obtain ⟨OK, hOK⟩ : ∃ b, b = ipOkB op ld := ⟨_, rfl⟩
  have HOKe := Lib.hid hOK
  rw [← hOK] at KP
  clear hOK hlk hld hS hs1 ls1 lS hl2'
  have X2 : decide ((0 : Int) < bits .and .u8 (fg : Int) 2) = false := hX2
  clear hX2
  have eN : ∀ W, (binOp .neq 29 (.agg #[.int .u8 6, .int .u32 (sr : Nat), .int .u16 (sp : Nat), .int .u32 (ds : Nat), .int .u16 (dp : Nat)]) (.agg #[.int .u8 6, .int .u32 (sr : Nat), .int .u16 (sp : Nat), .int .u32 (ds : Nat), .int .u16 (dp : Nat)])).run Tryz.prog W = .ok (.bool false) W := fun W => (tup_neq2 6 sr sp ds dp 6 sr sp ds dp W).trans (by simp)
  clear hB hm hl0 hl1 hl2 hl3 h0 h1 h2 h3 hT0
  go_enter Tryz.func8, Tryz.ntmps8
  have HN := Lib.hid (Fp.refl (fun _ => False) w)
  have HT := Lib.hid ht
  go_upto_region 1 with fail
  refine wp_gen (fun x1 hW => ?_)
  obtain ⟨hB, hB2, hp⟩ := new2_blk hW
  clear hW
  have hGe := hid_ge HN
  replace HN := hid_now HN hp
  obtain ⟨g4, hg4⟩ : ∃ g4, g4 = w.heap.size + 1 := ⟨_, rfl⟩
  obtain ⟨g3, hg3⟩ : ∃ g3, g3 = w.heap.size := ⟨_, rfl⟩
  have G_g3 := Lib.hid (show w.heap.size ≤ g3 by omega)
  have G_g4 := Lib.hid (show w.heap.size ≤ g4 by omega)
  have n_g3_g4 : ¬ g3 = g4 := by omega
  have n_g4_g3 : ¬ g4 = g3 := by omega
  rw [← hg4] at hB2 ⊢
  rw [← hg3] at hB ⊢
  have B_g3 := hB
  have B_g4 := hB2
  clear hB hB2 hg3 hg4 hGe hp
  have cg30 := cell_at B_g3 0 rfl
  have cg31 := cell_at B_g3 1 rfl
  have cg32 := cell_at B_g3 2 rfl
  have cg33 := cell_at B_g3 3 rfl
  have cg34 := cell_at B_g3 4 rfl
  have zg3 := froz_at B_g3
  have lg3 := hid_lt B_g3
  go_wp2_with fail
  clear cg30 cg31 cg32 cg33 cg34 zg3 lg3
  refine (show Calls _ _ _ _ _ from KM.out _ (HT.out.low HN.out).toP.base).mono ?_
  rintro e x2 ⟨rfl, hp⟩
  replace HN := hid_now HN hp
  replace B_g3 := hid_blk B_g3 hp
  replace B_g4 := hid_blk B_g4 hp
  clear hp
  have cg47 := cell_at B_g4 7 rfl
  have cg417 := cell_at B_g4 17 rfl
  have cg419 := cell_at B_g4 19 rfl
  have cg418 := cell_at B_g4 18 rfl
  have zg4 := froz_at B_g4
  have lg4 := hid_lt B_g4
  go_upto_region 4 with fail
  refine wp_gen (fun x3 hW => ?_)
  have hB := set_blk hW B_g4
  have hf := set_now hW
  clear hW
  simp only [List.setIfInBounds_toArray, List.set_cons_zero, List.set_cons_succ] at hB
  replace HN := hid_own HN hf (fun i hi e => by have h1 : i = g4 := e; have h2 := G_g4.out; omega)
  replace B_g3 := hid_blkS B_g3 hf n_g3_g4
  replace B_g4 := hB
  clear hB hf
  clear cg47 cg417 cg419 cg418 zg4 lg4
  have cg30 := cell_at B_g3 0 rfl
  have cg31 := cell_at B_g3 1 rfl
  have cg32 := cell_at B_g3 2 rfl
  have cg33 := cell_at B_g3 3 rfl
  have cg34 := cell_at B_g3 4 rfl
  have zg3 := froz_at B_g3
  have lg3 := hid_lt B_g3
  have cg418 := cell_at B_g4 18 rfl
  have zg4 := froz_at B_g4
  have lg4 := hid_lt B_g4
  go_upto_region 9 with fail
  clear cg30 cg31 cg32 cg33 cg34 zg3 lg3 cg418 zg4 lg4
  refine wp_region_list ?_
  refine wpList_load_row rfl _ _ rfl g3 (by kernel_rfl) _ _ _ _ B_g3.out Tryz.underlying29 rfl (by kernel_rfl) ?_
  try simp only [Act.put, List.setIfInBounds_toArray, List.set_cons_zero, List.set_cons_succ]
  refine wpList_load_row rfl _ _ rfl g4 (by kernel_rfl) _ _ _ _ B_g4.out Tryz.underlying53 rfl (by kernel_rfl) ?_
  try simp only [Act.put, List.setIfInBounds_toArray, List.set_cons_zero, List.set_cons_succ]
  go_wp2_with fail
  refine (show Calls _ _ _ _ _ from KP.out _).mono ?_
  rintro e x4 ⟨rfl, hp⟩
  replace HN := hid_now HN hp
  replace B_g3 := hid_blk B_g3 hp
  replace B_g4 := hid_blk B_g4 hp
  clear hp
  rcases HOK.out with hb | hb
  rotate_left
  · have hO := HOKe.out
    rw [hb] at hO
    subst hO
    clear HOF HSE HOK HOKe hb
    go_wp2_with fail
    refine (show Calls _ _ _ _ _ from watched_ok _ (HT.out.low HN.out)).mono ?_
    rintro e n1 ⟨rfl, hp⟩
    replace HN := hid_now HN hp
    replace B_g3 := hid_blk B_g3 hp
    replace B_g4 := hid_blk B_g4 hp
    clear hp
    go_wp2_with fail
    go_ret
    exact ⟨rfl, HN.out⟩
  · have hO := HOKe.out
    rw [hb] at hO
    subst hO
    have KO := Lib.hid (fun W hW => HOF.out hb W hW)
    have hse := HSE.out hb
    rw [hse] at KO
    unfold ofV seenV at KO
    clear HOF HSE HOK HOKe hb hse
    go_wp2_with fail
    refine (show Calls _ _ _ _ _ from KO.out _ (HT.out.low HN.out).toP.base).mono ?_
    rintro e k1 ⟨rfl, hp⟩
    replace HN := hid_now HN hp
    replace B_g3 := hid_blk B_g3 hp
    replace B_g4 := hid_blk B_g4 hp
    clear hp
    go_upto_region 13 with fail
    refine wp_gen (fun k2 hW => ?_)
    have l2g3 := hid_lt B_g3
    have l2g4 := hid_lt B_g4
    have hp := new_now hW
    have hB := new_blk hW
    clear hW
    have hGe := hid_ge HN
    replace HN := hid_now HN hp
    replace B_g3 := hid_blk B_g3 hp
    replace B_g4 := hid_blk B_g4 hp
    obtain ⟨g10, hg10⟩ : ∃ g10, g10 = k1.heap.size := ⟨_, rfl⟩
    have G_g10 := Lib.hid (Nat.le_trans hGe (Nat.le_of_eq hg10.symm))
    have n_g3_g10 : ¬ g3 = g10 := by omega
    have n_g10_g3 : ¬ g10 = g3 := by omega
    clear l2g3
    have n_g4_g10 : ¬ g4 = g10 := by omega
    have n_g10_g4 : ¬ g10 = g4 := by omega
    clear l2g4
    rw [← hg10] at hB ⊢
    have B_g10 := hB
    clear hB hGe hg10
    clear hp
    have cg30 := cell_at B_g3 0 rfl
    have cg31 := cell_at B_g3 1 rfl
    have cg32 := cell_at B_g3 2 rfl
    have cg33 := cell_at B_g3 3 rfl
    have cg34 := cell_at B_g3 4 rfl
    have zg3 := froz_at B_g3
    have lg3 := hid_lt B_g3
    have cg43 := cell_at B_g4 3 rfl
    have cg413 := cell_at B_g4 13 rfl
    have zg4 := froz_at B_g4
    have lg4 := hid_lt B_g4
    have cg100 := cell_at B_g10 0 rfl
    have cg101 := cell_at B_g10 1 rfl
    have cg102 := cell_at B_g10 2 rfl
    have cg103 := cell_at B_g10 3 rfl
    have cg104 := cell_at B_g10 4 rfl
    have cg105 := cell_at B_g10 5 rfl
    have cg106 := cell_at B_g10 6 rfl
    have cg107 := cell_at B_g10 7 rfl
    have cg108 := cell_at B_g10 8 rfl
    have zg10 := froz_at B_g10
    have lg10 := hid_lt B_g10
    go_wp2_with fail
    clear cg30 cg31 cg32 cg33 cg34 zg3 lg3 cg43 cg413 zg4 lg4 cg100 cg101 cg102 cg103 cg104 cg105 cg106 cg107 cg108 zg10 lg10
    have KM2 := Lib.hid (fun W hW => tup_ok 6 sr sp ds dp (by omega) W hW)
    rw [show tupB 6 sp dp = true by simp [tupB, isWord]] at KM2
    refine (show Calls _ _ _ _ _ from KM2.out _ (HT.out.low HN.out).toP.base).mono ?_
    rintro e k3 ⟨rfl, hp⟩
    replace HN := hid_now HN hp
    replace B_g3 := hid_blk B_g3 hp
    replace B_g4 := hid_blk B_g4 hp
    replace B_g10 := hid_blk B_g10 hp
    clear hp
    go_wp2_with fail
    refine (show Calls _ _ _ _ _ from watched_ok _ (HT.out.low HN.out)).mono ?_
    rintro e k4 ⟨rfl, hp⟩
    replace HN := hid_now HN hp
    replace B_g3 := hid_blk B_g3 hp
    replace B_g4 := hid_blk B_g4 hp
    replace B_g10 := hid_blk B_g10 hp
    clear hp
    go_wp2_with fail
    go_ret
    exact ⟨rfl, HN.out⟩
set_option maxHeartbeats 8000000 in
set_option maxRecDepth 100000 in
theorem ts_tcp010 (tos id : Nat) (fl : Bool) (ttl : Nat) (pr0 sr0 ds0 : Int) (op : List UInt8) (sp0 dp0 : Int) (seq ack low fg win sum urg : Nat) (gop : List UInt8) (ty : Nat) (d : List UInt8) (sr sp ds dp : Nat) (beh : List UInt8) (htos : tos < 256) (hid : id < 65536) (httl : ttl < 256) (hseq : seq < 4294967296) (hack : ack < 4294967296) (hfg : fg < 256) (hwin : win < 65536) (hsum : sum < 65536) (hurg : urg < 65536) (hty : ty < 256) (hsr : sr < 4294967296) (hsp : sp < 65536) (hds : ds < 4294967296) (hdp : dp < 65536) (hl0 : op.length ≤ 9223372036854775807) (hl1 : gop.length ≤ 9223372036854775807) (hl2 : d.length ≤ 9223372036854775807) (hl3 : beh.length ≤ 9223372036854775807) (h0 : op.length ≤ 600) (h1 : gop.length ≤ 600) (h2 : d.length ≤ 600) (h3 : beh.length ≤ 100) (m t2 : Nat) (hm : m = ty % 4) (ht2 : t2 = 0 ∨ t2 = 8 ∨ t2 = 13 ∨ t2 = 14) (KX : ∀ W, (Instr.index 54 (.agg #[.int .u8 0, .int .u8 8, .int .u8 13, .int .u8 14]) (.int .u8 (m : Nat))).run Tryz.prog W = .ok (.int .u8 (t2 : Nat)) W) (hT0 : ¬ t2 = 0) (hok : tcpOkP low gop = true) (hfb : firstB fg = false) (hX2 : decide ((0 : Int) < bits .and .u8 (fg : Int) 2) = true) (hX21 : (bits .and .u8 (fg : Int) 21 == 0) = false) (w : World) (ht : TbQ w) : Calls Tryz.prog 8 #[.agg #[.int .u8 6, .int .u32 (sr : Nat), .int .u16 (sp : Nat), .int .u32 (ds : Nat), .int .u16 (dp : Nat)], .agg #[.int .u8 (tos : Nat), .int .u16 (id : Nat), .bool fl, .int .u8 (ttl : Nat), .int .u8 pr0, .int .u32 sr0, .int .u32 ds0, str op, .int .u16 sp0, .int .u16 dp0, .int .u32 (seq : Nat), .int .u32 (ack : Nat), .int .u8 (low : Nat), .int .u8 (fg : Nat), .int .u16 (win : Nat), .int .u16 (sum : Nat), .int .u16 (urg : Nat), str gop, .int .u8 (ty : Nat), str d], str beh] w (Ret1 (.bool true) w) := by
  have hB : tupB 6 sp dp = true := by simp [tupB, isWord]
  have KM := Lib.hid (fun W hW => tup_ok 6 sr sp ds dp (by omega) W hW)
  rw [hB] at KM
  have e0 : decide ((600 : Int) < (op.length : Int)) = false := decide_eq_false (by omega)
  have e1 : decide ((600 : Int) < (gop.length : Int)) = false := decide_eq_false (by omega)
  have e2 : decide ((600 : Int) < (d.length : Int)) = false := decide_eq_false (by omega)
  have e3 : decide ((100 : Int) < (beh.length : Int)) = false := decide_eq_false (by omega)
  have c0 : (ty : Int) % 4 = (m : Int) := by omega
  have c0' : (ty : Int).tmod 4 = (m : Int) := by rw [Int.tmod_eq_emod_of_nonneg (by omega)]; omega
  have t0 : ((t2 : Int) == 0) = false := beq_eq_false_iff_ne.2 (by omega)
  have KP := Lib.hid (fun W => lput_tcp1 tos id fl ttl pr0 sr0 ds0 op sp0 dp0 seq ack low fg win sum urg gop t2 d sr sp ds dp htos hid httl h0 hseq hack hfg hwin hsum hurg h1 (by omega) h2 hsr hsp hds hdp hok W)
  obtain ⟨ld, hld⟩ : ∃ ld, ld = (tcpS sp dp seq ack low fg win sum urg gop d) := ⟨_, rfl⟩
  rw [← hld] at KP
  have lS := @ipS_len tos id fl ttl 6 sr ds op ld
  obtain ⟨S, hS⟩ : ∃ S, S = ipS tos id fl ttl 6 sr ds op ld := ⟨_, rfl⟩
  rw [← hS] at KP lS
  obtain ⟨hg40, hg4, hgl⟩ : gop.length ≤ 40 ∧ gop.length % 4 = 0 ∧ low ≤ 15 := of_decide_eq_true hok
  have hl2' : ld = tcpPutL sp dp seq ack low fg win sum urg gop d := hld.trans (if_pos hok)
  have hlk : lookAt 6 sr ds ttl ld = .inl ⟨6, sr, sp, ds, dp, 2, fg, false, ttl⟩ := by rw [hl2', look_tcp hsp hdp hgl hfg hg40 hg4, hfb]; rfl
  have HOF := Lib.hid (fun (hb : ipOkB op ld = true) W hW => of_ok (S ++ beh) (by rw [List.length_append]; omega) W hW)
  have HSE := Lib.hid (show ipOkB op ld = true → seenOf (S ++ beh) = .inl ⟨6, sr, sp, ds, dp, 2, fg, false, ttl⟩ from fun hb => by rw [hS]; exact (of_put htos hid httl (by omega) hsr hds hb).trans hlk)
  obtain ⟨s1, hs1⟩ : ∃ s : List UInt8, s = S ++ beh := ⟨_, rfl⟩
  have ls1 : s1.length ≤ 4000 := by rw [hs1, List.length_append]; omega
  have as1 : ∀ W, (Op.stringOp .add ⟨(S).toArray⟩ ⟨(beh).toArray⟩).run Tryz.prog W = .ok (str s1) W := fun W => by rw [hs1]; exact run_string_add_lists (P := Tryz.prog) W (S) (beh) (by omega) (by omega)
  rw [← hs1] at HOF HSE
  have HOK := Lib.hid (show (ipOkB op ld = true) ∨ (ipOkB op ld = false) by cases ipOkB op ld <;> simp)
  obtain ⟨OK, hOK⟩ : ∃ b, b = ipOkB op ld := ⟨_, rfl⟩
  have HOKe := Lib.hid hOK
  rw [← hOK] at KP
  clear hOK hlk hld hS hs1 ls1 lS hl2'
  have X2 : decide ((0 : Int) < bits .and .u8 (fg : Int) 2) = true := hX2
  have X21 : (bits .and .u8 (fg : Int) 21 == 0) = false := hX21
  clear hX2 hX21
  have eN : ∀ W, (binOp .neq 29 (.agg #[.int .u8 6, .int .u32 (sr : Nat), .int .u16 (sp : Nat), .int .u32 (ds : Nat), .int .u16 (dp : Nat)]) (.agg #[.int .u8 6, .int .u32 (sr : Nat), .int .u16 (sp : Nat), .int .u32 (ds : Nat), .int .u16 (dp : Nat)])).run Tryz.prog W = .ok (.bool false) W := fun W => (tup_neq2 6 sr sp ds dp 6 sr sp ds dp W).trans (by simp)
  clear hB hm hl0 hl1 hl2 hl3 h0 h1 h2 h3 hT0
  go_enter Tryz.func8, Tryz.ntmps8
  have HN := Lib.hid (Fp.refl (fun _ => False) w)
  have HT := Lib.hid ht
  go_upto_region 1 with fail
  refine wp_gen (fun x1 hW => ?_)
  obtain ⟨hB, hB2, hp⟩ := new2_blk hW
  clear hW
  have hGe := hid_ge HN
  replace HN := hid_now HN hp
  obtain ⟨g4, hg4⟩ : ∃ g4, g4 = w.heap.size + 1 := ⟨_, rfl⟩
  obtain ⟨g3, hg3⟩ : ∃ g3, g3 = w.heap.size := ⟨_, rfl⟩
  have G_g3 := Lib.hid (show w.heap.size ≤ g3 by omega)
  have G_g4 := Lib.hid (show w.heap.size ≤ g4 by omega)
  have n_g3_g4 : ¬ g3 = g4 := by omega
  have n_g4_g3 : ¬ g4 = g3 := by omega
  rw [← hg4] at hB2 ⊢
  rw [← hg3] at hB ⊢
  have B_g3 := hB
  have B_g4 := hB2
  clear hB hB2 hg3 hg4 hGe hp
  have cg30 := cell_at B_g3 0 rfl
  have cg31 := cell_at B_g3 1 rfl
  have cg32 := cell_at B_g3 2 rfl
  have cg33 := cell_at B_g3 3 rfl
  have cg34 := cell_at B_g3 4 rfl
  have zg3 := froz_at B_g3
  have lg3 := hid_lt B_g3
  go_wp2_with fail
  clear cg30 cg31 cg32 cg33 cg34 zg3 lg3
  refine (show Calls _ _ _ _ _ from KM.out _ (HT.out.low HN.out).toP.base).mono ?_
  rintro e x2 ⟨rfl, hp⟩
  replace HN := hid_now HN hp
  replace B_g3 := hid_blk B_g3 hp
  replace B_g4 := hid_blk B_g4 hp
  clear hp
  have cg47 := cell_at B_g4 7 rfl
  have cg417 := cell_at B_g4 17 rfl
  have cg419 := cell_at B_g4 19 rfl
  have cg418 := cell_at B_g4 18 rfl
  have zg4 := froz_at B_g4
  have lg4 := hid_lt B_g4
  go_upto_region 4 with fail
  refine wp_gen (fun x3 hW => ?_)
  have hB := set_blk hW B_g4
  have hf := set_now hW
  clear hW
  simp only [List.setIfInBounds_toArray, List.set_cons_zero, List.set_cons_succ] at hB
  replace HN := hid_own HN hf (fun i hi e => by have h1 : i = g4 := e; have h2 := G_g4.out; omega)
  replace B_g3 := hid_blkS B_g3 hf n_g3_g4
  replace B_g4 := hB
  clear hB hf
  clear cg47 cg417 cg419 cg418 zg4 lg4
  have cg30 := cell_at B_g3 0 rfl
  have cg31 := cell_at B_g3 1 rfl
  have cg32 := cell_at B_g3 2 rfl
  have cg33 := cell_at B_g3 3 rfl
  have cg34 := cell_at B_g3 4 rfl
  have zg3 := froz_at B_g3
  have lg3 := hid_lt B_g3
  have cg418 := cell_at B_g4 18 rfl
  have zg4 := froz_at B_g4
  have lg4 := hid_lt B_g4
  go_upto_region 9 with fail
  clear cg30 cg31 cg32 cg33 cg34 zg3 lg3 cg418 zg4 lg4
  refine wp_region_list ?_
  refine wpList_load_row rfl _ _ rfl g3 (by kernel_rfl) _ _ _ _ B_g3.out Tryz.underlying29 rfl (by kernel_rfl) ?_
  try simp only [Act.put, List.setIfInBounds_toArray, List.set_cons_zero, List.set_cons_succ]
  refine wpList_load_row rfl _ _ rfl g4 (by kernel_rfl) _ _ _ _ B_g4.out Tryz.underlying53 rfl (by kernel_rfl) ?_
  try simp only [Act.put, List.setIfInBounds_toArray, List.set_cons_zero, List.set_cons_succ]
  go_wp2_with fail
  refine (show Calls _ _ _ _ _ from KP.out _).mono ?_
  rintro e x4 ⟨rfl, hp⟩
  replace HN := hid_now HN hp
  replace B_g3 := hid_blk B_g3 hp
  replace B_g4 := hid_blk B_g4 hp
  clear hp
  rcases HOK.out with hb | hb
  rotate_left
  · have hO := HOKe.out
    rw [hb] at hO
    subst hO
    clear HOF HSE HOK HOKe hb
    go_wp2_with fail
    refine (show Calls _ _ _ _ _ from watched_ok _ (HT.out.low HN.out)).mono ?_
    rintro e n1 ⟨rfl, hp⟩
    replace HN := hid_now HN hp
    replace B_g3 := hid_blk B_g3 hp
    replace B_g4 := hid_blk B_g4 hp
    clear hp
    go_wp2_with fail
    go_ret
    exact ⟨rfl, HN.out⟩
  · have hO := HOKe.out
    rw [hb] at hO
    subst hO
    have KO := Lib.hid (fun W hW => HOF.out hb W hW)
    have hse := HSE.out hb
    rw [hse] at KO
    unfold ofV seenV at KO
    clear HOF HSE HOK HOKe hb hse
    go_wp2_with fail
    refine (show Calls _ _ _ _ _ from KO.out _ (HT.out.low HN.out).toP.base).mono ?_
    rintro e k1 ⟨rfl, hp⟩
    replace HN := hid_now HN hp
    replace B_g3 := hid_blk B_g3 hp
    replace B_g4 := hid_blk B_g4 hp
    clear hp
    go_upto_region 13 with fail
    refine wp_gen (fun k2 hW => ?_)
    have l2g3 := hid_lt B_g3
    have l2g4 := hid_lt B_g4
    have hp := new_now hW
    have hB := new_blk hW
    clear hW
    have hGe := hid_ge HN
    replace HN := hid_now HN hp
    replace B_g3 := hid_blk B_g3 hp
    replace B_g4 := hid_blk B_g4 hp
    obtain ⟨g10, hg10⟩ : ∃ g10, g10 = k1.heap.size := ⟨_, rfl⟩
    have G_g10 := Lib.hid (Nat.le_trans hGe (Nat.le_of_eq hg10.symm))
    have n_g3_g10 : ¬ g3 = g10 := by omega
    have n_g10_g3 : ¬ g10 = g3 := by omega
    clear l2g3
    have n_g4_g10 : ¬ g4 = g10 := by omega
    have n_g10_g4 : ¬ g10 = g4 := by omega
    clear l2g4
    rw [← hg10] at hB ⊢
    have B_g10 := hB
    clear hB hGe hg10
    clear hp
    have cg30 := cell_at B_g3 0 rfl
    have cg31 := cell_at B_g3 1 rfl
    have cg32 := cell_at B_g3 2 rfl
    have cg33 := cell_at B_g3 3 rfl
    have cg34 := cell_at B_g3 4 rfl
    have zg3 := froz_at B_g3
    have lg3 := hid_lt B_g3
    have cg43 := cell_at B_g4 3 rfl
    have cg413 := cell_at B_g4 13 rfl
    have zg4 := froz_at B_g4
    have lg4 := hid_lt B_g4
    have cg100 := cell_at B_g10 0 rfl
    have cg101 := cell_at B_g10 1 rfl
    have cg102 := cell_at B_g10 2 rfl
    have cg103 := cell_at B_g10 3 rfl
    have cg104 := cell_at B_g10 4 rfl
    have cg105 := cell_at B_g10 5 rfl
    have cg106 := cell_at B_g10 6 rfl
    have cg107 := cell_at B_g10 7 rfl
    have cg108 := cell_at B_g10 8 rfl
    have zg10 := froz_at B_g10
    have lg10 := hid_lt B_g10
    go_wp2_with fail
    clear cg30 cg31 cg32 cg33 cg34 zg3 lg3 cg43 cg413 zg4 lg4 cg100 cg101 cg102 cg103 cg104 cg105 cg106 cg107 cg108 zg10 lg10
    have KM2 := Lib.hid (fun W hW => tup_ok 6 sr sp ds dp (by omega) W hW)
    rw [show tupB 6 sp dp = true by simp [tupB, isWord]] at KM2
    refine (show Calls _ _ _ _ _ from KM2.out _ (HT.out.low HN.out).toP.base).mono ?_
    rintro e k3 ⟨rfl, hp⟩
    replace HN := hid_now HN hp
    replace B_g3 := hid_blk B_g3 hp
    replace B_g4 := hid_blk B_g4 hp
    replace B_g10 := hid_blk B_g10 hp
    clear hp
    go_wp2_with fail
    refine (show Calls _ _ _ _ _ from watched_ok _ (HT.out.low HN.out)).mono ?_
    rintro e k4 ⟨rfl, hp⟩
    replace HN := hid_now HN hp
    replace B_g3 := hid_blk B_g3 hp
    replace B_g4 := hid_blk B_g4 hp
    replace B_g10 := hid_blk B_g10 hp
    clear hp
    go_wp2_with fail
    go_ret
    exact ⟨rfl, HN.out⟩
set_option maxHeartbeats 8000000 in
set_option maxRecDepth 100000 in
theorem ts_tcp011 (tos id : Nat) (fl : Bool) (ttl : Nat) (pr0 sr0 ds0 : Int) (op : List UInt8) (sp0 dp0 : Int) (seq ack low fg win sum urg : Nat) (gop : List UInt8) (ty : Nat) (d : List UInt8) (sr sp ds dp : Nat) (beh : List UInt8) (htos : tos < 256) (hid : id < 65536) (httl : ttl < 256) (hseq : seq < 4294967296) (hack : ack < 4294967296) (hfg : fg < 256) (hwin : win < 65536) (hsum : sum < 65536) (hurg : urg < 65536) (hty : ty < 256) (hsr : sr < 4294967296) (hsp : sp < 65536) (hds : ds < 4294967296) (hdp : dp < 65536) (hl0 : op.length ≤ 9223372036854775807) (hl1 : gop.length ≤ 9223372036854775807) (hl2 : d.length ≤ 9223372036854775807) (hl3 : beh.length ≤ 9223372036854775807) (h0 : op.length ≤ 600) (h1 : gop.length ≤ 600) (h2 : d.length ≤ 600) (h3 : beh.length ≤ 100) (m t2 : Nat) (hm : m = ty % 4) (ht2 : t2 = 0 ∨ t2 = 8 ∨ t2 = 13 ∨ t2 = 14) (KX : ∀ W, (Instr.index 54 (.agg #[.int .u8 0, .int .u8 8, .int .u8 13, .int .u8 14]) (.int .u8 (m : Nat))).run Tryz.prog W = .ok (.int .u8 (t2 : Nat)) W) (hT0 : ¬ t2 = 0) (hok : tcpOkP low gop = true) (hfb : firstB fg = true) (hX2 : decide ((0 : Int) < bits .and .u8 (fg : Int) 2) = true) (hX21 : (bits .and .u8 (fg : Int) 21 == 0) = true) (w : World) (ht : TbQ w) : Calls Tryz.prog 8 #[.agg #[.int .u8 6, .int .u32 (sr : Nat), .int .u16 (sp : Nat), .int .u32 (ds : Nat), .int .u16 (dp : Nat)], .agg #[.int .u8 (tos : Nat), .int .u16 (id : Nat), .bool fl, .int .u8 (ttl : Nat), .int .u8 pr0, .int .u32 sr0, .int .u32 ds0, str op, .int .u16 sp0, .int .u16 dp0, .int .u32 (seq : Nat), .int .u32 (ack : Nat), .int .u8 (low : Nat), .int .u8 (fg : Nat), .int .u16 (win : Nat), .int .u16 (sum : Nat), .int .u16 (urg : Nat), str gop, .int .u8 (ty : Nat), str d], str beh] w (Ret1 (.bool true) w) := by
  have hB : tupB 6 sp dp = true := by simp [tupB, isWord]
  have KM := Lib.hid (fun W hW => tup_ok 6 sr sp ds dp (by omega) W hW)
  rw [hB] at KM
  have e0 : decide ((600 : Int) < (op.length : Int)) = false := decide_eq_false (by omega)
  have e1 : decide ((600 : Int) < (gop.length : Int)) = false := decide_eq_false (by omega)
  have e2 : decide ((600 : Int) < (d.length : Int)) = false := decide_eq_false (by omega)
  have e3 : decide ((100 : Int) < (beh.length : Int)) = false := decide_eq_false (by omega)
  have c0 : (ty : Int) % 4 = (m : Int) := by omega
  have c0' : (ty : Int).tmod 4 = (m : Int) := by rw [Int.tmod_eq_emod_of_nonneg (by omega)]; omega
  have t0 : ((t2 : Int) == 0) = false := beq_eq_false_iff_ne.2 (by omega)
  have KP := Lib.hid (fun W => lput_tcp1 tos id fl ttl pr0 sr0 ds0 op sp0 dp0 seq ack low fg win sum urg gop t2 d sr sp ds dp htos hid httl h0 hseq hack hfg hwin hsum hurg h1 (by omega) h2 hsr hsp hds hdp hok W)
  obtain ⟨ld, hld⟩ : ∃ ld, ld = (tcpS sp dp seq ack low fg win sum urg gop d) := ⟨_, rfl⟩
  rw [← hld] at KP
  have lS := @ipS_len tos id fl ttl 6 sr ds op ld
  obtain ⟨S, hS⟩ : ∃ S, S = ipS tos id fl ttl 6 sr ds op ld := ⟨_, rfl⟩
  rw [← hS] at KP lS
  obtain ⟨hg40, hg4, hgl⟩ : gop.length ≤ 40 ∧ gop.length % 4 = 0 ∧ low ≤ 15 := of_decide_eq_true hok
  have hl2' : ld = tcpPutL sp dp seq ack low fg win sum urg gop d := hld.trans (if_pos hok)
  have hlk : lookAt 6 sr ds ttl ld = .inl ⟨6, sr, sp, ds, dp, 1, fg, false, ttl⟩ := by rw [hl2', look_tcp hsp hdp hgl hfg hg40 hg4, hfb]; rfl
  have HOF := Lib.hid (fun (hb : ipOkB op ld = true) W hW => of_ok (S ++ beh) (by rw [List.length_append]; omega) W hW)
  have HSE := Lib.hid (show ipOkB op ld = true → seenOf (S ++ beh) = .inl ⟨6, sr, sp, ds, dp, 1, fg, false, ttl⟩ from fun hb => by rw [hS]; exact (of_put htos hid httl (by omega) hsr hds hb).trans hlk)
  obtain ⟨s1, hs1⟩ : ∃ s : List UInt8, s = S ++ beh := ⟨_, rfl⟩
  have ls1 : s1.length ≤ 4000 := by rw [hs1, List.length_append]; omega
  have as1 : ∀ W, (Op.stringOp .add ⟨(S).toArray⟩ ⟨(beh).toArray⟩).run Tryz.prog W = .ok (str s1) W := fun W => by rw [hs1]; exact run_string_add_lists (P := Tryz.prog) W (S) (beh) (by omega) (by omega)
  rw [← hs1] at HOF HSE
  have HOK := Lib.hid (show (ipOkB op ld = true) ∨ (ipOkB op ld = false) by cases ipOkB op ld <;> simp)
  obtain ⟨OK, hOK⟩ : ∃ b, b = ipOkB op ld := ⟨_, rfl⟩
  have HOKe := Lib.hid hOK
  rw [← hOK] at KP
  clear hOK hlk hld hS hs1 ls1 lS hl2'
  have X2 : decide ((0 : Int) < bits .and .u8 (fg : Int) 2) = true := hX2
  have X21 : (bits .and .u8 (fg : Int) 21 == 0) = true := hX21
  clear hX2 hX21
  have eN : ∀ W, (binOp .neq 29 (.agg #[.int .u8 6, .int .u32 (sr : Nat), .int .u16 (sp : Nat), .int .u32 (ds : Nat), .int .u16 (dp : Nat)]) (.agg #[.int .u8 6, .int .u32 (sr : Nat), .int .u16 (sp : Nat), .int .u32 (ds : Nat), .int .u16 (dp : Nat)])).run Tryz.prog W = .ok (.bool false) W := fun W => (tup_neq2 6 sr sp ds dp 6 sr sp ds dp W).trans (by simp)
  clear hB hm hl0 hl1 hl2 hl3 h0 h1 h2 h3 hT0
  go_enter Tryz.func8, Tryz.ntmps8
  have HN := Lib.hid (Fp.refl (fun _ => False) w)
  have HT := Lib.hid ht
  go_upto_region 1 with fail
  refine wp_gen (fun x1 hW => ?_)
  obtain ⟨hB, hB2, hp⟩ := new2_blk hW
  clear hW
  have hGe := hid_ge HN
  replace HN := hid_now HN hp
  obtain ⟨g4, hg4⟩ : ∃ g4, g4 = w.heap.size + 1 := ⟨_, rfl⟩
  obtain ⟨g3, hg3⟩ : ∃ g3, g3 = w.heap.size := ⟨_, rfl⟩
  have G_g3 := Lib.hid (show w.heap.size ≤ g3 by omega)
  have G_g4 := Lib.hid (show w.heap.size ≤ g4 by omega)
  have n_g3_g4 : ¬ g3 = g4 := by omega
  have n_g4_g3 : ¬ g4 = g3 := by omega
  rw [← hg4] at hB2 ⊢
  rw [← hg3] at hB ⊢
  have B_g3 := hB
  have B_g4 := hB2
  clear hB hB2 hg3 hg4 hGe hp
  have cg30 := cell_at B_g3 0 rfl
  have cg31 := cell_at B_g3 1 rfl
  have cg32 := cell_at B_g3 2 rfl
  have cg33 := cell_at B_g3 3 rfl
  have cg34 := cell_at B_g3 4 rfl
  have zg3 := froz_at B_g3
  have lg3 := hid_lt B_g3
  go_wp2_with fail
  clear cg30 cg31 cg32 cg33 cg34 zg3 lg3
  refine (show Calls _ _ _ _ _ from KM.out _ (HT.out.low HN.out).toP.base).mono ?_
  rintro e x2 ⟨rfl, hp⟩
  replace HN := hid_now HN hp
  replace B_g3 := hid_blk B_g3 hp
  replace B_g4 := hid_blk B_g4 hp
  clear hp
  have cg47 := cell_at B_g4 7 rfl
  have cg417 := cell_at B_g4 17 rfl
  have cg419 := cell_at B_g4 19 rfl
  have cg418 := cell_at B_g4 18 rfl
  have zg4 := froz_at B_g4
  have lg4 := hid_lt B_g4
  go_upto_region 4 with fail
  refine wp_gen (fun x3 hW => ?_)
  have hB := set_blk hW B_g4
  have hf := set_now hW
  clear hW
  simp only [List.setIfInBounds_toArray, List.set_cons_zero, List.set_cons_succ] at hB
  replace HN := hid_own HN hf (fun i hi e => by have h1 : i = g4 := e; have h2 := G_g4.out; omega)
  replace B_g3 := hid_blkS B_g3 hf n_g3_g4
  replace B_g4 := hB
  clear hB hf
  clear cg47 cg417 cg419 cg418 zg4 lg4
  have cg30 := cell_at B_g3 0 rfl
  have cg31 := cell_at B_g3 1 rfl
  have cg32 := cell_at B_g3 2 rfl
  have cg33 := cell_at B_g3 3 rfl
  have cg34 := cell_at B_g3 4 rfl
  have zg3 := froz_at B_g3
  have lg3 := hid_lt B_g3
  have cg418 := cell_at B_g4 18 rfl
  have zg4 := froz_at B_g4
  have lg4 := hid_lt B_g4
  go_upto_region 9 with fail
  clear cg30 cg31 cg32 cg33 cg34 zg3 lg3 cg418 zg4 lg4
  refine wp_region_list ?_
  refine wpList_load_row rfl _ _ rfl g3 (by kernel_rfl) _ _ _ _ B_g3.out Tryz.underlying29 rfl (by kernel_rfl) ?_
  try simp only [Act.put, List.setIfInBounds_toArray, List.set_cons_zero, List.set_cons_succ]
  refine wpList_load_row rfl _ _ rfl g4 (by kernel_rfl) _ _ _ _ B_g4.out Tryz.underlying53 rfl (by kernel_rfl) ?_
  try simp only [Act.put, List.setIfInBounds_toArray, List.set_cons_zero, List.set_cons_succ]
  go_wp2_with fail
  refine (show Calls _ _ _ _ _ from KP.out _).mono ?_
  rintro e x4 ⟨rfl, hp⟩
  replace HN := hid_now HN hp
  replace B_g3 := hid_blk B_g3 hp
  replace B_g4 := hid_blk B_g4 hp
  clear hp
  rcases HOK.out with hb | hb
  rotate_left
  · have hO := HOKe.out
    rw [hb] at hO
    subst hO
    clear HOF HSE HOK HOKe hb
    go_wp2_with fail
    refine (show Calls _ _ _ _ _ from watched_ok _ (HT.out.low HN.out)).mono ?_
    rintro e n1 ⟨rfl, hp⟩
    replace HN := hid_now HN hp
    replace B_g3 := hid_blk B_g3 hp
    replace B_g4 := hid_blk B_g4 hp
    clear hp
    go_wp2_with fail
    go_ret
    exact ⟨rfl, HN.out⟩
  · have hO := HOKe.out
    rw [hb] at hO
    subst hO
    have KO := Lib.hid (fun W hW => HOF.out hb W hW)
    have hse := HSE.out hb
    rw [hse] at KO
    unfold ofV seenV at KO
    clear HOF HSE HOK HOKe hb hse
    go_wp2_with fail
    refine (show Calls _ _ _ _ _ from KO.out _ (HT.out.low HN.out).toP.base).mono ?_
    rintro e k1 ⟨rfl, hp⟩
    replace HN := hid_now HN hp
    replace B_g3 := hid_blk B_g3 hp
    replace B_g4 := hid_blk B_g4 hp
    clear hp
    go_upto_region 13 with fail
    refine wp_gen (fun k2 hW => ?_)
    have l2g3 := hid_lt B_g3
    have l2g4 := hid_lt B_g4
    have hp := new_now hW
    have hB := new_blk hW
    clear hW
    have hGe := hid_ge HN
    replace HN := hid_now HN hp
    replace B_g3 := hid_blk B_g3 hp
    replace B_g4 := hid_blk B_g4 hp
    obtain ⟨g10, hg10⟩ : ∃ g10, g10 = k1.heap.size := ⟨_, rfl⟩
    have G_g10 := Lib.hid (Nat.le_trans hGe (Nat.le_of_eq hg10.symm))
    have n_g3_g10 : ¬ g3 = g10 := by omega
    have n_g10_g3 : ¬ g10 = g3 := by omega
    clear l2g3
    have n_g4_g10 : ¬ g4 = g10 := by omega
    have n_g10_g4 : ¬ g10 = g4 := by omega
    clear l2g4
    rw [← hg10] at hB ⊢
    have B_g10 := hB
    clear hB hGe hg10
    clear hp
    have cg30 := cell_at B_g3 0 rfl
    have cg31 := cell_at B_g3 1 rfl
    have cg32 := cell_at B_g3 2 rfl
    have cg33 := cell_at B_g3 3 rfl
    have cg34 := cell_at B_g3 4 rfl
    have zg3 := froz_at B_g3
    have lg3 := hid_lt B_g3
    have cg43 := cell_at B_g4 3 rfl
    have cg413 := cell_at B_g4 13 rfl
    have zg4 := froz_at B_g4
    have lg4 := hid_lt B_g4
    have cg100 := cell_at B_g10 0 rfl
    have cg101 := cell_at B_g10 1 rfl
    have cg102 := cell_at B_g10 2 rfl
    have cg103 := cell_at B_g10 3 rfl
    have cg104 := cell_at B_g10 4 rfl
    have cg105 := cell_at B_g10 5 rfl
    have cg106 := cell_at B_g10 6 rfl
    have cg107 := cell_at B_g10 7 rfl
    have cg108 := cell_at B_g10 8 rfl
    have zg10 := froz_at B_g10
    have lg10 := hid_lt B_g10
    go_wp2_with fail
    clear cg30 cg31 cg32 cg33 cg34 zg3 lg3 cg43 cg413 zg4 lg4 cg100 cg101 cg102 cg103 cg104 cg105 cg106 cg107 cg108 zg10 lg10
    have KM2 := Lib.hid (fun W hW => tup_ok 6 sr sp ds dp (by omega) W hW)
    rw [show tupB 6 sp dp = true by simp [tupB, isWord]] at KM2
    refine (show Calls _ _ _ _ _ from KM2.out _ (HT.out.low HN.out).toP.base).mono ?_
    rintro e k3 ⟨rfl, hp⟩
    replace HN := hid_now HN hp
    replace B_g3 := hid_blk B_g3 hp
    replace B_g4 := hid_blk B_g4 hp
    replace B_g10 := hid_blk B_g10 hp
    clear hp
    go_wp2_with fail
    refine (show Calls _ _ _ _ _ from watched_ok _ (HT.out.low HN.out)).mono ?_
    rintro e k4 ⟨rfl, hp⟩
    replace HN := hid_now HN hp
    replace B_g3 := hid_blk B_g3 hp
    replace B_g4 := hid_blk B_g4 hp
    replace B_g10 := hid_blk B_g10 hp
    clear hp
    go_wp2_with fail
    go_ret
    exact ⟨rfl, HN.out⟩
end Go.Proofs.YtmghjaoodnkjlaaGreatDoor
