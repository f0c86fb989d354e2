/- Chapter 08: the program's Put of packets: ip, udp, icmp (written by gen8c.py). -/
import Derived.Test.YtmghjaoodnkjlaaGreatDoorTB
import Derived.Test.YtmghjaoodnkjlaaGreatDoorTe
namespace Go.Proofs.YtmghjaoodnkjlaaGreatDoor
set_option linter.unusedVariables false
set_option linter.unusedSimpArgs false
open Go.RowKit Go.Lib Go.Sort
set_option maxHeartbeats 4000000 in
set_option maxRecDepth 100000 in
theorem ip_put_opts (tos id ttl pr sr ds : Nat) (fl : Bool) (op d : List UInt8) (hop : op.length ≤ 1000000) (hd : d.length ≤ 1000000) (h : 40 < op.length) (w : World) : Calls Tryz.prog 49 #[.agg #[.int .u8 (tos : Nat), .int .u16 (id : Nat), .bool fl, .int .u8 (ttl : Nat), .int .u8 (pr : Nat), .int .u32 (sr : Nat), .int .u32 (ds : Nat), str op], str d] w (Ret1 (.tuple #[.string ⟨#[]⟩, .int .i64 2]) w) := by
  have c0 : IntKind.i64.wrap (2028 - (op.length : Int)) = 2028 - (op.length : Int) := IntWalk.i64_in _ (by omega)
  have d0 : decide ((40 : Int) < (op.length : Int)) = true := decide_eq_true (by omega)
  go_enter Tryz.func49, Tryz.ntmps49
  have HN := Lib.hid (Fp.refl (fun _ => False) w)
  go_upto_region 1 with fail
  refine wp_gen (fun x1 hW => ?_)
  have hp := new_now hW
  have hB := new_blk hW
  clear hW
  have hGe := hid_ge HN
  replace HN := hid_now HN hp
  obtain ⟨g2, hg2⟩ : ∃ g2, g2 = w.heap.size := ⟨_, rfl⟩
  have G_g2 := Lib.hid (Nat.le_trans hGe (Nat.le_of_eq hg2.symm))
  rw [← hg2] at hB ⊢
  have B_g2 := hB
  clear hB hGe hg2
  clear hp
  have cg20 := cell_at B_g2 0 rfl
  have cg21 := cell_at B_g2 1 rfl
  have cg22 := cell_at B_g2 2 rfl
  have cg23 := cell_at B_g2 3 rfl
  have cg24 := cell_at B_g2 4 rfl
  have cg25 := cell_at B_g2 5 rfl
  have cg26 := cell_at B_g2 6 rfl
  have cg27 := cell_at B_g2 7 rfl
  have zg2 := froz_at B_g2
  have lg2 := hid_lt B_g2
  go_wp2_with fail
  clear cg20 cg21 cg22 cg23 cg24 cg25 cg26 cg27 zg2 lg2
  go_ret2
  exact ⟨rfl, HN.out⟩
set_option maxHeartbeats 4000000 in
set_option maxRecDepth 100000 in
theorem ip_put_opts4 (tos id ttl pr sr ds : Nat) (fl : Bool) (op d : List UInt8) (hop : op.length ≤ 1000000) (hd : d.length ≤ 1000000) (h40 : op.length ≤ 40) (h : op.length % 4 ≠ 0) (w : World) : Calls Tryz.prog 49 #[.agg #[.int .u8 (tos : Nat), .int .u16 (id : Nat), .bool fl, .int .u8 (ttl : Nat), .int .u8 (pr : Nat), .int .u32 (sr : Nat), .int .u32 (ds : Nat), str op], str d] w (Ret1 (.tuple #[.string ⟨#[]⟩, .int .i64 2]) w) := by
  have c0 : IntKind.i64.wrap (2028 - (op.length : Int)) = 2028 - (op.length : Int) := IntWalk.i64_in _ (by omega)
  have d0 : decide ((40 : Int) < (op.length : Int)) = false := decide_eq_false (by omega)
  obtain ⟨m, hm⟩ : ∃ m, m = op.length % 4 := ⟨_, rfl⟩
  have c1 : (op.length : Int) % 4 = (m : Int) := by omega
  have c1' : (op.length : Int).tmod 4 = (m : Int) := by rw [Int.tmod_eq_emod_of_nonneg (by omega)]; omega
  have d1 : ((m : Int) != 0) = true := by simp [bne]; omega
  clear hm
  go_enter Tryz.func49, Tryz.ntmps49
  have HN := Lib.hid (Fp.refl (fun _ => False) w)
  go_upto_region 1 with fail
  refine wp_gen (fun x1 hW => ?_)
  have hp := new_now hW
  have hB := new_blk hW
  clear hW
  have hGe := hid_ge HN
  replace HN := hid_now HN hp
  obtain ⟨g2, hg2⟩ : ∃ g2, g2 = w.heap.size := ⟨_, rfl⟩
  have G_g2 := Lib.hid (Nat.le_trans hGe (Nat.le_of_eq hg2.symm))
  rw [← hg2] at hB ⊢
  have B_g2 := hB
  clear hB hGe hg2
  clear hp
  have cg20 := cell_at B_g2 0 rfl
  have cg21 := cell_at B_g2 1 rfl
  have cg22 := cell_at B_g2 2 rfl
  have cg23 := cell_at B_g2 3 rfl
  have cg24 := cell_at B_g2 4 rfl
  have cg25 := cell_at B_g2 5 rfl
  have cg26 := cell_at B_g2 6 rfl
  have cg27 := cell_at B_g2 7 rfl
  have zg2 := froz_at B_g2
  have lg2 := hid_lt B_g2
  go_wp2_with fail
  clear cg20 cg21 cg22 cg23 cg24 cg25 cg26 cg27 zg2 lg2
  go_ret2
  exact ⟨rfl, HN.out⟩
set_option maxHeartbeats 4000000 in
set_option maxRecDepth 100000 in
theorem ip_put_long (tos id ttl pr sr ds : Nat) (fl : Bool) (op d : List UInt8) (hop : op.length ≤ 1000000) (hd : d.length ≤ 1000000) (h40 : op.length ≤ 40) (h4 : op.length % 4 = 0) (h : 2028 - op.length < d.length) (w : World) : Calls Tryz.prog 49 #[.agg #[.int .u8 (tos : Nat), .int .u16 (id : Nat), .bool fl, .int .u8 (ttl : Nat), .int .u8 (pr : Nat), .int .u32 (sr : Nat), .int .u32 (ds : Nat), str op], str d] w (Ret1 (.tuple #[.string ⟨#[]⟩, .int .i64 4]) w) := by
  have c0 : IntKind.i64.wrap (2028 - (op.length : Int)) = 2028 - (op.length : Int) := IntWalk.i64_in _ (by omega)
  have d0 : decide ((40 : Int) < (op.length : Int)) = false := decide_eq_false (by omega)
  have d2 : decide (2028 - (op.length : Int) < (d.length : Int)) = true := decide_eq_true (by omega)
  obtain ⟨m, hm⟩ : ∃ m, m = op.length % 4 := ⟨_, rfl⟩
  have c1 : (op.length : Int) % 4 = (m : Int) := by omega
  have c1' : (op.length : Int).tmod 4 = (m : Int) := by rw [Int.tmod_eq_emod_of_nonneg (by omega)]; omega
  have d1 : ((m : Int) != 0) = false := by rw [show m = 0 by omega]; rfl
  clear hm
  go_enter Tryz.func49, Tryz.ntmps49
  have HN := Lib.hid (Fp.refl (fun _ => False) w)
  go_upto_region 1 with fail
  refine wp_gen (fun x1 hW => ?_)
  have hp := new_now hW
  have hB := new_blk hW
  clear hW
  have hGe := hid_ge HN
  replace HN := hid_now HN hp
  obtain ⟨g2, hg2⟩ : ∃ g2, g2 = w.heap.size := ⟨_, rfl⟩
  have G_g2 := Lib.hid (Nat.le_trans hGe (Nat.le_of_eq hg2.symm))
  rw [← hg2] at hB ⊢
  have B_g2 := hB
  clear hB hGe hg2
  clear hp
  have cg20 := cell_at B_g2 0 rfl
  have cg21 := cell_at B_g2 1 rfl
  have cg22 := cell_at B_g2 2 rfl
  have cg23 := cell_at B_g2 3 rfl
  have cg24 := cell_at B_g2 4 rfl
  have cg25 := cell_at B_g2 5 rfl
  have cg26 := cell_at B_g2 6 rfl
  have cg27 := cell_at B_g2 7 rfl
  have zg2 := froz_at B_g2
  have lg2 := hid_lt B_g2
  go_wp2_with fail
  clear cg20 cg21 cg22 cg23 cg24 cg25 cg26 cg27 zg2 lg2
  go_ret2
  exact ⟨rfl, HN.out⟩
set_option maxHeartbeats 4000000 in
set_option maxRecDepth 100000 in
theorem ip_put_ok (tos id ttl pr sr ds : Nat) (fl : Bool) (op d : List UInt8) (htos : tos < 256) (hid : id < 65536) (httl : ttl < 256) (hpr : pr < 256) (hsr : sr < 4294967296) (hds : ds < 4294967296) (h40 : op.length ≤ 40) (h4 : op.length % 4 = 0) (hd : d.length ≤ 2028 - op.length) (w : World) :
    Calls Tryz.prog 49 #[.agg #[.int .u8 (tos : Nat), .int .u16 (id : Nat), .bool fl, .int .u8 (ttl : Nat), .int .u8 (pr : Nat), .int .u32 (sr : Nat), .int .u32 (ds : Nat), str op], str d] w (Ret1 (.tuple #[str (ipHead tos id fl ttl pr sr ds op (20 + op.length + d.length) (csum [ipHead tos id fl ttl pr sr ds op (20 + op.length + d.length) 0]) ++ d), .int .i64 0]) w) := by
  have c0 : IntKind.i64.wrap (2028 - (op.length : Int)) = 2028 - (op.length : Int) := IntWalk.i64_in _ (by omega)
  have d0 : decide ((40 : Int) < (op.length : Int)) = false := decide_eq_false (by omega)
  have d2 : decide (2028 - (op.length : Int) < (d.length : Int)) = false := decide_eq_false (by omega)
  obtain ⟨m, hm⟩ : ∃ m, m = op.length % 4 := ⟨_, rfl⟩
  have c1 : (op.length : Int) % 4 = (m : Int) := by omega
  have c1' : (op.length : Int).tmod 4 = (m : Int) := by rw [Int.tmod_eq_emod_of_nonneg (by omega)]; omega
  have d1 : ((m : Int) != 0) = false := by rw [show m = 0 by omega]; rfl
  clear hm
  obtain ⟨size, hsize⟩ : ∃ size, size = 20 + op.length + d.length := ⟨_, rfl⟩
  rw [← hsize]
  have c2 : IntKind.i64.wrap (20 + (op.length : Int)) = 20 + (op.length : Int) := IntWalk.i64_in _ (by omega)
  have c3 : IntKind.i64.wrap (20 + (op.length : Int) + (d.length : Int)) = (size : Int) := (IntWalk.i64_in _ (by omega)).trans (by omega)
  have c3' : 20 + (op.length : Int) + (d.length : Int) = (size : Int) := by omega
  obtain ⟨h0, hh0⟩ : ∃ t, t = ipHead tos id fl ttl pr sr ds op size 0 := ⟨_, rfl⟩
  have lh0 : h0.length = 20 + op.length := by rw [hh0]; simp [ipHead, b16_len, b32]; omega
  rw [← hh0]
  obtain ⟨sum, hsu⟩ : ∃ t, t = csum [h0] := ⟨_, rfl⟩
  rw [← hsu]
  have hsum : sum < 65536 := by rw [hsu]; unfold csum; omega
  have KB := Lib.hid (fun W => bytes_ok tos id ttl pr sr ds size 0 fl op htos hid httl hpr hsr hds h40 (by omega) (by omega) W)
  rw [← hh0] at KB
  have KB2 := Lib.hid (fun W => bytes_ok tos id ttl pr sr ds size sum fl op htos hid httl hpr hsr hds h40 (by omega) hsum W)
  have KS := Lib.hid (fun g c W hg => sum_ok g c h0 (by omega) (by omega) W hg)
  rw [← hsu] at KS
  obtain ⟨h1, hh1⟩ : ∃ t, t = ipHead tos id fl ttl pr sr ds op size sum := ⟨_, rfl⟩
  have lh1 : h1.length = 20 + op.length := by rw [hh1]; simp [ipHead, b16_len, b32]; omega
  rw [← hh1] at KB2 ⊢
  obtain ⟨s1, hs1⟩ : ∃ s : List UInt8, s = h1 ++ d := ⟨_, rfl⟩
  have ls1 : s1.length ≤ 3000 := by rw [hs1]; first | (simp [b16_len, wordsB_len, b32]; done) | (simp [b16_len, wordsB_len, b32]; omega)
  have as1 : ∀ W, (Op.stringOp .add ⟨(h1).toArray⟩ ⟨(d).toArray⟩).run Tryz.prog W = .ok (str s1) W := fun W => by rw [hs1]; exact run_string_add_lists (P := Tryz.prog) W (h1) (d) (by first | omega | (simp [b16_len, wordsB_len, b32]; done) | (simp [b16_len, wordsB_len, b32]; omega)) (by first | omega | (simp [b16_len, wordsB_len, b32]; done) | (simp [b16_len, wordsB_len, b32]; omega))
  rw [← hs1]
  clear hs1 ls1 hh0 hh1 hsu lh0 lh1 hsize hsum h4
  go_enter Tryz.func49, Tryz.ntmps49
  have HN := Lib.hid (Fp.refl (fun _ => False) w)
  go_upto_region 1 with fail
  refine wp_gen (fun x1 hW => ?_)
  have hp := new_now hW
  have hB := new_blk hW
  clear hW
  have hGe := hid_ge HN
  replace HN := hid_now HN hp
  obtain ⟨g2, hg2⟩ : ∃ g2, g2 = w.heap.size := ⟨_, rfl⟩
  have G_g2 := Lib.hid (Nat.le_trans hGe (Nat.le_of_eq hg2.symm))
  rw [← hg2] at hB ⊢
  have B_g2 := hB
  clear hB hGe hg2
  clear hp
  have cg20 := cell_at B_g2 0 rfl
  have cg21 := cell_at B_g2 1 rfl
  have cg22 := cell_at B_g2 2 rfl
  have cg23 := cell_at B_g2 3 rfl
  have cg24 := cell_at B_g2 4 rfl
  have cg25 := cell_at B_g2 5 rfl
  have cg26 := cell_at B_g2 6 rfl
  have cg27 := cell_at B_g2 7 rfl
  have zg2 := froz_at B_g2
  have lg2 := hid_lt B_g2
  go_upto_region 7 with fail
  clear cg20 cg21 cg22 cg23 cg24 cg25 cg26 cg27 zg2 lg2
  refine wp_gen (fun x2 hW => ?_)
  have l2g2 := hid_lt B_g2
  have hp := new_now hW
  have hB := new_blk hW
  clear hW
  have hGe := hid_ge HN
  replace HN := hid_now HN hp
  replace B_g2 := hid_blk B_g2 hp
  obtain ⟨g7, hg7⟩ : ∃ g7, g7 = x1.heap.size := ⟨_, rfl⟩
  have G_g7 := Lib.hid (Nat.le_trans hGe (Nat.le_of_eq hg7.symm))
  have n_g2_g7 : ¬ g2 = g7 := by omega
  have n_g7_g2 : ¬ g7 = g2 := by omega
  clear l2g2
  rw [← hg7] at hB ⊢
  have B_g7 := hB
  clear hB hGe hg7
  clear hp
  have cg70 := cell_at B_g7 0 rfl
  have cg71 := cell_at B_g7 1 rfl
  have cg72 := cell_at B_g7 2 rfl
  have cg73 := cell_at B_g7 3 rfl
  have cg74 := cell_at B_g7 4 rfl
  have cg75 := cell_at B_g7 5 rfl
  have cg76 := cell_at B_g7 6 rfl
  have cg77 := cell_at B_g7 7 rfl
  have cg78 := cell_at B_g7 8 rfl
  have cg79 := cell_at B_g7 9 rfl
  have zg7 := froz_at B_g7
  have lg7 := hid_lt B_g7
  go_wp2_with fail
  clear cg70 cg71 cg72 cg73 cg74 cg75 cg76 cg77 cg78 cg79 zg7 lg7
  refine (show Calls _ _ _ _ _ from KB.out _).mono ?_
  rintro e x3 ⟨rfl, hp⟩
  replace HN := hid_now HN hp
  replace B_g2 := hid_blk B_g2 hp
  replace B_g7 := hid_blk B_g7 hp
  clear hp
  go_wp2_with fail
  refine calls_gen (fun x4 hW => ?_)
  have l2g2 := hid_lt B_g2
  have l2g7 := hid_lt B_g7
  have hp := new_now hW
  have hB := new_blk hW
  clear hW
  have hGe := hid_ge HN
  replace HN := hid_now HN hp
  replace B_g2 := hid_blk B_g2 hp
  replace B_g7 := hid_blk B_g7 hp
  obtain ⟨gS, hgS⟩ : ∃ gS, gS = x3.heap.size := ⟨_, rfl⟩
  have G_gS := Lib.hid (Nat.le_trans hGe (Nat.le_of_eq hgS.symm))
  have n_g2_gS : ¬ g2 = gS := by omega
  have n_gS_g2 : ¬ gS = g2 := by omega
  clear l2g2
  have n_g7_gS : ¬ g7 = gS := by omega
  have n_gS_g7 : ¬ gS = g7 := by omega
  clear l2g7
  rw [← hgS] at hB ⊢
  have B_gS := hB
  clear hB hGe hgS
  clear hp
  refine (show Calls _ _ _ _ _ from KS.out gS _ _ (cell_at B_gS 0 rfl)).mono ?_
  rintro e x5 ⟨rfl, hp⟩
  replace HN := hid_now HN hp
  replace B_g2 := hid_blk B_g2 hp
  replace B_g7 := hid_blk B_g7 hp
  replace B_gS := hid_blk B_gS hp
  clear hp
  have cg70 := cell_at B_g7 0 rfl
  have cg71 := cell_at B_g7 1 rfl
  have cg72 := cell_at B_g7 2 rfl
  have cg73 := cell_at B_g7 3 rfl
  have cg74 := cell_at B_g7 4 rfl
  have cg75 := cell_at B_g7 5 rfl
  have cg76 := cell_at B_g7 6 rfl
  have cg77 := cell_at B_g7 7 rfl
  have cg78 := cell_at B_g7 8 rfl
  have cg79 := cell_at B_g7 9 rfl
  have zg7 := froz_at B_g7
  have lg7 := hid_lt B_g7
  go_upto_region 8 with fail
  clear cg70 cg71 cg72 cg73 cg74 cg75 cg76 cg77 cg78 cg79 zg7 lg7
  refine wp_gen (fun x6 hW => ?_)
  have hB := set_blk hW B_g7
  have hf := set_now hW
  clear hW
  simp only [List.setIfInBounds_toArray, List.set_cons_zero, List.set_cons_succ] at hB
  replace HN := hid_own HN hf (fun i hi e => by have h1 : i = g7 := e; have h2 := G_g7.out; omega)
  replace B_g2 := hid_blkS B_g2 hf n_g2_g7
  replace B_gS := hid_blkS B_gS hf n_gS_g7
  replace B_g7 := hB
  clear hB hf
  have cg70 := cell_at B_g7 0 rfl
  have cg71 := cell_at B_g7 1 rfl
  have cg72 := cell_at B_g7 2 rfl
  have cg73 := cell_at B_g7 3 rfl
  have cg74 := cell_at B_g7 4 rfl
  have cg75 := cell_at B_g7 5 rfl
  have cg76 := cell_at B_g7 6 rfl
  have cg77 := cell_at B_g7 7 rfl
  have cg78 := cell_at B_g7 8 rfl
  have cg79 := cell_at B_g7 9 rfl
  have zg7 := froz_at B_g7
  have lg7 := hid_lt B_g7
  go_wp2_with fail
  clear cg70 cg71 cg72 cg73 cg74 cg75 cg76 cg77 cg78 cg79 zg7 lg7
  refine (show Calls _ _ _ _ _ from KB2.out _).mono ?_
  rintro e x7 ⟨rfl, hp⟩
  replace HN := hid_now HN hp
  replace B_g2 := hid_blk B_g2 hp
  replace B_g7 := hid_blk B_g7 hp
  replace B_gS := hid_blk B_gS hp
  clear hp
  go_wp2_with fail
  go_ret2
  exact ⟨rfl, HN.out⟩
set_option maxHeartbeats 4000000 in
set_option maxRecDepth 100000 in
theorem udp_put (sp dp ln sum : Nat) (d : List UInt8) (hsp : sp < 65536) (hdp : dp < 65536) (hsum : sum < 65536) (hd : d.length ≤ 1000) (w : World) : Calls Tryz.prog 46 #[.agg #[.int .u16 (sp : Nat), .int .u16 (dp : Nat), .int .u16 (ln : Nat), .int .u16 (sum : Nat)], str d] w (Ret1 (str (udpPutL sp dp sum d)) w) := by
  obtain ⟨m, hm⟩ : ∃ m, m = (8 + d.length) % 65536 := ⟨_, rfl⟩
  have c0 : IntKind.i64.wrap (8 + (d.length : Int)) = 8 + (d.length : Int) := IntWalk.i64_in _ (by omega)
  have c1 : IntKind.u16.wrap (8 + (d.length : Int)) = (m : Int) := by simp [IntKind.wrap, IntKind.signed, IntKind.bits]; omega
  have hm65 : m < 65536 := by omega
  have hfin : udpPutL sp dp sum d = wordsB [sp, dp, m, sum] ++ d := by rw [hm]; simp [udpPutL, wordsB]
  rw [hfin]
  have KW := Lib.hid (fun g c W T fr hb => @wordP g c [sp, dp, m, sum] (by simp; omega) (by simp) W T fr hb)
  have lw : (wordsB [sp, dp, m, sum]).length = 8 := by rw [wordsB_len]; rfl
  obtain ⟨s1, hs1⟩ : ∃ s : List UInt8, s = wordsB [sp, dp, m, sum] ++ d := ⟨_, rfl⟩
  have ls1 : s1.length ≤ 2000 := by rw [hs1]; first | (simp [b16_len, wordsB_len, b32]; done) | (simp [b16_len, wordsB_len, b32]; omega)
  have as1 : ∀ W, (Op.stringOp .add ⟨(wordsB [sp, dp, m, sum]).toArray⟩ ⟨(d).toArray⟩).run Tryz.prog W = .ok (str s1) W := fun W => by rw [hs1]; exact run_string_add_lists (P := Tryz.prog) W (wordsB [sp, dp, m, sum]) (d) (by first | omega | (simp [b16_len, wordsB_len, b32]; done) | (simp [b16_len, wordsB_len, b32]; omega)) (by first | omega | (simp [b16_len, wordsB_len, b32]; done) | (simp [b16_len, wordsB_len, b32]; omega))
  rw [← hs1]
  generalize wordsB [sp, dp, m, sum] = y0 at *
  clear hfin hs1 ls1 hm lw hm65
  go_enter Tryz.func46, Tryz.ntmps46
  have HN := Lib.hid (Fp.refl (fun _ => False) w)
  go_upto_region 1 with fail
  refine wp_gen (fun x1 hW => ?_)
  have hp := new_now hW
  have hB := new_blk hW
  clear hW
  have hGe := hid_ge HN
  replace HN := hid_now HN hp
  obtain ⟨g2, hg2⟩ : ∃ g2, g2 = w.heap.size := ⟨_, rfl⟩
  have G_g2 := Lib.hid (Nat.le_trans hGe (Nat.le_of_eq hg2.symm))
  rw [← hg2] at hB ⊢
  have B_g2 := hB
  clear hB hGe hg2
  clear hp
  have cg20 := cell_at B_g2 0 rfl
  have cg21 := cell_at B_g2 1 rfl
  have cg22 := cell_at B_g2 2 rfl
  have cg23 := cell_at B_g2 3 rfl
  have zg2 := froz_at B_g2
  have lg2 := hid_lt B_g2
  go_wp2_with fail
  clear cg20 cg21 cg22 cg23 zg2 lg2
  refine calls_gen (fun x2 hW => ?_)
  have l2g2 := hid_lt B_g2
  have hp := new_now hW
  have hB := new_blk hW
  clear hW
  have hGe := hid_ge HN
  replace HN := hid_now HN hp
  replace B_g2 := hid_blk B_g2 hp
  obtain ⟨gS, hgS⟩ : ∃ gS, gS = x1.heap.size := ⟨_, rfl⟩
  have G_gS := Lib.hid (Nat.le_trans hGe (Nat.le_of_eq hgS.symm))
  have n_g2_gS : ¬ g2 = gS := by omega
  have n_gS_g2 : ¬ gS = g2 := by omega
  clear l2g2
  rw [← hgS] at hB ⊢
  have B_gS := hB
  clear hB hGe hgS
  clear hp
  refine (show Calls _ _ _ _ _ from KW.out gS _ _ _ _ B_gS.out).mono ?_
  rintro e x3 ⟨rfl, hp⟩
  replace HN := hid_now HN hp
  replace B_g2 := hid_blk B_g2 hp
  replace B_gS := hid_blk B_gS hp
  clear hp
  go_wp2_with fail
  go_ret
  exact ⟨rfl, HN.out⟩
set_option maxHeartbeats 4000000 in
set_option maxRecDepth 100000 in
theorem icmp_put (ty sum : Nat) (re d : List UInt8) (hty : ty < 256) (hsum : sum < 65536) (hre : re.length = 4) (hd : d.length ≤ 1000) (w : World) : Calls Tryz.prog 47 #[.agg #[.int .u8 (ty : Nat), .int .u8 0, .int .u16 (sum : Nat), str re, str d]] w (Ret1 (.tuple #[str ((b16 (ty * 256) ++ b16 sum) ++ re ++ d), .int .i64 0]) w) := by
  have hfin : (b16 (ty * 256) ++ b16 sum) ++ re ++ d = wordsB [ty * 256, sum] ++ re ++ d := by simp [wordsB]
  rw [hfin]
  have KW := Lib.hid (fun g c W T fr hb => @wordP g c [ty * 256, sum] (by simp; omega) (by simp) W T fr hb)
  have lw : (wordsB [ty * 256, sum]).length = 4 := by rw [wordsB_len]; rfl
  obtain ⟨s1, hs1⟩ : ∃ s : List UInt8, s = wordsB [ty * 256, sum] ++ re := ⟨_, rfl⟩
  have ls1 : s1.length ≤ 8 := by rw [hs1]; first | (simp [b16_len, wordsB_len, b32]; done) | (simp [b16_len, wordsB_len, b32]; omega)
  have as1 : ∀ W, (Op.stringOp .add ⟨(wordsB [ty * 256, sum]).toArray⟩ ⟨(re).toArray⟩).run Tryz.prog W = .ok (str s1) W := fun W => by rw [hs1]; exact run_string_add_lists (P := Tryz.prog) W (wordsB [ty * 256, sum]) (re) (by first | omega | (simp [b16_len, wordsB_len, b32]; done) | (simp [b16_len, wordsB_len, b32]; omega)) (by first | omega | (simp [b16_len, wordsB_len, b32]; done) | (simp [b16_len, wordsB_len, b32]; omega))
  obtain ⟨s2, hs2⟩ : ∃ s : List UInt8, s = s1 ++ d := ⟨_, rfl⟩
  have ls2 : s2.length ≤ 2000 := by rw [hs2]; first | (simp [b16_len, wordsB_len, b32]; done) | (simp [b16_len, wordsB_len, b32]; omega)
  have as2 : ∀ W, (Op.stringOp .add ⟨(s1).toArray⟩ ⟨(d).toArray⟩).run Tryz.prog W = .ok (str s2) W := fun W => by rw [hs2]; exact run_string_add_lists (P := Tryz.prog) W (s1) (d) (by first | omega | (simp [b16_len, wordsB_len, b32]; done) | (simp [b16_len, wordsB_len, b32]; omega)) (by first | omega | (simp [b16_len, wordsB_len, b32]; done) | (simp [b16_len, wordsB_len, b32]; omega))
  rw [← hs1, ← hs2]
  have c0 : IntKind.u16.wrap (ty : Int) = (ty : Int) := IntWalk.u16_in _ (by omega)
  have c1 : IntKind.u16.wrap ((ty : Int) * 256) = ((ty * 256 : Nat) : Int) := (IntWalk.u16_in _ (by omega)).trans (by omega)
  have c1' : ((ty : Int) * 256) = ((ty * 256 : Nat) : Int) := by omega
  have c2 : bits .or .u16 ((ty * 256 : Nat) : Int) 0 = ((ty * 256 : Nat) : Int) := by have h := orb8 hty (show 0 < 256 by omega); simpa using h
  have c1b : IntKind.u16.wrap ((ty * 256 : Nat) : Int) = ((ty * 256 : Nat) : Int) := IntWalk.u16_in _ (by omega)
  have cz : IntKind.u16.wrap 0 = 0 := by decide
  have e4 : ((re.length : Int) != 4) = false := by rw [hre]; rfl
  generalize ty * 256 = t2 at *
  generalize wordsB [t2, sum] = y0 at *
  clear hfin hs1 ls1 hs2 ls2 lw
  go_enter Tryz.func47, Tryz.ntmps47
  have HN := Lib.hid (Fp.refl (fun _ => False) w)
  go_upto_region 1 with fail
  refine wp_gen (fun x1 hW => ?_)
  have hp := new_now hW
  have hB := new_blk hW
  clear hW
  have hGe := hid_ge HN
  replace HN := hid_now HN hp
  obtain ⟨g1, hg1⟩ : ∃ g1, g1 = w.heap.size := ⟨_, rfl⟩
  have G_g1 := Lib.hid (Nat.le_trans hGe (Nat.le_of_eq hg1.symm))
  rw [← hg1] at hB ⊢
  have B_g1 := hB
  clear hB hGe hg1
  clear hp
  have cg10 := cell_at B_g1 0 rfl
  have cg11 := cell_at B_g1 1 rfl
  have cg12 := cell_at B_g1 2 rfl
  have cg13 := cell_at B_g1 3 rfl
  have cg14 := cell_at B_g1 4 rfl
  have zg1 := froz_at B_g1
  have lg1 := hid_lt B_g1
  go_upto_region 3 with fail
  refine wp_region_held_drew (S := fun wx => NoW x1 wx) (by kernel_rfl) (Fp.drew (Fp.refl _ _)) (fun hHeld0 => ?_)
  refine any_eq hHeld0 (fun x2 hW hHeld => ?_)
  clear hHeld0
  replace B_g1 := hid_blk B_g1 (noW_drew hW)
  clear hW
  (refine take_at 0 (some 8) rfl rfl (by kernel_rfl) (by kernel_rfl) (by kernel_rfl) (fun _ _ _ h => h) (v := ?_) (by kernel_rfl) ?_ (by assumption) ?_; rotate_left; (focus (intro wS hSw; skip; go_simp; try with_reducible rfl)); (try simp only [Act.put, List.setIfInBounds_toArray, List.set_cons_zero, List.set_cons_succ]))
  (refine take_at 1 (some 9) rfl rfl (by kernel_rfl) (by kernel_rfl) (by kernel_rfl) (fun _ _ _ h => h) (v := ?_) (by kernel_rfl) ?_ (by assumption) ?_; rotate_left; (focus (intro wS hSw; have hX := fun b o (h : b < _) => hSw.cell (p := ⟨b, o, none⟩) h (fun h => h); go_simp; try with_reducible rfl)); (try simp only [Act.put, List.setIfInBounds_toArray, List.set_cons_zero, List.set_cons_succ]))
  (refine take_at 2 (some 10) rfl rfl (by kernel_rfl) (by kernel_rfl) (by kernel_rfl) (fun _ _ _ h => h) (v := ?_) (by kernel_rfl) ?_ (by assumption) ?_; rotate_left; (focus (intro wS hSw; skip; go_simp; try with_reducible rfl)); (try simp only [Act.put, List.setIfInBounds_toArray, List.set_cons_zero, List.set_cons_succ]))
  (refine take_at 3 (some 11) rfl rfl (by kernel_rfl) (by kernel_rfl) (by kernel_rfl) (fun _ _ _ h => h) (v := ?_) (by kernel_rfl) ?_ (by assumption) ?_; rotate_left; (focus (intro wS hSw; skip; go_simp; try with_reducible rfl)); (try simp only [Act.put, List.setIfInBounds_toArray, List.set_cons_zero, List.set_cons_succ]))
  (refine take_at 4 (some 12) rfl rfl (by kernel_rfl) (by kernel_rfl) (by kernel_rfl) (fun _ _ _ h => h) (v := ?_) (by kernel_rfl) ?_ (by assumption) ?_; rotate_left; (focus (intro wS hSw; skip; go_simp; try with_reducible rfl)); (try simp only [Act.put, List.setIfInBounds_toArray, List.set_cons_zero, List.set_cons_succ]))
  (refine take_at 5 (some 13) rfl rfl (by kernel_rfl) (by kernel_rfl) (by kernel_rfl) (fun _ _ _ h => h) (v := ?_) (by kernel_rfl) ?_ (by assumption) ?_; rotate_left; (focus (intro wS hSw; have hX := fun b o (h : b < _) => hSw.cell (p := ⟨b, o, none⟩) h (fun h => h); go_simp; try with_reducible rfl)); (try simp only [Act.put, List.setIfInBounds_toArray, List.set_cons_zero, List.set_cons_succ]))
  (refine take_at 6 (some 14) rfl rfl (by kernel_rfl) (by kernel_rfl) (by kernel_rfl) (fun _ _ _ h => h) (v := ?_) (by kernel_rfl) ?_ (by assumption) ?_; rotate_left; (focus (intro wS hSw; skip; go_simp; try with_reducible rfl)); (try simp only [Act.put, List.setIfInBounds_toArray, List.set_cons_zero, List.set_cons_succ]))
  (refine take_at 7 (some 15) rfl rfl (by kernel_rfl) (by kernel_rfl) (by kernel_rfl) (fun _ _ _ h => h) (v := ?_) (by kernel_rfl) ?_ (by assumption) ?_; rotate_left; (focus (intro wS hSw; skip; go_simp; try with_reducible rfl)); (try simp only [Act.put, List.setIfInBounds_toArray, List.set_cons_zero, List.set_cons_succ]))
  (refine take_at 8 (some 16) rfl rfl (by kernel_rfl) (by kernel_rfl) (by kernel_rfl) (fun _ _ _ h => h) (v := ?_) (by kernel_rfl) ?_ (by assumption) ?_; rotate_left; (focus (intro wS hSw; skip; go_simp; try with_reducible rfl)); (try simp only [Act.put, List.setIfInBounds_toArray, List.set_cons_zero, List.set_cons_succ]))
  (refine take_at 9 (some 17) rfl rfl (by kernel_rfl) (by kernel_rfl) (by kernel_rfl) (fun _ _ _ h => h) (v := ?_) (by kernel_rfl) ?_ (by assumption) ?_; rotate_left; (focus (intro wS hSw; have hX := fun b o (h : b < _) => hSw.cell (p := ⟨b, o, none⟩) h (fun h => h); go_simp; try with_reducible rfl)); (try simp only [Act.put, List.setIfInBounds_toArray, List.set_cons_zero, List.set_cons_succ]))
  (refine take_at 12 (some 20) rfl rfl (by kernel_rfl) (by kernel_rfl) (by kernel_rfl) (fun _ _ _ h => h) (v := ?_) (by kernel_rfl) ?_ (by assumption) ?_; rotate_left; (focus (intro wS hSw; skip; go_simp; try with_reducible rfl)); (try simp only [Act.put, List.setIfInBounds_toArray, List.set_cons_zero, List.set_cons_succ]))
  (refine take_at 13 (some 21) rfl rfl (by kernel_rfl) (by kernel_rfl) (by kernel_rfl) (fun _ _ _ h => h) (v := ?_) (by kernel_rfl) ?_ (by assumption) ?_; rotate_left; (focus (intro wS hSw; have hX := fun b o (h : b < _) => hSw.cell (p := ⟨b, o, none⟩) h (fun h => h); go_simp; try with_reducible rfl)); (try simp only [Act.put, List.setIfInBounds_toArray, List.set_cons_zero, List.set_cons_succ]))
  (refine take_at 15 (some 23) rfl rfl (by kernel_rfl) (by kernel_rfl) (by kernel_rfl) (fun _ _ _ h => h) (v := ?_) (by kernel_rfl) ?_ (by assumption) ?_; rotate_left; (focus (intro wS hSw; skip; go_simp; try with_reducible rfl)); (try simp only [Act.put, List.setIfInBounds_toArray, List.set_cons_zero, List.set_cons_succ]))
  (refine take_at 16 (some 24) rfl rfl (by kernel_rfl) (by kernel_rfl) (by kernel_rfl) (fun _ _ _ h => h) (v := ?_) (by kernel_rfl) ?_ (by assumption) ?_; rotate_left; (focus (intro wS hSw; have hX := fun b o (h : b < _) => hSw.cell (p := ⟨b, o, none⟩) h (fun h => h); go_simp; try with_reducible rfl)); (try simp only [Act.put, List.setIfInBounds_toArray, List.set_cons_zero, List.set_cons_succ]))
  refine wpAnyH_ready (rs := [10]) (by kernel_rfl) (by simp) ?_
  refine AllReadyH.cons rfl (fun K hK => ?_) AllReadyH.nil
  go_simp
  refine k_gen hK (fun x3 hW => ?_)
  have l2g1 := hid_lt B_g1
  have hp := new_now hW
  have hB := new_blk hW
  have hGe := Fp.size hHeld
  clear hW
  refine ⟨Fp.trans hHeld hp (fun _ _ h => h.elim), ?_⟩
  replace hHeld := Fp.trans hHeld hp (fun _ _ h => h.elim)
  clear hK K
  try simp only [Act.put, List.setIfInBounds_toArray, List.set_cons_zero, List.set_cons_succ]
  obtain ⟨gS, hgS⟩ : ∃ gS, gS = x2.heap.size := ⟨_, rfl⟩
  have R_gS := Lib.hid (Nat.le_trans hGe (Nat.le_of_eq hgS.symm))
  have n_g1_gS : ¬ g1 = gS := by omega
  have n_gS_g1 : ¬ gS = g1 := by omega
  clear l2g1
  replace B_g1 := hid_blk B_g1 hp
  rw [← hgS] at hB ⊢
  have B_gS := hB
  clear hB hgS hp hGe
  refine wpAnyH_ready (rs := [11]) (by kernel_rfl) (by simp) ?_
  refine AllReadyH.cons rfl (fun K hK => ?_) AllReadyH.nil
  go_simp
  go_at_call 79
  refine (show Calls _ _ _ _ _ from KW.out gS _ _ _ _ B_gS.out).mono ?_
  rintro e x4 ⟨rfl, hp⟩
  have hn := Fp.trans hHeld hp (fun _ _ h => h.elim)
  replace B_g1 := hid_blk B_g1 hp
  replace B_gS := hid_blk B_gS hp
  refine k_now hK hn ?_
  clear hK K hp hHeld
  have hHeld := hn
  clear hn
  try simp only [Act.put, List.setIfInBounds_toArray, List.set_cons_zero, List.set_cons_succ]
  (refine take_at 14 (some 22) rfl rfl (by kernel_rfl) (by kernel_rfl) (by kernel_rfl) (fun _ _ _ h => h) (v := ?_) (by kernel_rfl) ?_ (by assumption) ?_; rotate_left; (focus (intro wS hSw; skip; go_simp; try with_reducible rfl)); (try simp only [Act.put, List.setIfInBounds_toArray, List.set_cons_zero, List.set_cons_succ]))
  (refine take_at 17 (some 25) rfl rfl (by kernel_rfl) (by kernel_rfl) (by kernel_rfl) (fun _ _ _ h => h) (v := ?_) (by kernel_rfl) ?_ (by assumption) ?_; rotate_left; (focus (intro wS hSw; skip; go_simp; try with_reducible rfl)); (try simp only [Act.put, List.setIfInBounds_toArray, List.set_cons_zero, List.set_cons_succ]))
  (refine take_at 18 (some 2) rfl rfl (by kernel_rfl) (by kernel_rfl) (by kernel_rfl) (fun _ _ _ h => h) (v := ?_) (by kernel_rfl) ?_ (by assumption) ?_; rotate_left; (focus (intro wS hSw; skip; go_simp; try with_reducible rfl)); (try simp only [Act.put, List.setIfInBounds_toArray, List.set_cons_zero, List.set_cons_succ]))
  (refine take_at 19 (some 3) rfl rfl (by kernel_rfl) (by kernel_rfl) (by kernel_rfl) (fun _ _ _ h => h) (v := ?_) (by kernel_rfl) ?_ (by assumption) ?_; rotate_left; (focus (intro wS hSw; skip; go_simp; try with_reducible rfl)); (try simp only [Act.put, List.setIfInBounds_toArray, List.set_cons_zero, List.set_cons_succ]))
  refine wpAnyH_done (by kernel_rfl) ?_ _
  clear cg10 cg11 cg12 cg13 cg14 zg1 lg1
  have hGe := hid_ge HN
  replace HN := hid_now HN hHeld
  have G_gS := Lib.hid (Nat.le_trans hGe R_gS.out)
  clear R_gS
  clear hHeld hGe
  go_wp2_with fail
  go_ret2
  exact ⟨rfl, HN.out⟩
set_option maxHeartbeats 4000000 in
set_option maxRecDepth 100000 in
theorem icmp_withid (ty sum n : Nat) (re d : List UInt8) (hn : n < 65536) (hre : re.length = 4) (w : World) : Calls Tryz.prog 48 #[.agg #[.int .u8 (ty : Nat), .int .u8 0, .int .u16 (sum : Nat), str re, str d], .int .u16 (n : Nat)] w (Ret1 (.agg #[.int .u8 (ty : Nat), .int .u8 0, .int .u16 (sum : Nat), str (b16 n ++ re.drop 2), str d]) w) := by
  have K1 := Lib.hid (fun W => put16_ok n hn W)
  have K2 := Lib.hid (fun W => with_ok re (b16 n) 0 (by omega) (by omega) (by simp [b16_len]) (by simp [b16_len, hre]) W)
  rw [show re.take 0 ++ b16 n ++ re.drop (0 + (b16 n).length) = b16 n ++ re.drop 2 by simp [b16_len]] at K2
  generalize b16 n ++ re.drop 2 = r2 at *
  generalize b16 n = y0 at *
  go_enter Tryz.func48, Tryz.ntmps48
  have HN := Lib.hid (Fp.refl (fun _ => False) w)
  go_upto_region 1 with fail
  refine wp_gen (fun x1 hW => ?_)
  obtain ⟨hB, hB2, hp⟩ := new2_blk hW
  clear hW
  have hGe := hid_ge HN
  replace HN := hid_now HN hp
  obtain ⟨g4, hg4⟩ : ∃ g4, g4 = w.heap.size + 1 := ⟨_, rfl⟩
  obtain ⟨g2, hg2⟩ : ∃ g2, g2 = w.heap.size := ⟨_, rfl⟩
  have G_g2 := Lib.hid (show w.heap.size ≤ g2 by omega)
  have G_g4 := Lib.hid (show w.heap.size ≤ g4 by omega)
  have n_g2_g4 : ¬ g2 = g4 := by omega
  have n_g4_g2 : ¬ g4 = g2 := by omega
  rw [← hg4] at hB2 ⊢
  rw [← hg2] at hB ⊢
  have B_g2 := hB
  have B_g4 := hB2
  clear hB hB2 hg2 hg4 hGe hp
  have cg20 := cell_at B_g2 0 rfl
  have cg21 := cell_at B_g2 1 rfl
  have cg22 := cell_at B_g2 2 rfl
  have cg23 := cell_at B_g2 3 rfl
  have cg24 := cell_at B_g2 4 rfl
  have zg2 := froz_at B_g2
  have lg2 := hid_lt B_g2
  refine wp_region_held_drew (S := fun wx => NoW x1 wx) (by kernel_rfl) (Fp.drew (Fp.refl _ _)) (fun hHeld0 => ?_)
  refine any_eq hHeld0 (fun x2 hW hHeld => ?_)
  clear hHeld0
  replace B_g2 := hid_blk B_g2 (noW_drew hW)
  replace B_g4 := hid_blk B_g4 (noW_drew hW)
  clear hW
  (refine take_at 0 (some 8) rfl rfl (by kernel_rfl) (by kernel_rfl) (by kernel_rfl) (fun _ _ _ h => h) (v := ?_) (by kernel_rfl) ?_ (by assumption) ?_; rotate_left; (focus (intro wS hSw; skip; go_simp; try with_reducible rfl)); (try simp only [Act.put, List.setIfInBounds_toArray, List.set_cons_zero, List.set_cons_succ]))
  (refine take_at 1 (some 9) rfl rfl (by kernel_rfl) (by kernel_rfl) (by kernel_rfl) (fun _ _ _ h => h) (v := ?_) (by kernel_rfl) ?_ (by assumption) ?_; rotate_left; (focus (intro wS hSw; have hX := fun b o (h : b < _) => hSw.cell (p := ⟨b, o, none⟩) h (fun h => h); go_simp; try with_reducible rfl)); (try simp only [Act.put, List.setIfInBounds_toArray, List.set_cons_zero, List.set_cons_succ]))
  (refine take_at 2 (some 10) rfl rfl (by kernel_rfl) (by kernel_rfl) (by kernel_rfl) (fun _ _ _ h => h) (v := ?_) (by kernel_rfl) ?_ (by assumption) ?_; rotate_left; (focus (intro wS hSw; skip; go_simp; try with_reducible rfl)); (try simp only [Act.put, List.setIfInBounds_toArray, List.set_cons_zero, List.set_cons_succ]))
  refine wpAnyH_ready (rs := [3]) (by kernel_rfl) (by simp) ?_
  refine AllReadyH.cons rfl (fun K hK => ?_) AllReadyH.nil
  go_simp
  go_at_call 82
  refine (show Calls _ _ _ _ _ from K1.out _).mono ?_
  rintro e x3 ⟨rfl, hp⟩
  have hn := Fp.trans hHeld hp (fun _ _ h => h.elim)
  replace B_g2 := hid_blk B_g2 hp
  replace B_g4 := hid_blk B_g4 hp
  refine k_now hK hn ?_
  clear hK K hp hHeld
  have hHeld := hn
  clear hn
  try simp only [Act.put, List.setIfInBounds_toArray, List.set_cons_zero, List.set_cons_succ]
  refine wpAnyH_ready (rs := [4]) (by kernel_rfl) (by simp) ?_
  refine AllReadyH.cons rfl (fun K hK => ?_) AllReadyH.nil
  go_simp
  go_at_call 81
  refine (show Calls _ _ _ _ _ from K2.out _).mono ?_
  rintro e x4 ⟨rfl, hp⟩
  have hn := Fp.trans hHeld hp (fun _ _ h => h.elim)
  replace B_g2 := hid_blk B_g2 hp
  replace B_g4 := hid_blk B_g4 hp
  refine k_now hK hn ?_
  clear hK K hp hHeld
  have hHeld := hn
  clear hn
  try simp only [Act.put, List.setIfInBounds_toArray, List.set_cons_zero, List.set_cons_succ]
  (refine take_at 5 (some 7) rfl rfl (by kernel_rfl) (by kernel_rfl) (by kernel_rfl) (fun _ _ _ h => h) (v := ?_) (by kernel_rfl) ?_ (by assumption) ?_; rotate_left; (focus (intro wS hSw; skip; go_simp; try with_reducible rfl)); (try simp only [Act.put, List.setIfInBounds_toArray, List.set_cons_zero, List.set_cons_succ]))
  (refine take_at 6 (some 13) rfl rfl (by kernel_rfl) (by kernel_rfl) (by kernel_rfl) (fun _ _ _ h => h) (v := ?_) (by kernel_rfl) ?_ (by assumption) ?_; rotate_left; (focus (intro wS hSw; skip; go_simp; try with_reducible rfl)); (try simp only [Act.put, List.setIfInBounds_toArray, List.set_cons_zero, List.set_cons_succ]))
  (refine take_at 7 (some 14) rfl rfl (by kernel_rfl) (by kernel_rfl) (by kernel_rfl) (fun _ _ _ h => h) (v := ?_) (by kernel_rfl) ?_ (by assumption) ?_; rotate_left; (focus (intro wS hSw; skip; go_simp; try with_reducible rfl)); (try simp only [Act.put, List.setIfInBounds_toArray, List.set_cons_zero, List.set_cons_succ]))
  (refine take_at 8 (some 5) rfl rfl (by kernel_rfl) (by kernel_rfl) (by kernel_rfl) (fun _ _ _ h => h) (v := ?_) (by kernel_rfl) ?_ (by assumption) ?_; rotate_left; (focus (intro wS hSw; skip; go_simp; try with_reducible rfl)); (try simp only [Act.put, List.setIfInBounds_toArray, List.set_cons_zero, List.set_cons_succ]))
  (refine take_at 9 (some 6) rfl rfl (by kernel_rfl) (by kernel_rfl) (by kernel_rfl) (fun _ _ _ h => h) (v := ?_) (by kernel_rfl) ?_ (by assumption) ?_; rotate_left; (focus (intro wS hSw; skip; go_simp; try with_reducible rfl)); (try simp only [Act.put, List.setIfInBounds_toArray, List.set_cons_zero, List.set_cons_succ]))
  refine wpAnyH_done (by kernel_rfl) ?_ _
  clear cg20 cg21 cg22 cg23 cg24 zg2 lg2
  have hGe := hid_ge HN
  replace HN := hid_now HN hHeld
  clear hHeld hGe
  have cg20 := cell_at B_g2 0 rfl
  have cg21 := cell_at B_g2 1 rfl
  have cg22 := cell_at B_g2 2 rfl
  have cg23 := cell_at B_g2 3 rfl
  have cg24 := cell_at B_g2 4 rfl
  have zg2 := froz_at B_g2
  have lg2 := hid_lt B_g2
  go_upto_region 4 with fail
  refine wp_gen (fun x5 hW => ?_)
  have hB := set_blk hW B_g2
  have hf := set_now hW
  clear hW
  simp only [List.setIfInBounds_toArray, List.set_cons_zero, List.set_cons_succ] at hB
  replace HN := hid_own HN hf (fun i hi e => by have h1 : i = g2 := e; have h2 := G_g2.out; omega)
  replace B_g4 := hid_blkS B_g4 hf n_g4_g2
  replace B_g2 := hB
  clear hB hf
  clear cg20 cg21 cg22 cg23 cg24 zg2 lg2
  have cg20 := cell_at B_g2 0 rfl
  have cg21 := cell_at B_g2 1 rfl
  have cg22 := cell_at B_g2 2 rfl
  have cg23 := cell_at B_g2 3 rfl
  have cg24 := cell_at B_g2 4 rfl
  have zg2 := froz_at B_g2
  have lg2 := hid_lt B_g2
  have cg40 := cell_at B_g4 0 rfl
  have cg41 := cell_at B_g4 1 rfl
  have cg42 := cell_at B_g4 2 rfl
  have cg43 := cell_at B_g4 3 rfl
  have cg44 := cell_at B_g4 4 rfl
  have zg4 := froz_at B_g4
  have lg4 := hid_lt B_g4
  go_wp2_with fail
  refine post_gen (fun W hW => ?_)
  obtain ⟨hB, hf⟩ := setE5 hW B_g4
  replace HN := hid_own HN hf (fun i hi e => by have h1 : i = g4 := e; have h2 := G_g4.out; omega)
  clear hW hf cg40 cg41 cg42 cg43 cg44 zg4 lg4
  replace B_g4 := hB
  clear hB
  have cg40 := cell_at B_g4 0 rfl
  have cg41 := cell_at B_g4 1 rfl
  have cg42 := cell_at B_g4 2 rfl
  have cg43 := cell_at B_g4 3 rfl
  have cg44 := cell_at B_g4 4 rfl
  have zg4 := froz_at B_g4
  have lg4 := hid_lt B_g4
  refine bodyPost_ret (v := .agg #[.int .u8 (ty : Nat), .int .u8 0, .int .u16 (sum : Nat), str r2, str d]) (by simp only [results, Tryz.results48]; go_simp) rfl ⟨rfl, HN.out⟩
end Go.Proofs.YtmghjaoodnkjlaaGreatDoor
