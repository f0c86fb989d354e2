/- Chapter 08: TuplesSeen (written by gen8f.py). -/
import Derived.Test.YtmghjaoodnkjlaaGreatDoorTE
import Derived.Test.YtmghjaoodnkjlaaGreatDoorTq
import Derived.Test.YtmghjaoodnkjlaaGreatDoorTw
import Derived.Test.YtmghjaoodnkjlaaGreatDoorZc
import Derived.Test.YtmghjaoodnkjlaaGreatDoorTk
import Derived.Test.YtmghjaoodnkjlaaGreatDoorSeeD
import Derived.Laws.StructEq
namespace Go.Proofs.YtmghjaoodnkjlaaGreatDoor
set_option linter.unusedVariables false
set_option linter.unusedSimpArgs false
open Go.RowKit Go.Lib Go.Sort
theorem flag_bits : ∀ f : Nat, f < 256 → (decide ((0 : Int) < bits .and .u8 (f : Int) 2) && (bits .and .u8 (f : Int) 21 == 0)) = firstB f := by decide +kernel
theorem ipOk_parts {op d : List UInt8} (h : ipOkB op d = true) : op.length ≤ 40 ∧ op.length % 4 = 0 ∧ d.length ≤ 2028 - op.length := of_decide_eq_true h
theorem ipS_yes {tos id : Nat} {fl : Bool} {ttl pr sr ds : Nat} {op d : List UInt8} (h : ipOkB op d = true) : ipS tos id fl ttl pr sr ds op d = ipHead tos id fl ttl pr sr ds op (20 + op.length + d.length) (csum [ipHead tos id fl ttl pr sr ds op (20 + op.length + d.length) 0]) ++ d := if_pos h
theorem ipS_len {tos id : Nat} {fl : Bool} {ttl pr sr ds : Nat} {op d : List UInt8} : (ipS tos id fl ttl pr sr ds op d).length ≤ 2048 := by
  unfold ipS
  split
  · rename_i h
    obtain ⟨h1, h2, h3⟩ := ipOk_parts h
    simp [ipHead, b16_len, b32]; omega
  · simp
theorem of_put {tos id : Nat} {fl : Bool} {ttl pr sr ds : Nat} {op d beh : List UInt8} (htos : tos < 256) (hid : id < 65536) (httl : ttl < 256) (hpr : pr < 256) (hsr : sr < 4294967296) (hds : ds < 4294967296) (h : ipOkB op d = true) : seenOf (ipS tos id fl ttl pr sr ds op d ++ beh) = lookAt pr sr ds ttl d := by
  obtain ⟨h1, h2, h3⟩ := ipOk_parts h
  rw [ipS_yes h]
  exact seen_put htos hid httl hpr hsr hds h1 h2 (by omega)
theorem type_at (ty : Nat) (hty : ty < 256) : ∃ (m t2 : Nat), m = ty % 4 ∧ (t2 = 0 ∨ t2 = 8 ∨ t2 = 13 ∨ t2 = 14) ∧ ∀ W, (Instr.index 54 (.agg #[.int .u8 0, .int .u8 8, .int .u8 13, .int .u8 14]) (.int .u8 (m : Nat))).run Tryz.prog W = .ok (.int .u8 (t2 : Nat)) W := by
  have h : ty % 4 = 0 ∨ ty % 4 = 1 ∨ ty % 4 = 2 ∨ ty % 4 = 3 := by omega
  rcases h with h | h | h | h
  · exact ⟨0, 0, h.symm, by omega, fun W => by kernel_rfl⟩
  · exact ⟨1, 8, h.symm, by omega, fun W => by kernel_rfl⟩
  · exact ⟨2, 13, h.symm, by omega, fun W => by kernel_rfl⟩
  · exact ⟨3, 14, h.symm, by omega, fun W => by kernel_rfl⟩
set_option maxHeartbeats 8000000 in
set_option maxRecDepth 100000 in
theorem ts_not (pr : Nat) (hpr : pr < 256) (tos id : Nat) (fl : Bool) (ttl : Nat) (pr0 sr0 ds0 : Int) (op : List UInt8) (sp0 dp0 : Int) (seq ack low fg win sum urg : Nat) (gop : List UInt8) (ty : Nat) (d : List UInt8) (sr sp ds dp : Nat) (beh : List UInt8) (htos : tos < 256) (hid : id < 65536) (httl : ttl < 256) (hseq : seq < 4294967296) (hack : ack < 4294967296) (hfg : fg < 256) (hwin : win < 65536) (hsum : sum < 65536) (hurg : urg < 65536) (hty : ty < 256) (hsr : sr < 4294967296) (hsp : sp < 65536) (hds : ds < 4294967296) (hdp : dp < 65536) (hl0 : op.length ≤ 9223372036854775807) (hl1 : gop.length ≤ 9223372036854775807) (hl2 : d.length ≤ 9223372036854775807) (hl3 : beh.length ≤ 9223372036854775807) (hB : tupB pr sp dp = false) (w : World) (ht : TbQ w) : Calls Tryz.prog 8 #[.agg #[.int .u8 (pr : Nat), .int .u32 (sr : Nat), .int .u16 (sp : Nat), .int .u32 (ds : Nat), .int .u16 (dp : Nat)], .agg #[.int .u8 (tos : Nat), .int .u16 (id : Nat), .bool fl, .int .u8 (ttl : Nat), .int .u8 pr0, .int .u32 sr0, .int .u32 ds0, str op, .int .u16 sp0, .int .u16 dp0, .int .u32 (seq : Nat), .int .u32 (ack : Nat), .int .u8 (low : Nat), .int .u8 (fg : Nat), .int .u16 (win : Nat), .int .u16 (sum : Nat), .int .u16 (urg : Nat), str gop, .int .u8 (ty : Nat), str d], str beh] w (Ret1 (.bool true) w) := by
  have KM := Lib.hid (fun W hW => tup_ok pr sr sp ds dp hpr W hW)
  rw [hB] at KM
  clear hB hl0 hl1 hl2 hl3
  go_enter Tryz.func8, Tryz.ntmps8
  have HN := Lib.hid (Fp.refl (fun _ => False) w)
  have HT := Lib.hid ht
  go_upto_region 1 with fail
  refine wp_gen (fun x1 hW => ?_)
  obtain ⟨hB, hB2, hp⟩ := new2_blk hW
  clear hW
  have hGe := hid_ge HN
  replace HN := hid_now HN hp
  obtain ⟨g4, hg4⟩ : ∃ g4, g4 = w.heap.size + 1 := ⟨_, rfl⟩
  obtain ⟨g3, hg3⟩ : ∃ g3, g3 = w.heap.size := ⟨_, rfl⟩
  have G_g3 := Lib.hid (show w.heap.size ≤ g3 by omega)
  have G_g4 := Lib.hid (show w.heap.size ≤ g4 by omega)
  have n_g3_g4 : ¬ g3 = g4 := by omega
  have n_g4_g3 : ¬ g4 = g3 := by omega
  rw [← hg4] at hB2 ⊢
  rw [← hg3] at hB ⊢
  have B_g3 := hB
  have B_g4 := hB2
  clear hB hB2 hg3 hg4 hGe hp
  have cg30 := cell_at B_g3 0 rfl
  have cg31 := cell_at B_g3 1 rfl
  have cg32 := cell_at B_g3 2 rfl
  have cg33 := cell_at B_g3 3 rfl
  have cg34 := cell_at B_g3 4 rfl
  have zg3 := froz_at B_g3
  have lg3 := hid_lt B_g3
  go_wp2_with fail
  clear cg30 cg31 cg32 cg33 cg34 zg3 lg3
  refine (show Calls _ _ _ _ _ from KM.out _ (HT.out.low HN.out).toP.base).mono ?_
  rintro e x2 ⟨rfl, hp⟩
  replace HN := hid_now HN hp
  replace B_g3 := hid_blk B_g3 hp
  replace B_g4 := hid_blk B_g4 hp
  clear hp
  go_wp2_with fail
  refine (show Calls _ _ _ _ _ from watched_ok _ (HT.out.low HN.out)).mono ?_
  rintro e x3 ⟨rfl, hp⟩
  replace HN := hid_now HN hp
  replace B_g3 := hid_blk B_g3 hp
  replace B_g4 := hid_blk B_g4 hp
  clear hp
  go_wp2_with fail
  go_ret
  exact ⟨rfl, HN.out⟩
set_option maxHeartbeats 8000000 in
set_option maxRecDepth 100000 in
theorem ts_long0 (pr : Nat) (hpr : pr < 256) (tos id : Nat) (fl : Bool) (ttl : Nat) (pr0 sr0 ds0 : Int) (op : List UInt8) (sp0 dp0 : Int) (seq ack low fg win sum urg : Nat) (gop : List UInt8) (ty : Nat) (d : List UInt8) (sr sp ds dp : Nat) (beh : List UInt8) (htos : tos < 256) (hid : id < 65536) (httl : ttl < 256) (hseq : seq < 4294967296) (hack : ack < 4294967296) (hfg : fg < 256) (hwin : win < 65536) (hsum : sum < 65536) (hurg : urg < 65536) (hty : ty < 256) (hsr : sr < 4294967296) (hsp : sp < 65536) (hds : ds < 4294967296) (hdp : dp < 65536) (hl0 : op.length ≤ 9223372036854775807) (hl1 : gop.length ≤ 9223372036854775807) (hl2 : d.length ≤ 9223372036854775807) (hl3 : beh.length ≤ 9223372036854775807) (hB : tupB pr sp dp = true) (h0 : 600 < op.length) (w : World) (ht : TbQ w) : Calls Tryz.prog 8 #[.agg #[.int .u8 (pr : Nat), .int .u32 (sr : Nat), .int .u16 (sp : Nat), .int .u32 (ds : Nat), .int .u16 (dp : Nat)], .agg #[.int .u8 (tos : Nat), .int .u16 (id : Nat), .bool fl, .int .u8 (ttl : Nat), .int .u8 pr0, .int .u32 sr0, .int .u32 ds0, str op, .int .u16 sp0, .int .u16 dp0, .int .u32 (seq : Nat), .int .u32 (ack : Nat), .int .u8 (low : Nat), .int .u8 (fg : Nat), .int .u16 (win : Nat), .int .u16 (sum : Nat), .int .u16 (urg : Nat), str gop, .int .u8 (ty : Nat), str d], str beh] w (Ret1 (.bool true) w) := by
  have KM := Lib.hid (fun W hW => tup_ok pr sr sp ds dp hpr W hW)
  rw [hB] at KM
  have e0 : decide ((600 : Int) < (op.length : Int)) = true := decide_eq_true (by omega)
  clear hB hl0 hl1 hl2 hl3 h0
  go_enter Tryz.func8, Tryz.ntmps8
  have HN := Lib.hid (Fp.refl (fun _ => False) w)
  have HT := Lib.hid ht
  go_upto_region 1 with fail
  refine wp_gen (fun x1 hW => ?_)
  obtain ⟨hB, hB2, hp⟩ := new2_blk hW
  clear hW
  have hGe := hid_ge HN
  replace HN := hid_now HN hp
  obtain ⟨g4, hg4⟩ : ∃ g4, g4 = w.heap.size + 1 := ⟨_, rfl⟩
  obtain ⟨g3, hg3⟩ : ∃ g3, g3 = w.heap.size := ⟨_, rfl⟩
  have G_g3 := Lib.hid (show w.heap.size ≤ g3 by omega)
  have G_g4 := Lib.hid (show w.heap.size ≤ g4 by omega)
  have n_g3_g4 : ¬ g3 = g4 := by omega
  have n_g4_g3 : ¬ g4 = g3 := by omega
  rw [← hg4] at hB2 ⊢
  rw [← hg3] at hB ⊢
  have B_g3 := hB
  have B_g4 := hB2
  clear hB hB2 hg3 hg4 hGe hp
  have cg30 := cell_at B_g3 0 rfl
  have cg31 := cell_at B_g3 1 rfl
  have cg32 := cell_at B_g3 2 rfl
  have cg33 := cell_at B_g3 3 rfl
  have cg34 := cell_at B_g3 4 rfl
  have zg3 := froz_at B_g3
  have lg3 := hid_lt B_g3
  go_wp2_with fail
  clear cg30 cg31 cg32 cg33 cg34 zg3 lg3
  refine (show Calls _ _ _ _ _ from KM.out _ (HT.out.low HN.out).toP.base).mono ?_
  rintro e x2 ⟨rfl, hp⟩
  replace HN := hid_now HN hp
  replace B_g3 := hid_blk B_g3 hp
  replace B_g4 := hid_blk B_g4 hp
  clear hp
  have cg40 := cell_at B_g4 0 rfl
  have cg41 := cell_at B_g4 1 rfl
  have cg42 := cell_at B_g4 2 rfl
  have cg43 := cell_at B_g4 3 rfl
  have cg44 := cell_at B_g4 4 rfl
  have cg45 := cell_at B_g4 5 rfl
  have cg46 := cell_at B_g4 6 rfl
  have cg47 := cell_at B_g4 7 rfl
  have cg48 := cell_at B_g4 8 rfl
  have cg49 := cell_at B_g4 9 rfl
  have cg410 := cell_at B_g4 10 rfl
  have cg411 := cell_at B_g4 11 rfl
  have cg412 := cell_at B_g4 12 rfl
  have cg413 := cell_at B_g4 13 rfl
  have cg414 := cell_at B_g4 14 rfl
  have cg415 := cell_at B_g4 15 rfl
  have cg416 := cell_at B_g4 16 rfl
  have cg417 := cell_at B_g4 17 rfl
  have cg418 := cell_at B_g4 18 rfl
  have cg419 := cell_at B_g4 19 rfl
  have zg4 := froz_at B_g4
  have lg4 := hid_lt B_g4
  go_wp2_with fail
  clear cg40 cg41 cg42 cg43 cg44 cg45 cg46 cg47 cg48 cg49 cg410 cg411 cg412 cg413 cg414 cg415 cg416 cg417 cg418 cg419 zg4 lg4
  refine (show Calls _ _ _ _ _ from watched_ok _ (HT.out.low HN.out)).mono ?_
  rintro e x3 ⟨rfl, hp⟩
  replace HN := hid_now HN hp
  replace B_g3 := hid_blk B_g3 hp
  replace B_g4 := hid_blk B_g4 hp
  clear hp
  go_wp2_with fail
  go_ret
  exact ⟨rfl, HN.out⟩
set_option maxHeartbeats 8000000 in
set_option maxRecDepth 100000 in
theorem ts_long1 (pr : Nat) (hpr : pr < 256) (tos id : Nat) (fl : Bool) (ttl : Nat) (pr0 sr0 ds0 : Int) (op : List UInt8) (sp0 dp0 : Int) (seq ack low fg win sum urg : Nat) (gop : List UInt8) (ty : Nat) (d : List UInt8) (sr sp ds dp : Nat) (beh : List UInt8) (htos : tos < 256) (hid : id < 65536) (httl : ttl < 256) (hseq : seq < 4294967296) (hack : ack < 4294967296) (hfg : fg < 256) (hwin : win < 65536) (hsum : sum < 65536) (hurg : urg < 65536) (hty : ty < 256) (hsr : sr < 4294967296) (hsp : sp < 65536) (hds : ds < 4294967296) (hdp : dp < 65536) (hl0 : op.length ≤ 9223372036854775807) (hl1 : gop.length ≤ 9223372036854775807) (hl2 : d.length ≤ 9223372036854775807) (hl3 : beh.length ≤ 9223372036854775807) (hB : tupB pr sp dp = true) (h0 : op.length ≤ 600) (h1 : 600 < gop.length) (w : World) (ht : TbQ w) : Calls Tryz.prog 8 #[.agg #[.int .u8 (pr : Nat), .int .u32 (sr : Nat), .int .u16 (sp : Nat), .int .u32 (ds : Nat), .int .u16 (dp : Nat)], .agg #[.int .u8 (tos : Nat), .int .u16 (id : Nat), .bool fl, .int .u8 (ttl : Nat), .int .u8 pr0, .int .u32 sr0, .int .u32 ds0, str op, .int .u16 sp0, .int .u16 dp0, .int .u32 (seq : Nat), .int .u32 (ack : Nat), .int .u8 (low : Nat), .int .u8 (fg : Nat), .int .u16 (win : Nat), .int .u16 (sum : Nat), .int .u16 (urg : Nat), str gop, .int .u8 (ty : Nat), str d], str beh] w (Ret1 (.bool true) w) := by
  have KM := Lib.hid (fun W hW => tup_ok pr sr sp ds dp hpr W hW)
  rw [hB] at KM
  have e0 : decide ((600 : Int) < (op.length : Int)) = false := decide_eq_false (by omega)
  have e1 : decide ((600 : Int) < (gop.length : Int)) = true := decide_eq_true (by omega)
  clear hB hl0 hl1 hl2 hl3 h0 h1
  go_enter Tryz.func8, Tryz.ntmps8
  have HN := Lib.hid (Fp.refl (fun _ => False) w)
  have HT := Lib.hid ht
  go_upto_region 1 with fail
  refine wp_gen (fun x1 hW => ?_)
  obtain ⟨hB, hB2, hp⟩ := new2_blk hW
  clear hW
  have hGe := hid_ge HN
  replace HN := hid_now HN hp
  obtain ⟨g4, hg4⟩ : ∃ g4, g4 = w.heap.size + 1 := ⟨_, rfl⟩
  obtain ⟨g3, hg3⟩ : ∃ g3, g3 = w.heap.size := ⟨_, rfl⟩
  have G_g3 := Lib.hid (show w.heap.size ≤ g3 by omega)
  have G_g4 := Lib.hid (show w.heap.size ≤ g4 by omega)
  have n_g3_g4 : ¬ g3 = g4 := by omega
  have n_g4_g3 : ¬ g4 = g3 := by omega
  rw [← hg4] at hB2 ⊢
  rw [← hg3] at hB ⊢
  have B_g3 := hB
  have B_g4 := hB2
  clear hB hB2 hg3 hg4 hGe hp
  have cg30 := cell_at B_g3 0 rfl
  have cg31 := cell_at B_g3 1 rfl
  have cg32 := cell_at B_g3 2 rfl
  have cg33 := cell_at B_g3 3 rfl
  have cg34 := cell_at B_g3 4 rfl
  have zg3 := froz_at B_g3
  have lg3 := hid_lt B_g3
  go_wp2_with fail
  clear cg30 cg31 cg32 cg33 cg34 zg3 lg3
  refine (show Calls _ _ _ _ _ from KM.out _ (HT.out.low HN.out).toP.base).mono ?_
  rintro e x2 ⟨rfl, hp⟩
  replace HN := hid_now HN hp
  replace B_g3 := hid_blk B_g3 hp
  replace B_g4 := hid_blk B_g4 hp
  clear hp
  have cg40 := cell_at B_g4 0 rfl
  have cg41 := cell_at B_g4 1 rfl
  have cg42 := cell_at B_g4 2 rfl
  have cg43 := cell_at B_g4 3 rfl
  have cg44 := cell_at B_g4 4 rfl
  have cg45 := cell_at B_g4 5 rfl
  have cg46 := cell_at B_g4 6 rfl
  have cg47 := cell_at B_g4 7 rfl
  have cg48 := cell_at B_g4 8 rfl
  have cg49 := cell_at B_g4 9 rfl
  have cg410 := cell_at B_g4 10 rfl
  have cg411 := cell_at B_g4 11 rfl
  have cg412 := cell_at B_g4 12 rfl
  have cg413 := cell_at B_g4 13 rfl
  have cg414 := cell_at B_g4 14 rfl
  have cg415 := cell_at B_g4 15 rfl
  have cg416 := cell_at B_g4 16 rfl
  have cg417 := cell_at B_g4 17 rfl
  have cg418 := cell_at B_g4 18 rfl
  have cg419 := cell_at B_g4 19 rfl
  have zg4 := froz_at B_g4
  have lg4 := hid_lt B_g4
  go_wp2_with fail
  clear cg40 cg41 cg42 cg43 cg44 cg45 cg46 cg47 cg48 cg49 cg410 cg411 cg412 cg413 cg414 cg415 cg416 cg417 cg418 cg419 zg4 lg4
  refine (show Calls _ _ _ _ _ from watched_ok _ (HT.out.low HN.out)).mono ?_
  rintro e x3 ⟨rfl, hp⟩
  replace HN := hid_now HN hp
  replace B_g3 := hid_blk B_g3 hp
  replace B_g4 := hid_blk B_g4 hp
  clear hp
  go_wp2_with fail
  go_ret
  exact ⟨rfl, HN.out⟩
set_option maxHeartbeats 8000000 in
set_option maxRecDepth 100000 in
theorem ts_long2 (pr : Nat) (hpr : pr < 256) (tos id : Nat) (fl : Bool) (ttl : Nat) (pr0 sr0 ds0 : Int) (op : List UInt8) (sp0 dp0 : Int) (seq ack low fg win sum urg : Nat) (gop : List UInt8) (ty : Nat) (d : List UInt8) (sr sp ds dp : Nat) (beh : List UInt8) (htos : tos < 256) (hid : id < 65536) (httl : ttl < 256) (hseq : seq < 4294967296) (hack : ack < 4294967296) (hfg : fg < 256) (hwin : win < 65536) (hsum : sum < 65536) (hurg : urg < 65536) (hty : ty < 256) (hsr : sr < 4294967296) (hsp : sp < 65536) (hds : ds < 4294967296) (hdp : dp < 65536) (hl0 : op.length ≤ 9223372036854775807) (hl1 : gop.length ≤ 9223372036854775807) (hl2 : d.length ≤ 9223372036854775807) (hl3 : beh.length ≤ 9223372036854775807) (hB : tupB pr sp dp = true) (h0 : op.length ≤ 600) (h1 : gop.length ≤ 600) (h2 : 600 < d.length) (w : World) (ht : TbQ w) : Calls Tryz.prog 8 #[.agg #[.int .u8 (pr : Nat), .int .u32 (sr : Nat), .int .u16 (sp : Nat), .int .u32 (ds : Nat), .int .u16 (dp : Nat)], .agg #[.int .u8 (tos : Nat), .int .u16 (id : Nat), .bool fl, .int .u8 (ttl : Nat), .int .u8 pr0, .int .u32 sr0, .int .u32 ds0, str op, .int .u16 sp0, .int .u16 dp0, .int .u32 (seq : Nat), .int .u32 (ack : Nat), .int .u8 (low : Nat), .int .u8 (fg : Nat), .int .u16 (win : Nat), .int .u16 (sum : Nat), .int .u16 (urg : Nat), str gop, .int .u8 (ty : Nat), str d], str beh] w (Ret1 (.bool true) w) := by
  have KM := Lib.hid (fun W hW => tup_ok pr sr sp ds dp hpr W hW)
  rw [hB] at KM
  have e0 : decide ((600 : Int) < (op.length : Int)) = false := decide_eq_false (by omega)
  have e1 : decide ((600 : Int) < (gop.length : Int)) = false := decide_eq_false (by omega)
  have e2 : decide ((600 : Int) < (d.length : Int)) = true := decide_eq_true (by omega)
  clear hB hl0 hl1 hl2 hl3 h0 h1 h2
  go_enter Tryz.func8, Tryz.ntmps8
  have HN := Lib.hid (Fp.refl (fun _ => False) w)
  have HT := Lib.hid ht
  go_upto_region 1 with fail
  refine wp_gen (fun x1 hW => ?_)
  obtain ⟨hB, hB2, hp⟩ := new2_blk hW
  clear hW
  have hGe := hid_ge HN
  replace HN := hid_now HN hp
  obtain ⟨g4, hg4⟩ : ∃ g4, g4 = w.heap.size + 1 := ⟨_, rfl⟩
  obtain ⟨g3, hg3⟩ : ∃ g3, g3 = w.heap.size := ⟨_, rfl⟩
  have G_g3 := Lib.hid (show w.heap.size ≤ g3 by omega)
  have G_g4 := Lib.hid (show w.heap.size ≤ g4 by omega)
  have n_g3_g4 : ¬ g3 = g4 := by omega
  have n_g4_g3 : ¬ g4 = g3 := by omega
  rw [← hg4] at hB2 ⊢
  rw [← hg3] at hB ⊢
  have B_g3 := hB
  have B_g4 := hB2
  clear hB hB2 hg3 hg4 hGe hp
  have cg30 := cell_at B_g3 0 rfl
  have cg31 := cell_at B_g3 1 rfl
  have cg32 := cell_at B_g3 2 rfl
  have cg33 := cell_at B_g3 3 rfl
  have cg34 := cell_at B_g3 4 rfl
  have zg3 := froz_at B_g3
  have lg3 := hid_lt B_g3
  go_wp2_with fail
  clear cg30 cg31 cg32 cg33 cg34 zg3 lg3
  refine (show Calls _ _ _ _ _ from KM.out _ (HT.out.low HN.out).toP.base).mono ?_
  rintro e x2 ⟨rfl, hp⟩
  replace HN := hid_now HN hp
  replace B_g3 := hid_blk B_g3 hp
  replace B_g4 := hid_blk B_g4 hp
  clear hp
  have cg40 := cell_at B_g4 0 rfl
  have cg41 := cell_at B_g4 1 rfl
  have cg42 := cell_at B_g4 2 rfl
  have cg43 := cell_at B_g4 3 rfl
  have cg44 := cell_at B_g4 4 rfl
  have cg45 := cell_at B_g4 5 rfl
  have cg46 := cell_at B_g4 6 rfl
  have cg47 := cell_at B_g4 7 rfl
  have cg48 := cell_at B_g4 8 rfl
  have cg49 := cell_at B_g4 9 rfl
  have cg410 := cell_at B_g4 10 rfl
  have cg411 := cell_at B_g4 11 rfl
  have cg412 := cell_at B_g4 12 rfl
  have cg413 := cell_at B_g4 13 rfl
  have cg414 := cell_at B_g4 14 rfl
  have cg415 := cell_at B_g4 15 rfl
  have cg416 := cell_at B_g4 16 rfl
  have cg417 := cell_at B_g4 17 rfl
  have cg418 := cell_at B_g4 18 rfl
  have cg419 := cell_at B_g4 19 rfl
  have zg4 := froz_at B_g4
  have lg4 := hid_lt B_g4
  go_wp2_with fail
  clear cg40 cg41 cg42 cg43 cg44 cg45 cg46 cg47 cg48 cg49 cg410 cg411 cg412 cg413 cg414 cg415 cg416 cg417 cg418 cg419 zg4 lg4
  refine (show Calls _ _ _ _ _ from watched_ok _ (HT.out.low HN.out)).mono ?_
  rintro e x3 ⟨rfl, hp⟩
  replace HN := hid_now HN hp
  replace B_g3 := hid_blk B_g3 hp
  replace B_g4 := hid_blk B_g4 hp
  clear hp
  go_wp2_with fail
  go_ret
  exact ⟨rfl, HN.out⟩
set_option maxHeartbeats 8000000 in
set_option maxRecDepth 100000 in
theorem ts_long3 (pr : Nat) (hpr : pr < 256) (tos id : Nat) (fl : Bool) (ttl : Nat) (pr0 sr0 ds0 : Int) (op : List UInt8) (sp0 dp0 : Int) (seq ack low fg win sum urg : Nat) (gop : List UInt8) (ty : Nat) (d : List UInt8) (sr sp ds dp : Nat) (beh : List UInt8) (htos : tos < 256) (hid : id < 65536) (httl : ttl < 256) (hseq : seq < 4294967296) (hack : ack < 4294967296) (hfg : fg < 256) (hwin : win < 65536) (hsum : sum < 65536) (hurg : urg < 65536) (hty : ty < 256) (hsr : sr < 4294967296) (hsp : sp < 65536) (hds : ds < 4294967296) (hdp : dp < 65536) (hl0 : op.length ≤ 9223372036854775807) (hl1 : gop.length ≤ 9223372036854775807) (hl2 : d.length ≤ 9223372036854775807) (hl3 : beh.length ≤ 9223372036854775807) (hB : tupB pr sp dp = true) (h0 : op.length ≤ 600) (h1 : gop.length ≤ 600) (h2 : d.length ≤ 600) (h3 : 100 < beh.length) (w : World) (ht : TbQ w) : Calls Tryz.prog 8 #[.agg #[.int .u8 (pr : Nat), .int .u32 (sr : Nat), .int .u16 (sp : Nat), .int .u32 (ds : Nat), .int .u16 (dp : Nat)], .agg #[.int .u8 (tos : Nat), .int .u16 (id : Nat), .bool fl, .int .u8 (ttl : Nat), .int .u8 pr0, .int .u32 sr0, .int .u32 ds0, str op, .int .u16 sp0, .int .u16 dp0, .int .u32 (seq : Nat), .int .u32 (ack : Nat), .int .u8 (low : Nat), .int .u8 (fg : Nat), .int .u16 (win : Nat), .int .u16 (sum : Nat), .int .u16 (urg : Nat), str gop, .int .u8 (ty : Nat), str d], str beh] w (Ret1 (.bool true) w) := by
  have KM := Lib.hid (fun W hW => tup_ok pr sr sp ds dp hpr W hW)
  rw [hB] at KM
  have e0 : decide ((600 : Int) < (op.length : Int)) = false := decide_eq_false (by omega)
  have e1 : decide ((600 : Int) < (gop.length : Int)) = false := decide_eq_false (by omega)
  have e2 : decide ((600 : Int) < (d.length : Int)) = false := decide_eq_false (by omega)
  have e3 : decide ((100 : Int) < (beh.length : Int)) = true := decide_eq_true (by omega)
  clear hB hl0 hl1 hl2 hl3 h0 h1 h2 h3
  go_enter Tryz.func8, Tryz.ntmps8
  have HN := Lib.hid (Fp.refl (fun _ => False) w)
  have HT := Lib.hid ht
  go_upto_region 1 with fail
  refine wp_gen (fun x1 hW => ?_)
  obtain ⟨hB, hB2, hp⟩ := new2_blk hW
  clear hW
  have hGe := hid_ge HN
  replace HN := hid_now HN hp
  obtain ⟨g4, hg4⟩ : ∃ g4, g4 = w.heap.size + 1 := ⟨_, rfl⟩
  obtain ⟨g3, hg3⟩ : ∃ g3, g3 = w.heap.size := ⟨_, rfl⟩
  have G_g3 := Lib.hid (show w.heap.size ≤ g3 by omega)
  have G_g4 := Lib.hid (show w.heap.size ≤ g4 by omega)
  have n_g3_g4 : ¬ g3 = g4 := by omega
  have n_g4_g3 : ¬ g4 = g3 := by omega
  rw [← hg4] at hB2 ⊢
  rw [← hg3] at hB ⊢
  have B_g3 := hB
  have B_g4 := hB2
  clear hB hB2 hg3 hg4 hGe hp
  have cg30 := cell_at B_g3 0 rfl
  have cg31 := cell_at B_g3 1 rfl
  have cg32 := cell_at B_g3 2 rfl
  have cg33 := cell_at B_g3 3 rfl
  have cg34 := cell_at B_g3 4 rfl
  have zg3 := froz_at B_g3
  have lg3 := hid_lt B_g3
  go_wp2_with fail
  clear cg30 cg31 cg32 cg33 cg34 zg3 lg3
  refine (show Calls _ _ _ _ _ from KM.out _ (HT.out.low HN.out).toP.base).mono ?_
  rintro e x2 ⟨rfl, hp⟩
  replace HN := hid_now HN hp
  replace B_g3 := hid_blk B_g3 hp
  replace B_g4 := hid_blk B_g4 hp
  clear hp
  have cg40 := cell_at B_g4 0 rfl
  have cg41 := cell_at B_g4 1 rfl
  have cg42 := cell_at B_g4 2 rfl
  have cg43 := cell_at B_g4 3 rfl
  have cg44 := cell_at B_g4 4 rfl
  have cg45 := cell_at B_g4 5 rfl
  have cg46 := cell_at B_g4 6 rfl
  have cg47 := cell_at B_g4 7 rfl
  have cg48 := cell_at B_g4 8 rfl
  have cg49 := cell_at B_g4 9 rfl
  have cg410 := cell_at B_g4 10 rfl
  have cg411 := cell_at B_g4 11 rfl
  have cg412 := cell_at B_g4 12 rfl
  have cg413 := cell_at B_g4 13 rfl
  have cg414 := cell_at B_g4 14 rfl
  have cg415 := cell_at B_g4 15 rfl
  have cg416 := cell_at B_g4 16 rfl
  have cg417 := cell_at B_g4 17 rfl
  have cg418 := cell_at B_g4 18 rfl
  have cg419 := cell_at B_g4 19 rfl
  have zg4 := froz_at B_g4
  have lg4 := hid_lt B_g4
  go_wp2_with fail
  clear cg40 cg41 cg42 cg43 cg44 cg45 cg46 cg47 cg48 cg49 cg410 cg411 cg412 cg413 cg414 cg415 cg416 cg417 cg418 cg419 zg4 lg4
  refine (show Calls _ _ _ _ _ from watched_ok _ (HT.out.low HN.out)).mono ?_
  rintro e x3 ⟨rfl, hp⟩
  replace HN := hid_now HN hp
  replace B_g3 := hid_blk B_g3 hp
  replace B_g4 := hid_blk B_g4 hp
  clear hp
  go_wp2_with fail
  go_ret
  exact ⟨rfl, HN.out⟩
end Go.Proofs.YtmghjaoodnkjlaaGreatDoor
