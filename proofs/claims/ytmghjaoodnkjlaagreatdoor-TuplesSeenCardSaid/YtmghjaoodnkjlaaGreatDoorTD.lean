/- Chapter 08: the program's tcp.Put (written by gen8d.py). -/
import Derived.Test.YtmghjaoodnkjlaaGreatDoorTC
namespace Go.Proofs.YtmghjaoodnkjlaaGreatDoor
set_option linter.unusedVariables false
set_option linter.unusedSimpArgs false
open Go.RowKit Go.Lib Go.Sort
theorem orb12 {a b : Nat} (ha : a < 16) (hb : b < 16) : bits .or .u16 ((a * 4096 : Nat) : Int) ((b * 256 : Nat) : Int) = ((a * 4096 + b * 256 : Nat) : Int) := by
  rw [u16_or_nat _ _ (by omega) (by omega)]
  have h := Nat.shiftLeft_add_eq_or_of_lt (show b * 256 < 2 ^ 12 by omega) a
  rw [Nat.shiftLeft_eq] at h
  have e : (2 : Nat) ^ 12 = 4096 := rfl
  rw [e] at h
  rw [← h]
set_option maxHeartbeats 8000000 in
set_option maxRecDepth 100000 in
theorem tcp_put_opts (sp dp seq ack low fg win sum urg : Nat) (op d : List UInt8) (hop : op.length ≤ 1000000) (h : 40 < op.length) (w : World) : Calls Tryz.prog 45 #[.agg #[.int .u16 (sp : Nat), .int .u16 (dp : Nat), .int .u32 (seq : Nat), .int .u32 (ack : Nat), .int .u8 (low : Nat), .int .u8 (fg : Nat), .int .u16 (win : Nat), .int .u16 (sum : Nat), .int .u16 (urg : Nat), str op], str d] w (Ret1 (.tuple #[.string ⟨#[]⟩, .int .i64 2]) w) := by
  have c0 : IntKind.i64.wrap (20 + (op.length : Int)) = 20 + (op.length : Int) := IntWalk.i64_in _ (by omega)
  have d0 : decide ((40 : Int) < (op.length : Int)) = true := decide_eq_true (by omega)
  go_enter Tryz.func45, Tryz.ntmps45
  have HN := Lib.hid (Fp.refl (fun _ => False) w)
  go_upto_region 1 with fail
  refine wp_gen (fun x1 hW => ?_)
  have hp := new_now hW
  have hB := new_blk hW
  clear hW
  have hGe := hid_ge HN
  replace HN := hid_now HN hp
  obtain ⟨g2, hg2⟩ : ∃ g2, g2 = w.heap.size := ⟨_, rfl⟩
  have G_g2 := Lib.hid (Nat.le_trans hGe (Nat.le_of_eq hg2.symm))
  rw [← hg2] at hB ⊢
  have B_g2 := hB
  clear hB hGe hg2
  clear hp
  have cg20 := cell_at B_g2 0 rfl
  have cg21 := cell_at B_g2 1 rfl
  have cg22 := cell_at B_g2 2 rfl
  have cg23 := cell_at B_g2 3 rfl
  have cg24 := cell_at B_g2 4 rfl
  have cg25 := cell_at B_g2 5 rfl
  have cg26 := cell_at B_g2 6 rfl
  have cg27 := cell_at B_g2 7 rfl
  have cg28 := cell_at B_g2 8 rfl
  have cg29 := cell_at B_g2 9 rfl
  have zg2 := froz_at B_g2
  have lg2 := hid_lt B_g2
  go_wp2_with fail
  clear cg20 cg21 cg22 cg23 cg24 cg25 cg26 cg27 cg28 cg29 zg2 lg2
  go_ret2
  exact ⟨rfl, HN.out⟩
set_option maxHeartbeats 8000000 in
set_option maxRecDepth 100000 in
theorem tcp_put_opts4 (sp dp seq ack low fg win sum urg : Nat) (op d : List UInt8) (hop : op.length ≤ 1000000) (h40 : op.length ≤ 40) (h : op.length % 4 ≠ 0) (w : World) : Calls Tryz.prog 45 #[.agg #[.int .u16 (sp : Nat), .int .u16 (dp : Nat), .int .u32 (seq : Nat), .int .u32 (ack : Nat), .int .u8 (low : Nat), .int .u8 (fg : Nat), .int .u16 (win : Nat), .int .u16 (sum : Nat), .int .u16 (urg : Nat), str op], str d] w (Ret1 (.tuple #[.string ⟨#[]⟩, .int .i64 2]) w) := by
  have c0 : IntKind.i64.wrap (20 + (op.length : Int)) = 20 + (op.length : Int) := IntWalk.i64_in _ (by omega)
  have d0 : decide ((40 : Int) < (op.length : Int)) = false := decide_eq_false (by omega)
  obtain ⟨m, hm⟩ : ∃ m, m = op.length % 4 := ⟨_, rfl⟩
  have c1 : (20 + (op.length : Int)) % 4 = (m : Int) := by omega
  have c1' : (20 + (op.length : Int)).tmod 4 = (m : Int) := by rw [Int.tmod_eq_emod_of_nonneg (by omega)]; omega
  have d1 : ((m : Int) != 0) = true := by simp [bne]; omega
  clear hm
  go_enter Tryz.func45, Tryz.ntmps45
  have HN := Lib.hid (Fp.refl (fun _ => False) w)
  go_upto_region 1 with fail
  refine wp_gen (fun x1 hW => ?_)
  have hp := new_now hW
  have hB := new_blk hW
  clear hW
  have hGe := hid_ge HN
  replace HN := hid_now HN hp
  obtain ⟨g2, hg2⟩ : ∃ g2, g2 = w.heap.size := ⟨_, rfl⟩
  have G_g2 := Lib.hid (Nat.le_trans hGe (Nat.le_of_eq hg2.symm))
  rw [← hg2] at hB ⊢
  have B_g2 := hB
  clear hB hGe hg2
  clear hp
  have cg20 := cell_at B_g2 0 rfl
  have cg21 := cell_at B_g2 1 rfl
  have cg22 := cell_at B_g2 2 rfl
  have cg23 := cell_at B_g2 3 rfl
  have cg24 := cell_at B_g2 4 rfl
  have cg25 := cell_at B_g2 5 rfl
  have cg26 := cell_at B_g2 6 rfl
  have cg27 := cell_at B_g2 7 rfl
  have cg28 := cell_at B_g2 8 rfl
  have cg29 := cell_at B_g2 9 rfl
  have zg2 := froz_at B_g2
  have lg2 := hid_lt B_g2
  go_wp2_with fail
  clear cg20 cg21 cg22 cg23 cg24 cg25 cg26 cg27 cg28 cg29 zg2 lg2
  go_ret2
  exact ⟨rfl, HN.out⟩
set_option maxHeartbeats 8000000 in
set_option maxRecDepth 100000 in
theorem tcp_put_low (sp dp seq ack low fg win sum urg : Nat) (op d : List UInt8) (hop : op.length ≤ 1000000) (h40 : op.length ≤ 40) (h4 : op.length % 4 = 0) (h : 15 < low) (w : World) : Calls Tryz.prog 45 #[.agg #[.int .u16 (sp : Nat), .int .u16 (dp : Nat), .int .u32 (seq : Nat), .int .u32 (ack : Nat), .int .u8 (low : Nat), .int .u8 (fg : Nat), .int .u16 (win : Nat), .int .u16 (sum : Nat), .int .u16 (urg : Nat), str op], str d] w (Ret1 (.tuple #[.string ⟨#[]⟩, .int .i64 2]) w) := by
  have c0 : IntKind.i64.wrap (20 + (op.length : Int)) = 20 + (op.length : Int) := IntWalk.i64_in _ (by omega)
  have d0 : decide ((40 : Int) < (op.length : Int)) = false := decide_eq_false (by omega)
  obtain ⟨m, hm⟩ : ∃ m, m = op.length % 4 := ⟨_, rfl⟩
  have c1 : (20 + (op.length : Int)) % 4 = (m : Int) := by omega
  have c1' : (20 + (op.length : Int)).tmod 4 = (m : Int) := by rw [Int.tmod_eq_emod_of_nonneg (by omega)]; omega
  have d1 : ((m : Int) != 0) = false := by rw [show m = 0 by omega]; rfl
  clear hm
  have d2 : decide ((15 : Int) < (low : Int)) = true := decide_eq_true (by omega)
  go_enter Tryz.func45, Tryz.ntmps45
  have HN := Lib.hid (Fp.refl (fun _ => False) w)
  go_upto_region 1 with fail
  refine wp_gen (fun x1 hW => ?_)
  have hp := new_now hW
  have hB := new_blk hW
  clear hW
  have hGe := hid_ge HN
  replace HN := hid_now HN hp
  obtain ⟨g2, hg2⟩ : ∃ g2, g2 = w.heap.size := ⟨_, rfl⟩
  have G_g2 := Lib.hid (Nat.le_trans hGe (Nat.le_of_eq hg2.symm))
  rw [← hg2] at hB ⊢
  have B_g2 := hB
  clear hB hGe hg2
  clear hp
  have cg20 := cell_at B_g2 0 rfl
  have cg21 := cell_at B_g2 1 rfl
  have cg22 := cell_at B_g2 2 rfl
  have cg23 := cell_at B_g2 3 rfl
  have cg24 := cell_at B_g2 4 rfl
  have cg25 := cell_at B_g2 5 rfl
  have cg26 := cell_at B_g2 6 rfl
  have cg27 := cell_at B_g2 7 rfl
  have cg28 := cell_at B_g2 8 rfl
  have cg29 := cell_at B_g2 9 rfl
  have zg2 := froz_at B_g2
  have lg2 := hid_lt B_g2
  go_wp2_with fail
  clear cg20 cg21 cg22 cg23 cg24 cg25 cg26 cg27 cg28 cg29 zg2 lg2
  go_ret2
  exact ⟨rfl, HN.out⟩
set_option maxHeartbeats 8000000 in
set_option maxRecDepth 100000 in
theorem tcp_put_ok (sp dp seq ack low fg win sum urg : Nat) (op d : List UInt8) (hsp : sp < 65536) (hdp : dp < 65536) (hseq : seq < 4294967296) (hack : ack < 4294967296) (hlow : low ≤ 15) (hfg : fg < 256) (hwin : win < 65536) (hsum : sum < 65536) (hurg : urg < 65536) (h40 : op.length ≤ 40) (h4 : op.length % 4 = 0) (hd : d.length ≤ 1000) (w : World) :
    Calls Tryz.prog 45 #[.agg #[.int .u16 (sp : Nat), .int .u16 (dp : Nat), .int .u32 (seq : Nat), .int .u32 (ack : Nat), .int .u8 (low : Nat), .int .u8 (fg : Nat), .int .u16 (win : Nat), .int .u16 (sum : Nat), .int .u16 (urg : Nat), str op], str d] w (Ret1 (.tuple #[str (tcpPutL sp dp seq ack low fg win sum urg op d), .int .i64 0]) w) := by
  have c0 : IntKind.i64.wrap (20 + (op.length : Int)) = 20 + (op.length : Int) := IntWalk.i64_in _ (by omega)
  have d0 : decide ((40 : Int) < (op.length : Int)) = false := decide_eq_false (by omega)
  have d2 : decide ((15 : Int) < (low : Int)) = false := decide_eq_false (by omega)
  obtain ⟨m, hm⟩ : ∃ m, m = op.length % 4 := ⟨_, rfl⟩
  have c1 : (20 + (op.length : Int)) % 4 = (m : Int) := by omega
  have c1' : (20 + (op.length : Int)).tmod 4 = (m : Int) := by rw [Int.tmod_eq_emod_of_nonneg (by omega)]; omega
  have d1 : ((m : Int) != 0) = false := by rw [show m = 0 by omega]; rfl
  clear hm
  obtain ⟨q, hq⟩ : ∃ q, q = (20 + op.length) / 4 := ⟨_, rfl⟩
  have hq15 : q < 16 := by omega
  have c2 : (20 + (op.length : Int)) / 4 = (q : Int) := by omega
  have c2' : (20 + (op.length : Int)).tdiv 4 = (q : Int) := by rw [Int.tdiv_eq_ediv_of_nonneg (by omega)]; omega
  have c3 : IntKind.u16.wrap (q : Int) = (q : Int) := IntWalk.u16_in _ (by omega)
  have c4 : IntKind.u16.wrap ((q : Int) * 4096) = ((q * 4096 : Nat) : Int) := (IntWalk.u16_in _ (by omega)).trans (by omega)
  have c4' : ((q : Int) * 4096) = ((q * 4096 : Nat) : Int) := by omega
  have c5 : IntKind.u16.wrap (low : Int) = (low : Int) := IntWalk.u16_in _ (by omega)
  have c6 : IntKind.u16.wrap ((low : Int) * 256) = ((low * 256 : Nat) : Int) := (IntWalk.u16_in _ (by omega)).trans (by omega)
  have c6' : ((low : Int) * 256) = ((low * 256 : Nat) : Int) := by omega
  have c7 := orb12 (a := q) (b := low) hq15 (by omega)
  have c8 : IntKind.u16.wrap (fg : Int) = (fg : Int) := IntWalk.u16_in _ (by omega)
  obtain ⟨off, hoff⟩ : ∃ off, off = q * 4096 + low * 256 + fg := ⟨_, rfl⟩
  have c9 : bits .or .u16 ((q * 4096 + low * 256 : Nat) : Int) (fg : Nat) = (off : Int) := by have h := orb8 (a := q * 16 + low) (b := fg) (by omega) hfg; rw [show (q * 16 + low) * 256 = q * 4096 + low * 256 by omega] at h; rw [h, hoff]
  have ho65 : off < 65536 := by omega
  have hfin : tcpPutL sp dp seq ack low fg win sum urg op d = wordsB [sp, dp] ++ b32 seq ++ b32 ack ++ wordsB [off, win, sum, urg] ++ op ++ d := by rw [hoff, hq]; simp [tcpPutL, wordsB]
  rw [hfin]
  have KW := Lib.hid (fun g c W T fr hb => @wordP g c [sp, dp] (by simp; omega) (by simp) W T fr hb)
  have KV := Lib.hid (fun g c W T fr hb => @wordP g c [off, win, sum, urg] (by simp; omega) (by simp) W T fr hb)
  have K1 := Lib.hid (fun W => put32_ok seq hseq W)
  have K2 := Lib.hid (fun W => put32_ok ack hack W)
  have lw : (wordsB [sp, dp]).length = 4 := by rw [wordsB_len]; rfl
  have lv : (wordsB [off, win, sum, urg]).length = 8 := by rw [wordsB_len]; rfl
  have lb1 : (b32 seq).length = 4 := rfl
  have lb2 : (b32 ack).length = 4 := rfl
  obtain ⟨s1, hs1⟩ : ∃ s : List UInt8, s = wordsB [sp, dp] ++ b32 seq := ⟨_, rfl⟩
  have ls1 : s1.length ≤ 8 := by rw [hs1]; first | (simp [b16_len, wordsB_len, b32]; done) | (simp [b16_len, wordsB_len, b32]; omega)
  have as1 : ∀ W, (Op.stringOp .add ⟨(wordsB [sp, dp]).toArray⟩ ⟨(b32 seq).toArray⟩).run Tryz.prog W = .ok (str s1) W := fun W => by rw [hs1]; exact run_string_add_lists (P := Tryz.prog) W (wordsB [sp, dp]) (b32 seq) (by first | omega | (simp [b16_len, wordsB_len, b32]; done) | (simp [b16_len, wordsB_len, b32]; omega)) (by first | omega | (simp [b16_len, wordsB_len, b32]; done) | (simp [b16_len, wordsB_len, b32]; omega))
  obtain ⟨s2, hs2⟩ : ∃ s : List UInt8, s = s1 ++ b32 ack := ⟨_, rfl⟩
  have ls2 : s2.length ≤ 12 := by rw [hs2]; first | (simp [b16_len, wordsB_len, b32]; done) | (simp [b16_len, wordsB_len, b32]; omega)
  have as2 : ∀ W, (Op.stringOp .add ⟨(s1).toArray⟩ ⟨(b32 ack).toArray⟩).run Tryz.prog W = .ok (str s2) W := fun W => by rw [hs2]; exact run_string_add_lists (P := Tryz.prog) W (s1) (b32 ack) (by first | omega | (simp [b16_len, wordsB_len, b32]; done) | (simp [b16_len, wordsB_len, b32]; omega)) (by first | omega | (simp [b16_len, wordsB_len, b32]; done) | (simp [b16_len, wordsB_len, b32]; omega))
  obtain ⟨s3, hs3⟩ : ∃ s : List UInt8, s = s2 ++ wordsB [off, win, sum, urg] := ⟨_, rfl⟩
  have ls3 : s3.length ≤ 20 := by rw [hs3]; first | (simp [b16_len, wordsB_len, b32]; done) | (simp [b16_len, wordsB_len, b32]; omega)
  have as3 : ∀ W, (Op.stringOp .add ⟨(s2).toArray⟩ ⟨(wordsB [off, win, sum, urg]).toArray⟩).run Tryz.prog W = .ok (str s3) W := fun W => by rw [hs3]; exact run_string_add_lists (P := Tryz.prog) W (s2) (wordsB [off, win, sum, urg]) (by first | omega | (simp [b16_len, wordsB_len, b32]; done) | (simp [b16_len, wordsB_len, b32]; omega)) (by first | omega | (simp [b16_len, wordsB_len, b32]; done) | (simp [b16_len, wordsB_len, b32]; omega))
  obtain ⟨s4, hs4⟩ : ∃ s : List UInt8, s = s3 ++ op := ⟨_, rfl⟩
  have ls4 : s4.length ≤ 60 := by rw [hs4]; first | (simp [b16_len, wordsB_len, b32]; done) | (simp [b16_len, wordsB_len, b32]; omega)
  have as4 : ∀ W, (Op.stringOp .add ⟨(s3).toArray⟩ ⟨(op).toArray⟩).run Tryz.prog W = .ok (str s4) W := fun W => by rw [hs4]; exact run_string_add_lists (P := Tryz.prog) W (s3) (op) (by first | omega | (simp [b16_len, wordsB_len, b32]; done) | (simp [b16_len, wordsB_len, b32]; omega)) (by first | omega | (simp [b16_len, wordsB_len, b32]; done) | (simp [b16_len, wordsB_len, b32]; omega))
  obtain ⟨s5, hs5⟩ : ∃ s : List UInt8, s = s4 ++ d := ⟨_, rfl⟩
  have ls5 : s5.length ≤ 2000 := by rw [hs5]; first | (simp [b16_len, wordsB_len, b32]; done) | (simp [b16_len, wordsB_len, b32]; omega)
  have as5 : ∀ W, (Op.stringOp .add ⟨(s4).toArray⟩ ⟨(d).toArray⟩).run Tryz.prog W = .ok (str s5) W := fun W => by rw [hs5]; exact run_string_add_lists (P := Tryz.prog) W (s4) (d) (by first | omega | (simp [b16_len, wordsB_len, b32]; done) | (simp [b16_len, wordsB_len, b32]; omega)) (by first | omega | (simp [b16_len, wordsB_len, b32]; done) | (simp [b16_len, wordsB_len, b32]; omega))
  rw [← hs1, ← hs2, ← hs3, ← hs4, ← hs5]
  generalize q * 4096 + low * 256 = o1 at *
  generalize q * 4096 = o2 at *
  generalize low * 256 = o3 at *
  generalize wordsB [sp, dp] = y0 at *
  generalize wordsB [off, win, sum, urg] = y1 at *
  generalize b32 seq = y2 at *
  generalize b32 ack = y3 at *
  clear hfin hs1 hs2 hs3 hs4 hs5 ls1 ls2 ls3 ls4 ls5 hoff hq lw lv lb1 lb2 ho65 hq15 h4
  go_enter Tryz.func45, Tryz.ntmps45
  have HN := Lib.hid (Fp.refl (fun _ => False) w)
  go_upto_region 1 with fail
  refine wp_gen (fun x1 hW => ?_)
  have hp := new_now hW
  have hB := new_blk hW
  clear hW
  have hGe := hid_ge HN
  replace HN := hid_now HN hp
  obtain ⟨g2, hg2⟩ : ∃ g2, g2 = w.heap.size := ⟨_, rfl⟩
  have G_g2 := Lib.hid (Nat.le_trans hGe (Nat.le_of_eq hg2.symm))
  rw [← hg2] at hB ⊢
  have B_g2 := hB
  clear hB hGe hg2
  clear hp
  have cg20 := cell_at B_g2 0 rfl
  have cg21 := cell_at B_g2 1 rfl
  have cg22 := cell_at B_g2 2 rfl
  have cg23 := cell_at B_g2 3 rfl
  have cg24 := cell_at B_g2 4 rfl
  have cg25 := cell_at B_g2 5 rfl
  have cg26 := cell_at B_g2 6 rfl
  have cg27 := cell_at B_g2 7 rfl
  have cg28 := cell_at B_g2 8 rfl
  have cg29 := cell_at B_g2 9 rfl
  have zg2 := froz_at B_g2
  have lg2 := hid_lt B_g2
  go_upto_region 5 with fail
  refine wp_region_held_drew (S := fun wx => NoW x1 wx) (by kernel_rfl) (Fp.drew (Fp.refl _ _)) (fun hHeld0 => ?_)
  refine any_eq hHeld0 (fun x2 hW hHeld => ?_)
  clear hHeld0
  replace B_g2 := hid_blk B_g2 (noW_drew hW)
  clear hW
  (refine take_at 0 (some 40) rfl rfl (by kernel_rfl) (by kernel_rfl) (by kernel_rfl) (fun _ _ _ h => h) (v := ?_) (by kernel_rfl) ?_ (by assumption) ?_; rotate_left; (focus (intro wS hSw; skip; go_simp; try with_reducible rfl)); (try simp only [Act.put, List.setIfInBounds_toArray, List.set_cons_zero, List.set_cons_succ]))
  (refine take_at 1 (some 41) rfl rfl (by kernel_rfl) (by kernel_rfl) (by kernel_rfl) (fun _ _ _ h => h) (v := ?_) (by kernel_rfl) ?_ (by assumption) ?_; rotate_left; (focus (intro wS hSw; have hX := fun b o (h : b < _) => hSw.cell (p := ⟨b, o, none⟩) h (fun h => h); go_simp; try with_reducible rfl)); (try simp only [Act.put, List.setIfInBounds_toArray, List.set_cons_zero, List.set_cons_succ]))
  (refine take_at 2 (some 42) rfl rfl (by kernel_rfl) (by kernel_rfl) (by kernel_rfl) (fun _ _ _ h => h) (v := ?_) (by kernel_rfl) ?_ (by assumption) ?_; rotate_left; (focus (intro wS hSw; skip; go_simp; try with_reducible rfl)); (try simp only [Act.put, List.setIfInBounds_toArray, List.set_cons_zero, List.set_cons_succ]))
  (refine take_at 3 (some 43) rfl rfl (by kernel_rfl) (by kernel_rfl) (by kernel_rfl) (fun _ _ _ h => h) (v := ?_) (by kernel_rfl) ?_ (by assumption) ?_; rotate_left; (focus (intro wS hSw; have hX := fun b o (h : b < _) => hSw.cell (p := ⟨b, o, none⟩) h (fun h => h); go_simp; try with_reducible rfl)); (try simp only [Act.put, List.setIfInBounds_toArray, List.set_cons_zero, List.set_cons_succ]))
  (refine take_at 6 (some 46) rfl rfl (by kernel_rfl) (by kernel_rfl) (by kernel_rfl) (fun _ _ _ h => h) (v := ?_) (by kernel_rfl) ?_ (by assumption) ?_; rotate_left; (focus (intro wS hSw; skip; go_simp; try with_reducible rfl)); (try simp only [Act.put, List.setIfInBounds_toArray, List.set_cons_zero, List.set_cons_succ]))
  (refine take_at 7 (some 47) rfl rfl (by kernel_rfl) (by kernel_rfl) (by kernel_rfl) (fun _ _ _ h => h) (v := ?_) (by kernel_rfl) ?_ (by assumption) ?_; rotate_left; (focus (intro wS hSw; have hX := fun b o (h : b < _) => hSw.cell (p := ⟨b, o, none⟩) h (fun h => h); go_simp; try with_reducible rfl)); (try simp only [Act.put, List.setIfInBounds_toArray, List.set_cons_zero, List.set_cons_succ]))
  (refine take_at 10 (some 50) rfl rfl (by kernel_rfl) (by kernel_rfl) (by kernel_rfl) (fun _ _ _ h => h) (v := ?_) (by kernel_rfl) ?_ (by assumption) ?_; rotate_left; (focus (intro wS hSw; skip; go_simp; try with_reducible rfl)); (try simp only [Act.put, List.setIfInBounds_toArray, List.set_cons_zero, List.set_cons_succ]))
  (refine take_at 11 (some 51) rfl rfl (by kernel_rfl) (by kernel_rfl) (by kernel_rfl) (fun _ _ _ h => h) (v := ?_) (by kernel_rfl) ?_ (by assumption) ?_; rotate_left; (focus (intro wS hSw; have hX := fun b o (h : b < _) => hSw.cell (p := ⟨b, o, none⟩) h (fun h => h); go_simp; try with_reducible rfl)); (try simp only [Act.put, List.setIfInBounds_toArray, List.set_cons_zero, List.set_cons_succ]))
  (refine take_at 14 (some 54) rfl rfl (by kernel_rfl) (by kernel_rfl) (by kernel_rfl) (fun _ _ _ h => h) (v := ?_) (by kernel_rfl) ?_ (by assumption) ?_; rotate_left; (focus (intro wS hSw; skip; go_simp; try with_reducible rfl)); (try simp only [Act.put, List.setIfInBounds_toArray, List.set_cons_zero, List.set_cons_succ]))
  (refine take_at 15 (some 55) rfl rfl (by kernel_rfl) (by kernel_rfl) (by kernel_rfl) (fun _ _ _ h => h) (v := ?_) (by kernel_rfl) ?_ (by assumption) ?_; rotate_left; (focus (intro wS hSw; skip; go_simp; try with_reducible rfl)); (try simp only [Act.put, List.setIfInBounds_toArray, List.set_cons_zero, List.set_cons_succ]))
  (refine take_at 16 (some 56) rfl rfl (by kernel_rfl) (by kernel_rfl) (by kernel_rfl) (fun _ _ _ h => h) (v := ?_) (by kernel_rfl) ?_ (by assumption) ?_; rotate_left; (focus (intro wS hSw; have hX := fun b o (h : b < _) => hSw.cell (p := ⟨b, o, none⟩) h (fun h => h); go_simp; try with_reducible rfl)); (try simp only [Act.put, List.setIfInBounds_toArray, List.set_cons_zero, List.set_cons_succ]))
  (refine take_at 17 (some 57) rfl rfl (by kernel_rfl) (by kernel_rfl) (by kernel_rfl) (fun _ _ _ h => h) (v := ?_) (by kernel_rfl) ?_ (by assumption) ?_; rotate_left; (focus (intro wS hSw; skip; go_simp; try with_reducible rfl)); (try simp only [Act.put, List.setIfInBounds_toArray, List.set_cons_zero, List.set_cons_succ]))
  (refine take_at 18 (some 58) rfl rfl (by kernel_rfl) (by kernel_rfl) (by kernel_rfl) (fun _ _ _ h => h) (v := ?_) (by kernel_rfl) ?_ (by assumption) ?_; rotate_left; (focus (intro wS hSw; have hX := fun b o (h : b < _) => hSw.cell (p := ⟨b, o, none⟩) h (fun h => h); go_simp; try with_reducible rfl)); (try simp only [Act.put, List.setIfInBounds_toArray, List.set_cons_zero, List.set_cons_succ]))
  (refine take_at 19 (some 59) rfl rfl (by kernel_rfl) (by kernel_rfl) (by kernel_rfl) (fun _ _ _ h => h) (v := ?_) (by kernel_rfl) ?_ (by assumption) ?_; rotate_left; (focus (intro wS hSw; skip; go_simp; try with_reducible rfl)); (try simp only [Act.put, List.setIfInBounds_toArray, List.set_cons_zero, List.set_cons_succ]))
  (refine take_at 20 (some 60) rfl rfl (by kernel_rfl) (by kernel_rfl) (by kernel_rfl) (fun _ _ _ h => h) (v := ?_) (by kernel_rfl) ?_ (by assumption) ?_; rotate_left; (focus (intro wS hSw; have hX := fun b o (h : b < _) => hSw.cell (p := ⟨b, o, none⟩) h (fun h => h); go_simp; try with_reducible rfl)); (try simp only [Act.put, List.setIfInBounds_toArray, List.set_cons_zero, List.set_cons_succ]))
  refine wpAnyH_ready (rs := [4, 21]) (by kernel_rfl) (by simp) ?_
  refine AllReadyH.cons rfl (fun K hK => ?_) (AllReadyH.cons rfl (fun K hK => ?_) AllReadyH.nil)
  · go_simp
    refine k_gen hK (fun x3 hW => ?_)
    have l2g2 := hid_lt B_g2
    have hp := new_now hW
    have hB := new_blk hW
    have hGe := Fp.size hHeld
    clear hW
    refine ⟨Fp.trans hHeld hp (fun _ _ h => h.elim), ?_⟩
    replace hHeld := Fp.trans hHeld hp (fun _ _ h => h.elim)
    clear hK K
    try simp only [Act.put, List.setIfInBounds_toArray, List.set_cons_zero, List.set_cons_succ]
    obtain ⟨gA, hgA⟩ : ∃ gA, gA = x2.heap.size := ⟨_, rfl⟩
    have R_gA := Lib.hid (Nat.le_trans hGe (Nat.le_of_eq hgA.symm))
    have n_g2_gA : ¬ g2 = gA := by omega
    have n_gA_g2 : ¬ gA = g2 := by omega
    clear l2g2
    replace B_g2 := hid_blk B_g2 hp
    rw [← hgA] at hB ⊢
    have B_gA := hB
    clear hB hgA hp hGe
    refine wpAnyH_ready (rs := [5, 21]) (by kernel_rfl) (by simp) ?_
    refine AllReadyH.cons rfl (fun K hK => ?_) (AllReadyH.cons rfl (fun K hK => ?_) AllReadyH.nil)
    · go_simp
      go_at_call 79
      refine (show Calls _ _ _ _ _ from KW.out gA _ _ _ _ B_gA.out).mono ?_
      rintro e x4 ⟨rfl, hp⟩
      have hn := Fp.trans hHeld hp (fun _ _ h => h.elim)
      replace B_g2 := hid_blk B_g2 hp
      replace B_gA := hid_blk B_gA hp
      refine k_now hK hn ?_
      clear hK K hp hHeld
      have hHeld := hn
      clear hn
      try simp only [Act.put, List.setIfInBounds_toArray, List.set_cons_zero, List.set_cons_succ]
      refine wpAnyH_ready (rs := [8, 21]) (by kernel_rfl) (by simp) ?_
      refine AllReadyH.cons rfl (fun K hK => ?_) (AllReadyH.cons rfl (fun K hK => ?_) AllReadyH.nil)
      · go_simp
        go_at_call 80
        refine (show Calls _ _ _ _ _ from K1.out _).mono ?_
        rintro e x5 ⟨rfl, hp⟩
        have hn := Fp.trans hHeld hp (fun _ _ h => h.elim)
        replace B_g2 := hid_blk B_g2 hp
        replace B_gA := hid_blk B_gA hp
        refine k_now hK hn ?_
        clear hK K hp hHeld
        have hHeld := hn
        clear hn
        try simp only [Act.put, List.setIfInBounds_toArray, List.set_cons_zero, List.set_cons_succ]
        (refine take_at 9 (some 49) rfl rfl (by kernel_rfl) (by kernel_rfl) (by kernel_rfl) (fun _ _ _ h => h) (v := ?_) (by kernel_rfl) ?_ (by assumption) ?_; rotate_left; (focus (intro wS hSw; skip; go_simp; try with_reducible rfl)); (try simp only [Act.put, List.setIfInBounds_toArray, List.set_cons_zero, List.set_cons_succ]))
        refine wpAnyH_ready (rs := [12, 21]) (by kernel_rfl) (by simp) ?_
        refine AllReadyH.cons rfl (fun K hK => ?_) (AllReadyH.cons rfl (fun K hK => ?_) AllReadyH.nil)
        · go_simp
          go_at_call 80
          refine (show Calls _ _ _ _ _ from K2.out _).mono ?_
          rintro e x6 ⟨rfl, hp⟩
          have hn := Fp.trans hHeld hp (fun _ _ h => h.elim)
          replace B_g2 := hid_blk B_g2 hp
          replace B_gA := hid_blk B_gA hp
          refine k_now hK hn ?_
          clear hK K hp hHeld
          have hHeld := hn
          clear hn
          try simp only [Act.put, List.setIfInBounds_toArray, List.set_cons_zero, List.set_cons_succ]
          (refine take_at 13 (some 53) rfl rfl (by kernel_rfl) (by kernel_rfl) (by kernel_rfl) (fun _ _ _ h => h) (v := ?_) (by kernel_rfl) ?_ (by assumption) ?_; rotate_left; (focus (intro wS hSw; skip; go_simp; try with_reducible rfl)); (try simp only [Act.put, List.setIfInBounds_toArray, List.set_cons_zero, List.set_cons_succ]))
          refine wpAnyH_ready (rs := [21]) (by kernel_rfl) (by simp) ?_
          refine AllReadyH.cons rfl (fun K hK => ?_) AllReadyH.nil
          go_simp
          refine k_gen hK (fun x7 hW => ?_)
          have l2g2 := hid_lt B_g2
          have l2gA := hid_lt B_gA
          have hp := new_now hW
          have hB := new_blk hW
          have hGe := Fp.size hHeld
          clear hW
          refine ⟨Fp.trans hHeld hp (fun _ _ h => h.elim), ?_⟩
          replace hHeld := Fp.trans hHeld hp (fun _ _ h => h.elim)
          clear hK K
          try simp only [Act.put, List.setIfInBounds_toArray, List.set_cons_zero, List.set_cons_succ]
          obtain ⟨gB, hgB⟩ : ∃ gB, gB = x6.heap.size := ⟨_, rfl⟩
          have R_gB := Lib.hid (Nat.le_trans hGe (Nat.le_of_eq hgB.symm))
          have n_g2_gB : ¬ g2 = gB := by omega
          have n_gB_g2 : ¬ gB = g2 := by omega
          clear l2g2
          replace B_g2 := hid_blk B_g2 hp
          have n_gA_gB : ¬ gA = gB := by omega
          have n_gB_gA : ¬ gB = gA := by omega
          clear l2gA
          replace B_gA := hid_blk B_gA hp
          rw [← hgB] at hB ⊢
          have B_gB := hB
          clear hB hgB hp hGe
          refine wpAnyH_ready (rs := [22]) (by kernel_rfl) (by simp) ?_
          refine AllReadyH.cons rfl (fun K hK => ?_) AllReadyH.nil
          go_simp
          go_at_call 79
          refine (show Calls _ _ _ _ _ from KV.out gB _ _ _ _ B_gB.out).mono ?_
          rintro e x8 ⟨rfl, hp⟩
          have hn := Fp.trans hHeld hp (fun _ _ h => h.elim)
          replace B_g2 := hid_blk B_g2 hp
          replace B_gA := hid_blk B_gA hp
          replace B_gB := hid_blk B_gB hp
          refine k_now hK hn ?_
          clear hK K hp hHeld
          have hHeld := hn
          clear hn
          try simp only [Act.put, List.setIfInBounds_toArray, List.set_cons_zero, List.set_cons_succ]
          (refine take_at 23 (some 63) rfl rfl (by kernel_rfl) (by kernel_rfl) (by kernel_rfl) (fun _ _ _ h => h) (v := ?_) (by kernel_rfl) ?_ (by assumption) ?_; rotate_left; (focus (intro wS hSw; skip; go_simp; try with_reducible rfl)); (try simp only [Act.put, List.setIfInBounds_toArray, List.set_cons_zero, List.set_cons_succ]))
          (refine take_at 24 (some 8) rfl rfl (by kernel_rfl) (by kernel_rfl) (by kernel_rfl) (fun _ _ _ h => h) (v := ?_) (by kernel_rfl) ?_ (by assumption) ?_; rotate_left; (focus (intro wS hSw; skip; go_simp; try with_reducible rfl)); (try simp only [Act.put, List.setIfInBounds_toArray, List.set_cons_zero, List.set_cons_succ]))
          refine wpAnyH_done (by kernel_rfl) ?_ _
          have HN2 := hid_now HN hHeld
          clear cg20 cg21 cg22 cg23 cg24 cg25 cg26 cg27 cg28 cg29 zg2 lg2
          have cg29 := cell_at B_g2 9 rfl
          have lg2 := hid_lt B_g2
          go_wp2_with fail
          go_ret2
          exact ⟨rfl, HN2.out⟩
        · go_simp
          refine k_gen hK (fun x9 hW => ?_)
          have l2g2 := hid_lt B_g2
          have l2gA := hid_lt B_gA
          have hp := new_now hW
          have hB := new_blk hW
          have hGe := Fp.size hHeld
          clear hW
          refine ⟨Fp.trans hHeld hp (fun _ _ h => h.elim), ?_⟩
          replace hHeld := Fp.trans hHeld hp (fun _ _ h => h.elim)
          clear hK K
          try simp only [Act.put, List.setIfInBounds_toArray, List.set_cons_zero, List.set_cons_succ]
          obtain ⟨gB, hgB⟩ : ∃ gB, gB = x5.heap.size := ⟨_, rfl⟩
          have R_gB := Lib.hid (Nat.le_trans hGe (Nat.le_of_eq hgB.symm))
          have n_g2_gB : ¬ g2 = gB := by omega
          have n_gB_g2 : ¬ gB = g2 := by omega
          clear l2g2
          replace B_g2 := hid_blk B_g2 hp
          have n_gA_gB : ¬ gA = gB := by omega
          have n_gB_gA : ¬ gB = gA := by omega
          clear l2gA
          replace B_gA := hid_blk B_gA hp
          rw [← hgB] at hB ⊢
          have B_gB := hB
          clear hB hgB hp hGe
          refine wpAnyH_ready (rs := [12]) (by kernel_rfl) (by simp) ?_
          refine AllReadyH.cons rfl (fun K hK => ?_) AllReadyH.nil
          go_simp
          go_at_call 80
          refine (show Calls _ _ _ _ _ from K2.out _).mono ?_
          rintro e x10 ⟨rfl, hp⟩
          have hn := Fp.trans hHeld hp (fun _ _ h => h.elim)
          replace B_g2 := hid_blk B_g2 hp
          replace B_gA := hid_blk B_gA hp
          replace B_gB := hid_blk B_gB hp
          refine k_now hK hn ?_
          clear hK K hp hHeld
          have hHeld := hn
          clear hn
          try simp only [Act.put, List.setIfInBounds_toArray, List.set_cons_zero, List.set_cons_succ]
          (refine take_at 13 (some 53) rfl rfl (by kernel_rfl) (by kernel_rfl) (by kernel_rfl) (fun _ _ _ h => h) (v := ?_) (by kernel_rfl) ?_ (by assumption) ?_; rotate_left; (focus (intro wS hSw; skip; go_simp; try with_reducible rfl)); (try simp only [Act.put, List.setIfInBounds_toArray, List.set_cons_zero, List.set_cons_succ]))
          refine wpAnyH_ready (rs := [22]) (by kernel_rfl) (by simp) ?_
          refine AllReadyH.cons rfl (fun K hK => ?_) AllReadyH.nil
          go_simp
          go_at_call 79
          refine (show Calls _ _ _ _ _ from KV.out gB _ _ _ _ B_gB.out).mono ?_
          rintro e x11 ⟨rfl, hp⟩
          have hn := Fp.trans hHeld hp (fun _ _ h => h.elim)
          replace B_g2 := hid_blk B_g2 hp
          replace B_gA := hid_blk B_gA hp
          replace B_gB := hid_blk B_gB hp
          refine k_now hK hn ?_
          clear hK K hp hHeld
          have hHeld := hn
          clear hn
          try simp only [Act.put, List.setIfInBounds_toArray, List.set_cons_zero, List.set_cons_succ]
          (refine take_at 23 (some 63) rfl rfl (by kernel_rfl) (by kernel_rfl) (by kernel_rfl) (fun _ _ _ h => h) (v := ?_) (by kernel_rfl) ?_ (by assumption) ?_; rotate_left; (focus (intro wS hSw; skip; go_simp; try with_reducible rfl)); (try simp only [Act.put, List.setIfInBounds_toArray, List.set_cons_zero, List.set_cons_succ]))
          (refine take_at 24 (some 8) rfl rfl (by kernel_rfl) (by kernel_rfl) (by kernel_rfl) (fun _ _ _ h => h) (v := ?_) (by kernel_rfl) ?_ (by assumption) ?_; rotate_left; (focus (intro wS hSw; skip; go_simp; try with_reducible rfl)); (try simp only [Act.put, List.setIfInBounds_toArray, List.set_cons_zero, List.set_cons_succ]))
          refine wpAnyH_done (by kernel_rfl) ?_ _
          have HN2 := hid_now HN hHeld
          clear cg20 cg21 cg22 cg23 cg24 cg25 cg26 cg27 cg28 cg29 zg2 lg2
          have cg29 := cell_at B_g2 9 rfl
          have lg2 := hid_lt B_g2
          go_wp2_with fail
          go_ret2
          exact ⟨rfl, HN2.out⟩
      · go_simp
        refine k_gen hK (fun x12 hW => ?_)
        have l2g2 := hid_lt B_g2
        have l2gA := hid_lt B_gA
        have hp := new_now hW
        have hB := new_blk hW
        have hGe := Fp.size hHeld
        clear hW
        refine ⟨Fp.trans hHeld hp (fun _ _ h => h.elim), ?_⟩
        replace hHeld := Fp.trans hHeld hp (fun _ _ h => h.elim)
        clear hK K
        try simp only [Act.put, List.setIfInBounds_toArray, List.set_cons_zero, List.set_cons_succ]
        obtain ⟨gB, hgB⟩ : ∃ gB, gB = x4.heap.size := ⟨_, rfl⟩
        have R_gB := Lib.hid (Nat.le_trans hGe (Nat.le_of_eq hgB.symm))
        have n_g2_gB : ¬ g2 = gB := by omega
        have n_gB_g2 : ¬ gB = g2 := by omega
        clear l2g2
        replace B_g2 := hid_blk B_g2 hp
        have n_gA_gB : ¬ gA = gB := by omega
        have n_gB_gA : ¬ gB = gA := by omega
        clear l2gA
        replace B_gA := hid_blk B_gA hp
        rw [← hgB] at hB ⊢
        have B_gB := hB
        clear hB hgB hp hGe
        refine wpAnyH_ready (rs := [8]) (by kernel_rfl) (by simp) ?_
        refine AllReadyH.cons rfl (fun K hK => ?_) AllReadyH.nil
        go_simp
        go_at_call 80
        refine (show Calls _ _ _ _ _ from K1.out _).mono ?_
        rintro e x13 ⟨rfl, hp⟩
        have hn := Fp.trans hHeld hp (fun _ _ h => h.elim)
        replace B_g2 := hid_blk B_g2 hp
        replace B_gA := hid_blk B_gA hp
        replace B_gB := hid_blk B_gB hp
        refine k_now hK hn ?_
        clear hK K hp hHeld
        have hHeld := hn
        clear hn
        try simp only [Act.put, List.setIfInBounds_toArray, List.set_cons_zero, List.set_cons_succ]
        (refine take_at 9 (some 49) rfl rfl (by kernel_rfl) (by kernel_rfl) (by kernel_rfl) (fun _ _ _ h => h) (v := ?_) (by kernel_rfl) ?_ (by assumption) ?_; rotate_left; (focus (intro wS hSw; skip; go_simp; try with_reducible rfl)); (try simp only [Act.put, List.setIfInBounds_toArray, List.set_cons_zero, List.set_cons_succ]))
        refine wpAnyH_ready (rs := [12]) (by kernel_rfl) (by simp) ?_
        refine AllReadyH.cons rfl (fun K hK => ?_) AllReadyH.nil
        go_simp
        go_at_call 80
        refine (show Calls _ _ _ _ _ from K2.out _).mono ?_
        rintro e x14 ⟨rfl, hp⟩
        have hn := Fp.trans hHeld hp (fun _ _ h => h.elim)
        replace B_g2 := hid_blk B_g2 hp
        replace B_gA := hid_blk B_gA hp
        replace B_gB := hid_blk B_gB hp
        refine k_now hK hn ?_
        clear hK K hp hHeld
        have hHeld := hn
        clear hn
        try simp only [Act.put, List.setIfInBounds_toArray, List.set_cons_zero, List.set_cons_succ]
        (refine take_at 13 (some 53) rfl rfl (by kernel_rfl) (by kernel_rfl) (by kernel_rfl) (fun _ _ _ h => h) (v := ?_) (by kernel_rfl) ?_ (by assumption) ?_; rotate_left; (focus (intro wS hSw; skip; go_simp; try with_reducible rfl)); (try simp only [Act.put, List.setIfInBounds_toArray, List.set_cons_zero, List.set_cons_succ]))
        refine wpAnyH_ready (rs := [22]) (by kernel_rfl) (by simp) ?_
        refine AllReadyH.cons rfl (fun K hK => ?_) AllReadyH.nil
        go_simp
        go_at_call 79
        refine (show Calls _ _ _ _ _ from KV.out gB _ _ _ _ B_gB.out).mono ?_
        rintro e x15 ⟨rfl, hp⟩
        have hn := Fp.trans hHeld hp (fun _ _ h => h.elim)
        replace B_g2 := hid_blk B_g2 hp
        replace B_gA := hid_blk B_gA hp
        replace B_gB := hid_blk B_gB hp
        refine k_now hK hn ?_
        clear hK K hp hHeld
        have hHeld := hn
        clear hn
        try simp only [Act.put, List.setIfInBounds_toArray, List.set_cons_zero, List.set_cons_succ]
        (refine take_at 23 (some 63) rfl rfl (by kernel_rfl) (by kernel_rfl) (by kernel_rfl) (fun _ _ _ h => h) (v := ?_) (by kernel_rfl) ?_ (by assumption) ?_; rotate_left; (focus (intro wS hSw; skip; go_simp; try with_reducible rfl)); (try simp only [Act.put, List.setIfInBounds_toArray, List.set_cons_zero, List.set_cons_succ]))
        (refine take_at 24 (some 8) rfl rfl (by kernel_rfl) (by kernel_rfl) (by kernel_rfl) (fun _ _ _ h => h) (v := ?_) (by kernel_rfl) ?_ (by assumption) ?_; rotate_left; (focus (intro wS hSw; skip; go_simp; try with_reducible rfl)); (try simp only [Act.put, List.setIfInBounds_toArray, List.set_cons_zero, List.set_cons_succ]))
        refine wpAnyH_done (by kernel_rfl) ?_ _
        have HN2 := hid_now HN hHeld
        clear cg20 cg21 cg22 cg23 cg24 cg25 cg26 cg27 cg28 cg29 zg2 lg2
        have cg29 := cell_at B_g2 9 rfl
        have lg2 := hid_lt B_g2
        go_wp2_with fail
        go_ret2
        exact ⟨rfl, HN2.out⟩
    · go_simp
      refine k_gen hK (fun x16 hW => ?_)
      have l2g2 := hid_lt B_g2
      have l2gA := hid_lt B_gA
      have hp := new_now hW
      have hB := new_blk hW
      have hGe := Fp.size hHeld
      clear hW
      refine ⟨Fp.trans hHeld hp (fun _ _ h => h.elim), ?_⟩
      replace hHeld := Fp.trans hHeld hp (fun _ _ h => h.elim)
      clear hK K
      try simp only [Act.put, List.setIfInBounds_toArray, List.set_cons_zero, List.set_cons_succ]
      obtain ⟨gB, hgB⟩ : ∃ gB, gB = x3.heap.size := ⟨_, rfl⟩
      have R_gB := Lib.hid (Nat.le_trans hGe (Nat.le_of_eq hgB.symm))
      have n_g2_gB : ¬ g2 = gB := by omega
      have n_gB_g2 : ¬ gB = g2 := by omega
      clear l2g2
      replace B_g2 := hid_blk B_g2 hp
      have n_gA_gB : ¬ gA = gB := by omega
      have n_gB_gA : ¬ gB = gA := by omega
      clear l2gA
      replace B_gA := hid_blk B_gA hp
      rw [← hgB] at hB ⊢
      have B_gB := hB
      clear hB hgB hp hGe
      refine wpAnyH_ready (rs := [5]) (by kernel_rfl) (by simp) ?_
      refine AllReadyH.cons rfl (fun K hK => ?_) AllReadyH.nil
      go_simp
      go_at_call 79
      refine (show Calls _ _ _ _ _ from KW.out gA _ _ _ _ B_gA.out).mono ?_
      rintro e x17 ⟨rfl, hp⟩
      have hn := Fp.trans hHeld hp (fun _ _ h => h.elim)
      replace B_g2 := hid_blk B_g2 hp
      replace B_gA := hid_blk B_gA hp
      replace B_gB := hid_blk B_gB hp
      refine k_now hK hn ?_
      clear hK K hp hHeld
      have hHeld := hn
      clear hn
      try simp only [Act.put, List.setIfInBounds_toArray, List.set_cons_zero, List.set_cons_succ]
      refine wpAnyH_ready (rs := [8]) (by kernel_rfl) (by simp) ?_
      refine AllReadyH.cons rfl (fun K hK => ?_) AllReadyH.nil
      go_simp
      go_at_call 80
      refine (show Calls _ _ _ _ _ from K1.out _).mono ?_
      rintro e x18 ⟨rfl, hp⟩
      have hn := Fp.trans hHeld hp (fun _ _ h => h.elim)
      replace B_g2 := hid_blk B_g2 hp
      replace B_gA := hid_blk B_gA hp
      replace B_gB := hid_blk B_gB hp
      refine k_now hK hn ?_
      clear hK K hp hHeld
      have hHeld := hn
      clear hn
      try simp only [Act.put, List.setIfInBounds_toArray, List.set_cons_zero, List.set_cons_succ]
      (refine take_at 9 (some 49) rfl rfl (by kernel_rfl) (by kernel_rfl) (by kernel_rfl) (fun _ _ _ h => h) (v := ?_) (by kernel_rfl) ?_ (by assumption) ?_; rotate_left; (focus (intro wS hSw; skip; go_simp; try with_reducible rfl)); (try simp only [Act.put, List.setIfInBounds_toArray, List.set_cons_zero, List.set_cons_succ]))
      refine wpAnyH_ready (rs := [12]) (by kernel_rfl) (by simp) ?_
      refine AllReadyH.cons rfl (fun K hK => ?_) AllReadyH.nil
      go_simp
      go_at_call 80
      refine (show Calls _ _ _ _ _ from K2.out _).mono ?_
      rintro e x19 ⟨rfl, hp⟩
      have hn := Fp.trans hHeld hp (fun _ _ h => h.elim)
      replace B_g2 := hid_blk B_g2 hp
      replace B_gA := hid_blk B_gA hp
      replace B_gB := hid_blk B_gB hp
      refine k_now hK hn ?_
      clear hK K hp hHeld
      have hHeld := hn
      clear hn
      try simp only [Act.put, List.setIfInBounds_toArray, List.set_cons_zero, List.set_cons_succ]
      (refine take_at 13 (some 53) rfl rfl (by kernel_rfl) (by kernel_rfl) (by kernel_rfl) (fun _ _ _ h => h) (v := ?_) (by kernel_rfl) ?_ (by assumption) ?_; rotate_left; (focus (intro wS hSw; skip; go_simp; try with_reducible rfl)); (try simp only [Act.put, List.setIfInBounds_toArray, List.set_cons_zero, List.set_cons_succ]))
      refine wpAnyH_ready (rs := [22]) (by kernel_rfl) (by simp) ?_
      refine AllReadyH.cons rfl (fun K hK => ?_) AllReadyH.nil
      go_simp
      go_at_call 79
      refine (show Calls _ _ _ _ _ from KV.out gB _ _ _ _ B_gB.out).mono ?_
      rintro e x20 ⟨rfl, hp⟩
      have hn := Fp.trans hHeld hp (fun _ _ h => h.elim)
      replace B_g2 := hid_blk B_g2 hp
      replace B_gA := hid_blk B_gA hp
      replace B_gB := hid_blk B_gB hp
      refine k_now hK hn ?_
      clear hK K hp hHeld
      have hHeld := hn
      clear hn
      try simp only [Act.put, List.setIfInBounds_toArray, List.set_cons_zero, List.set_cons_succ]
      (refine take_at 23 (some 63) rfl rfl (by kernel_rfl) (by kernel_rfl) (by kernel_rfl) (fun _ _ _ h => h) (v := ?_) (by kernel_rfl) ?_ (by assumption) ?_; rotate_left; (focus (intro wS hSw; skip; go_simp; try with_reducible rfl)); (try simp only [Act.put, List.setIfInBounds_toArray, List.set_cons_zero, List.set_cons_succ]))
      (refine take_at 24 (some 8) rfl rfl (by kernel_rfl) (by kernel_rfl) (by kernel_rfl) (fun _ _ _ h => h) (v := ?_) (by kernel_rfl) ?_ (by assumption) ?_; rotate_left; (focus (intro wS hSw; skip; go_simp; try with_reducible rfl)); (try simp only [Act.put, List.setIfInBounds_toArray, List.set_cons_zero, List.set_cons_succ]))
      refine wpAnyH_done (by kernel_rfl) ?_ _
      have HN2 := hid_now HN hHeld
      clear cg20 cg21 cg22 cg23 cg24 cg25 cg26 cg27 cg28 cg29 zg2 lg2
      have cg29 := cell_at B_g2 9 rfl
      have lg2 := hid_lt B_g2
      go_wp2_with fail
      go_ret2
      exact ⟨rfl, HN2.out⟩
  · go_simp
    refine k_gen hK (fun x21 hW => ?_)
    have l2g2 := hid_lt B_g2
    have hp := new_now hW
    have hB := new_blk hW
    have hGe := Fp.size hHeld
    clear hW
    refine ⟨Fp.trans hHeld hp (fun _ _ h => h.elim), ?_⟩
    replace hHeld := Fp.trans hHeld hp (fun _ _ h => h.elim)
    clear hK K
    try simp only [Act.put, List.setIfInBounds_toArray, List.set_cons_zero, List.set_cons_succ]
    obtain ⟨gB, hgB⟩ : ∃ gB, gB = x2.heap.size := ⟨_, rfl⟩
    have R_gB := Lib.hid (Nat.le_trans hGe (Nat.le_of_eq hgB.symm))
    have n_g2_gB : ¬ g2 = gB := by omega
    have n_gB_g2 : ¬ gB = g2 := by omega
    clear l2g2
    replace B_g2 := hid_blk B_g2 hp
    rw [← hgB] at hB ⊢
    have B_gB := hB
    clear hB hgB hp hGe
    refine wpAnyH_ready (rs := [4]) (by kernel_rfl) (by simp) ?_
    refine AllReadyH.cons rfl (fun K hK => ?_) AllReadyH.nil
    go_simp
    refine k_gen hK (fun x22 hW => ?_)
    have l2g2 := hid_lt B_g2
    have l2gB := hid_lt B_gB
    have hp := new_now hW
    have hB := new_blk hW
    have hGe := Fp.size hHeld
    clear hW
    refine ⟨Fp.trans hHeld hp (fun _ _ h => h.elim), ?_⟩
    replace hHeld := Fp.trans hHeld hp (fun _ _ h => h.elim)
    clear hK K
    try simp only [Act.put, List.setIfInBounds_toArray, List.set_cons_zero, List.set_cons_succ]
    obtain ⟨gA, hgA⟩ : ∃ gA, gA = x21.heap.size := ⟨_, rfl⟩
    have R_gA := Lib.hid (Nat.le_trans hGe (Nat.le_of_eq hgA.symm))
    have n_g2_gA : ¬ g2 = gA := by omega
    have n_gA_g2 : ¬ gA = g2 := by omega
    clear l2g2
    replace B_g2 := hid_blk B_g2 hp
    have n_gB_gA : ¬ gB = gA := by omega
    have n_gA_gB : ¬ gA = gB := by omega
    clear l2gB
    replace B_gB := hid_blk B_gB hp
    rw [← hgA] at hB ⊢
    have B_gA := hB
    clear hB hgA hp hGe
    refine wpAnyH_ready (rs := [5]) (by kernel_rfl) (by simp) ?_
    refine AllReadyH.cons rfl (fun K hK => ?_) AllReadyH.nil
    go_simp
    go_at_call 79
    refine (show Calls _ _ _ _ _ from KW.out gA _ _ _ _ B_gA.out).mono ?_
    rintro e x23 ⟨rfl, hp⟩
    have hn := Fp.trans hHeld hp (fun _ _ h => h.elim)
    replace B_g2 := hid_blk B_g2 hp
    replace B_gB := hid_blk B_gB hp
    replace B_gA := hid_blk B_gA hp
    refine k_now hK hn ?_
    clear hK K hp hHeld
    have hHeld := hn
    clear hn
    try simp only [Act.put, List.setIfInBounds_toArray, List.set_cons_zero, List.set_cons_succ]
    refine wpAnyH_ready (rs := [8]) (by kernel_rfl) (by simp) ?_
    refine AllReadyH.cons rfl (fun K hK => ?_) AllReadyH.nil
    go_simp
    go_at_call 80
    refine (show Calls _ _ _ _ _ from K1.out _).mono ?_
    rintro e x24 ⟨rfl, hp⟩
    have hn := Fp.trans hHeld hp (fun _ _ h => h.elim)
    replace B_g2 := hid_blk B_g2 hp
    replace B_gB := hid_blk B_gB hp
    replace B_gA := hid_blk B_gA hp
    refine k_now hK hn ?_
    clear hK K hp hHeld
    have hHeld := hn
    clear hn
    try simp only [Act.put, List.setIfInBounds_toArray, List.set_cons_zero, List.set_cons_succ]
    (refine take_at 9 (some 49) rfl rfl (by kernel_rfl) (by kernel_rfl) (by kernel_rfl) (fun _ _ _ h => h) (v := ?_) (by kernel_rfl) ?_ (by assumption) ?_; rotate_left; (focus (intro wS hSw; skip; go_simp; try with_reducible rfl)); (try simp only [Act.put, List.setIfInBounds_toArray, List.set_cons_zero, List.set_cons_succ]))
    refine wpAnyH_ready (rs := [12]) (by kernel_rfl) (by simp) ?_
    refine AllReadyH.cons rfl (fun K hK => ?_) AllReadyH.nil
    go_simp
    go_at_call 80
    refine (show Calls _ _ _ _ _ from K2.out _).mono ?_
    rintro e x25 ⟨rfl, hp⟩
    have hn := Fp.trans hHeld hp (fun _ _ h => h.elim)
    replace B_g2 := hid_blk B_g2 hp
    replace B_gB := hid_blk B_gB hp
    replace B_gA := hid_blk B_gA hp
    refine k_now hK hn ?_
    clear hK K hp hHeld
    have hHeld := hn
    clear hn
    try simp only [Act.put, List.setIfInBounds_toArray, List.set_cons_zero, List.set_cons_succ]
    (refine take_at 13 (some 53) rfl rfl (by kernel_rfl) (by kernel_rfl) (by kernel_rfl) (fun _ _ _ h => h) (v := ?_) (by kernel_rfl) ?_ (by assumption) ?_; rotate_left; (focus (intro wS hSw; skip; go_simp; try with_reducible rfl)); (try simp only [Act.put, List.setIfInBounds_toArray, List.set_cons_zero, List.set_cons_succ]))
    refine wpAnyH_ready (rs := [22]) (by kernel_rfl) (by simp) ?_
    refine AllReadyH.cons rfl (fun K hK => ?_) AllReadyH.nil
    go_simp
    go_at_call 79
    refine (show Calls _ _ _ _ _ from KV.out gB _ _ _ _ B_gB.out).mono ?_
    rintro e x26 ⟨rfl, hp⟩
    have hn := Fp.trans hHeld hp (fun _ _ h => h.elim)
    replace B_g2 := hid_blk B_g2 hp
    replace B_gB := hid_blk B_gB hp
    replace B_gA := hid_blk B_gA hp
    refine k_now hK hn ?_
    clear hK K hp hHeld
    have hHeld := hn
    clear hn
    try simp only [Act.put, List.setIfInBounds_toArray, List.set_cons_zero, List.set_cons_succ]
    (refine take_at 23 (some 63) rfl rfl (by kernel_rfl) (by kernel_rfl) (by kernel_rfl) (fun _ _ _ h => h) (v := ?_) (by kernel_rfl) ?_ (by assumption) ?_; rotate_left; (focus (intro wS hSw; skip; go_simp; try with_reducible rfl)); (try simp only [Act.put, List.setIfInBounds_toArray, List.set_cons_zero, List.set_cons_succ]))
    (refine take_at 24 (some 8) rfl rfl (by kernel_rfl) (by kernel_rfl) (by kernel_rfl) (fun _ _ _ h => h) (v := ?_) (by kernel_rfl) ?_ (by assumption) ?_; rotate_left; (focus (intro wS hSw; skip; go_simp; try with_reducible rfl)); (try simp only [Act.put, List.setIfInBounds_toArray, List.set_cons_zero, List.set_cons_succ]))
    refine wpAnyH_done (by kernel_rfl) ?_ _
    have HN2 := hid_now HN hHeld
    clear cg20 cg21 cg22 cg23 cg24 cg25 cg26 cg27 cg28 cg29 zg2 lg2
    have cg29 := cell_at B_g2 9 rfl
    have lg2 := hid_lt B_g2
    go_wp2_with fail
    go_ret2
    exact ⟨rfl, HN2.out⟩
end Go.Proofs.YtmghjaoodnkjlaaGreatDoor
