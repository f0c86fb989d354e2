/- Chapter 08: the program's Put of packets (written by gen8b.py). -/
import Derived.Test.YtmghjaoodnkjlaaGreatDoorTA
import Derived.Test.YtmghjaoodnkjlaaGreatDoorTd
import Derived.Test.YtmghjaoodnkjlaaGreatDoorTm
namespace Go.Proofs.YtmghjaoodnkjlaaGreatDoor
set_option linter.unusedVariables false
set_option linter.unusedSimpArgs false
open Go.RowKit Go.Lib Go.Sort
set_option maxRecDepth 10000 in
theorem head_words {tos id ttl pr sr ds size sum : Nat} {fl : Bool} {op : List UInt8} (ho : op.length ≤ 40) (htos : tos < 256) (hpr : pr < 256) :
    ipHead tos id fl ttl pr sr ds op size sum = wordsB [(69 + op.length / 4) * 256 + tos, size, id, if fl then 16384 else 0, ttl * 256 + pr, sum] ++ b32 sr ++ b32 ds ++ op := by
  have e1 : ((69 + op.length / 4) * 256 + tos) / 256 = 69 + op.length / 4 := by omega
  have e2 : ((69 + op.length / 4) * 256 + tos) % 256 = tos := by omega
  have e3 : (ttl * 256 + pr) / 256 = ttl := by omega
  have e4 : (ttl * 256 + pr) % 256 = pr := by omega
  simp [ipHead, wordsB, b16, e1, e2, e3, e4]
set_option maxHeartbeats 4000000 in
set_option maxRecDepth 100000 in
theorem bytes_ok0 (tos id ttl pr sr ds size sum : Nat) (op : List UInt8) (htos : tos < 256) (hid : id < 65536) (httl : ttl < 256) (hpr : pr < 256) (hsr : sr < 4294967296) (hds : ds < 4294967296) (hop : op.length ≤ 40) (hsz : size < 65536) (hsum : sum < 65536) (w : World) :
    Calls Tryz.prog 84 #[.agg #[.int .u8 (tos : Nat), .int .u16 (id : Nat), .bool false, .int .u8 (ttl : Nat), .int .u8 (pr : Nat), .int .u32 (sr : Nat), .int .u32 (ds : Nat), str op, .int .i64 (size : Nat), .int .u16 (sum : Nat)]] w (Ret1 (str (ipHead tos id false ttl pr sr ds op size sum)) w) := by
  obtain ⟨f0, hf0⟩ : ∃ f0, f0 = (69 + op.length / 4) * 256 + tos := ⟨_, rfl⟩
  obtain ⟨tp, htp⟩ : ∃ tp, tp = ttl * 256 + pr := ⟨_, rfl⟩
  have hfin : ipHead tos id false ttl pr sr ds op size sum = wordsB [f0, size, id, 0, tp, sum] ++ b32 sr ++ b32 ds ++ op := by rw [hf0, htp]; exact head_words (by omega) htos hpr
  rw [hfin]
  have hf65 : f0 < 65536 := by omega
  have htp65 : tp < 65536 := by omega
  have KW := Lib.hid (fun g c W T fr hb => @wordP g c [f0, size, id, 0, tp, sum] (by simp; omega) (by simp) W T fr hb)
  have K1 := Lib.hid (fun W => put32_ok sr hsr W)
  have K2 := Lib.hid (fun W => put32_ok ds hds W)
  have lb1 : (b32 sr).length = 4 := rfl
  have lb2 : (b32 ds).length = 4 := rfl
  have lw : (wordsB [f0, size, id, 0, tp, sum]).length = 12 := by rw [wordsB_len]; rfl
  obtain ⟨s1, hs1⟩ : ∃ s : List UInt8, s = wordsB [f0, size, id, 0, tp, sum] ++ b32 sr := ⟨_, rfl⟩
  have ls1 : s1.length ≤ 16 := by rw [hs1]; first | (simp [b16_len, wordsB_len, b32]; done) | (simp [b16_len, wordsB_len, b32]; omega)
  have as1 : ∀ W, (Op.stringOp .add ⟨(wordsB [f0, size, id, 0, tp, sum]).toArray⟩ ⟨(b32 sr).toArray⟩).run Tryz.prog W = .ok (str s1) W := fun W => by rw [hs1]; exact run_string_add_lists (P := Tryz.prog) W (wordsB [f0, size, id, 0, tp, sum]) (b32 sr) (by first | omega | (simp [b16_len, wordsB_len, b32]; done) | (simp [b16_len, wordsB_len, b32]; omega)) (by first | omega | (simp [b16_len, wordsB_len, b32]; done) | (simp [b16_len, wordsB_len, b32]; omega))
  obtain ⟨s2, hs2⟩ : ∃ s : List UInt8, s = s1 ++ b32 ds := ⟨_, rfl⟩
  have ls2 : s2.length ≤ 20 := by rw [hs2]; first | (simp [b16_len, wordsB_len, b32]; done) | (simp [b16_len, wordsB_len, b32]; omega)
  have as2 : ∀ W, (Op.stringOp .add ⟨(s1).toArray⟩ ⟨(b32 ds).toArray⟩).run Tryz.prog W = .ok (str s2) W := fun W => by rw [hs2]; exact run_string_add_lists (P := Tryz.prog) W (s1) (b32 ds) (by first | omega | (simp [b16_len, wordsB_len, b32]; done) | (simp [b16_len, wordsB_len, b32]; omega)) (by first | omega | (simp [b16_len, wordsB_len, b32]; done) | (simp [b16_len, wordsB_len, b32]; omega))
  obtain ⟨s3, hs3⟩ : ∃ s : List UInt8, s = s2 ++ op := ⟨_, rfl⟩
  have ls3 : s3.length ≤ 60 := by rw [hs3]; first | (simp [b16_len, wordsB_len, b32]; done) | (simp [b16_len, wordsB_len, b32]; omega)
  have as3 : ∀ W, (Op.stringOp .add ⟨(s2).toArray⟩ ⟨(op).toArray⟩).run Tryz.prog W = .ok (str s3) W := fun W => by rw [hs3]; exact run_string_add_lists (P := Tryz.prog) W (s2) (op) (by first | omega | (simp [b16_len, wordsB_len, b32]; done) | (simp [b16_len, wordsB_len, b32]; omega)) (by first | omega | (simp [b16_len, wordsB_len, b32]; done) | (simp [b16_len, wordsB_len, b32]; omega))
  rw [← hs1, ← hs2, ← hs3]
  obtain ⟨q, hq⟩ : ∃ q, q = 69 + op.length / 4 := ⟨_, rfl⟩
  have c0 : IntKind.i64.wrap (20 + (op.length : Int)) = 20 + (op.length : Int) := IntWalk.i64_in _ (by omega)
  have c1 : (20 + (op.length : Int)).tdiv 4 = ((q - 64 : Nat) : Int) := by rw [Int.tdiv_eq_ediv_of_nonneg (by omega)]; omega
  have c1' : (20 + (op.length : Int)) / 4 = ((q - 64 : Nat) : Int) := by omega
  have c2 : IntKind.i64.wrap (64 + ((q - 64 : Nat) : Int)) = (q : Int) := (IntWalk.i64_in _ (by omega)).trans (by omega)
  have c2' : 64 + ((q - 64 : Nat) : Int) = (q : Int) := by omega
  have c3 : IntKind.u16.wrap (q : Int) = (q : Int) := IntWalk.u16_in _ (by omega)
  have c4 : IntKind.u16.wrap ((q : Int) * 256) = ((q * 256 : Nat) : Int) := (IntWalk.u16_in _ (by omega)).trans (by omega)
  have c4' : ((q : Int) * 256) = ((q * 256 : Nat) : Int) := by omega
  have c5 : bits .or .u16 ((q * 256 : Nat) : Int) (tos : Nat) = (f0 : Int) := by rw [orb8 (by omega) htos]; omega
  have c6 : IntKind.u16.wrap (tos : Int) = (tos : Int) := IntWalk.u16_in _ (by omega)
  have c7 : IntKind.u16.wrap (size : Int) = (size : Int) := IntWalk.u16_in _ (by omega)
  have c8 : IntKind.u16.wrap (ttl : Int) = (ttl : Int) := IntWalk.u16_in _ (by omega)
  have c9 : IntKind.u16.wrap (pr : Int) = (pr : Int) := IntWalk.u16_in _ (by omega)
  have c10 : IntKind.u16.wrap ((ttl : Int) * 256) = ((ttl * 256 : Nat) : Int) := (IntWalk.u16_in _ (by omega)).trans (by omega)
  have c10' : ((ttl : Int) * 256) = ((ttl * 256 : Nat) : Int) := by omega
  have c11 : bits .or .u16 ((ttl * 256 : Nat) : Int) (pr : Nat) = (tp : Int) := by rw [orb8 httl hpr]; omega
  generalize q * 256 = q2 at *
  generalize ttl * 256 = ttl2 at *
  generalize q - 64 = q1 at *
  generalize wordsB [f0, size, id, 0, tp, sum] = y0 at *
  generalize b32 sr = y1 at *
  generalize b32 ds = y2 at *
  clear hfin hf0 htp hq hs1 hs2 hs3 ls1 ls2 ls3 lb1 lb2 lw hf65 htp65
  go_enter Tryz.func84, Tryz.ntmps84
  have HN := Lib.hid (Fp.refl (fun _ => False) w)
  go_upto_region 1 with fail
  refine wp_gen (fun x1 hW => ?_)
  have hp := new_now hW
  have hB := new_blk hW
  clear hW
  have hGe := hid_ge HN
  replace HN := hid_now HN hp
  obtain ⟨g1, hg1⟩ : ∃ g1, g1 = w.heap.size := ⟨_, rfl⟩
  have G_g1 := Lib.hid (Nat.le_trans hGe (Nat.le_of_eq hg1.symm))
  rw [← hg1] at hB ⊢
  have B_g1 := hB
  clear hB hGe hg1
  clear hp
  have cg10 := cell_at B_g1 0 rfl
  have cg11 := cell_at B_g1 1 rfl
  have cg12 := cell_at B_g1 2 rfl
  have cg13 := cell_at B_g1 3 rfl
  have cg14 := cell_at B_g1 4 rfl
  have cg15 := cell_at B_g1 5 rfl
  have cg16 := cell_at B_g1 6 rfl
  have cg17 := cell_at B_g1 7 rfl
  have cg18 := cell_at B_g1 8 rfl
  have cg19 := cell_at B_g1 9 rfl
  have zg1 := froz_at B_g1
  have lg1 := hid_lt B_g1
  go_wp2_with fail
  clear cg10 cg11 cg12 cg13 cg14 cg15 cg16 cg17 cg18 cg19 zg1 lg1
  refine calls_gen (fun x2 hW => ?_)
  have l2g1 := hid_lt B_g1
  have hp := new_now hW
  have hB := new_blk hW
  clear hW
  have hGe := hid_ge HN
  replace HN := hid_now HN hp
  replace B_g1 := hid_blk B_g1 hp
  obtain ⟨gS, hgS⟩ : ∃ gS, gS = x1.heap.size := ⟨_, rfl⟩
  have G_gS := Lib.hid (Nat.le_trans hGe (Nat.le_of_eq hgS.symm))
  have n_g1_gS : ¬ g1 = gS := by omega
  have n_gS_g1 : ¬ gS = g1 := by omega
  clear l2g1
  rw [← hgS] at hB ⊢
  have B_gS := hB
  clear hB hGe hgS
  clear hp
  refine (show Calls _ _ _ _ _ from KW.out gS _ _ _ _ B_gS.out).mono ?_
  rintro e x3 ⟨rfl, hp⟩
  replace HN := hid_now HN hp
  replace B_g1 := hid_blk B_g1 hp
  replace B_gS := hid_blk B_gS hp
  clear hp
  go_upto_region 6 with fail
  have cg15 := cell_at B_g1 5 rfl
  have cg16 := cell_at B_g1 6 rfl
  have cg17 := cell_at B_g1 7 rfl
  have zg1 := froz_at B_g1
  have lg1 := hid_lt B_g1
  refine wp_region_held_drew (S := fun wx => NoW x3 wx) (by kernel_rfl) (Fp.drew (Fp.refl _ _)) (fun hHeld0 => ?_)
  refine any_eq hHeld0 (fun x4 hW hHeld => ?_)
  clear hHeld0
  replace B_g1 := hid_blk B_g1 (noW_drew hW)
  replace B_gS := hid_blk B_gS (noW_drew hW)
  clear hW
  (refine take_at 0 (some 45) rfl rfl (by kernel_rfl) (by kernel_rfl) (by kernel_rfl) (fun _ _ _ h => h) (v := ?_) (by kernel_rfl) ?_ (by assumption) ?_; rotate_left; (focus (intro wS hSw; skip; go_simp; try with_reducible rfl)); (try simp only [Act.put, List.setIfInBounds_toArray, List.set_cons_zero, List.set_cons_succ]))
  (refine take_at 1 (some 46) rfl rfl (by kernel_rfl) (by kernel_rfl) (by kernel_rfl) (fun _ _ _ h => h) (v := ?_) (by kernel_rfl) ?_ (by assumption) ?_; rotate_left; (focus (intro wS hSw; skip; go_simp; try with_reducible rfl)); (try simp only [Act.put, List.setIfInBounds_toArray, List.set_cons_zero, List.set_cons_succ]))
  (refine take_at 2 (some 47) rfl rfl (by kernel_rfl) (by kernel_rfl) (by kernel_rfl) (fun _ _ _ h => h) (v := ?_) (by kernel_rfl) ?_ (by assumption) ?_; rotate_left; (focus (intro wS hSw; skip; go_simp; try with_reducible rfl)); (try simp only [Act.put, List.setIfInBounds_toArray, List.set_cons_zero, List.set_cons_succ]))
  (refine take_at 3 (some 48) rfl rfl (by kernel_rfl) (by kernel_rfl) (by kernel_rfl) (fun _ _ _ h => h) (v := ?_) (by kernel_rfl) ?_ (by assumption) ?_; rotate_left; (focus (intro wS hSw; have hX := fun b o (h : b < _) => hSw.cell (p := ⟨b, o, none⟩) h (fun h => h); go_simp; try with_reducible rfl)); (try simp only [Act.put, List.setIfInBounds_toArray, List.set_cons_zero, List.set_cons_succ]))
  (refine take_at 6 (some 51) rfl rfl (by kernel_rfl) (by kernel_rfl) (by kernel_rfl) (fun _ _ _ h => h) (v := ?_) (by kernel_rfl) ?_ (by assumption) ?_; rotate_left; (focus (intro wS hSw; skip; go_simp; try with_reducible rfl)); (try simp only [Act.put, List.setIfInBounds_toArray, List.set_cons_zero, List.set_cons_succ]))
  (refine take_at 7 (some 52) rfl rfl (by kernel_rfl) (by kernel_rfl) (by kernel_rfl) (fun _ _ _ h => h) (v := ?_) (by kernel_rfl) ?_ (by assumption) ?_; rotate_left; (focus (intro wS hSw; skip; go_simp; try with_reducible rfl)); (try simp only [Act.put, List.setIfInBounds_toArray, List.set_cons_zero, List.set_cons_succ]))
  (refine take_at 8 (some 53) rfl rfl (by kernel_rfl) (by kernel_rfl) (by kernel_rfl) (fun _ _ _ h => h) (v := ?_) (by kernel_rfl) ?_ (by assumption) ?_; rotate_left; (focus (intro wS hSw; have hX := fun b o (h : b < _) => hSw.cell (p := ⟨b, o, none⟩) h (fun h => h); go_simp; try with_reducible rfl)); (try simp only [Act.put, List.setIfInBounds_toArray, List.set_cons_zero, List.set_cons_succ]))
  (refine take_at 11 (some 56) rfl rfl (by kernel_rfl) (by kernel_rfl) (by kernel_rfl) (fun _ _ _ h => h) (v := ?_) (by kernel_rfl) ?_ (by assumption) ?_; rotate_left; (focus (intro wS hSw; skip; go_simp; try with_reducible rfl)); (try simp only [Act.put, List.setIfInBounds_toArray, List.set_cons_zero, List.set_cons_succ]))
  (refine take_at 12 (some 57) rfl rfl (by kernel_rfl) (by kernel_rfl) (by kernel_rfl) (fun _ _ _ h => h) (v := ?_) (by kernel_rfl) ?_ (by assumption) ?_; rotate_left; (focus (intro wS hSw; skip; go_simp; try with_reducible rfl)); (try simp only [Act.put, List.setIfInBounds_toArray, List.set_cons_zero, List.set_cons_succ]))
  (refine take_at 13 (some 58) rfl rfl (by kernel_rfl) (by kernel_rfl) (by kernel_rfl) (fun _ _ _ h => h) (v := ?_) (by kernel_rfl) ?_ (by assumption) ?_; rotate_left; (focus (intro wS hSw; have hX := fun b o (h : b < _) => hSw.cell (p := ⟨b, o, none⟩) h (fun h => h); go_simp; try with_reducible rfl)); (try simp only [Act.put, List.setIfInBounds_toArray, List.set_cons_zero, List.set_cons_succ]))
  refine wpAnyH_ready (rs := [4]) (by kernel_rfl) (by simp) ?_
  refine AllReadyH.cons rfl (fun K hK => ?_) AllReadyH.nil
  go_simp
  go_at_call 80
  refine (show Calls _ _ _ _ _ from K1.out _).mono ?_
  rintro e x5 ⟨rfl, hp⟩
  have hn := Fp.trans hHeld hp (fun _ _ h => h.elim)
  replace B_g1 := hid_blk B_g1 hp
  replace B_gS := hid_blk B_gS hp
  refine k_now hK hn ?_
  clear hK K hp hHeld
  have hHeld := hn
  clear hn
  try simp only [Act.put, List.setIfInBounds_toArray, List.set_cons_zero, List.set_cons_succ]
  (refine take_at 5 (some 50) rfl rfl (by kernel_rfl) (by kernel_rfl) (by kernel_rfl) (fun _ _ _ h => h) (v := ?_) (by kernel_rfl) ?_ (by assumption) ?_; rotate_left; (focus (intro wS hSw; skip; go_simp; try with_reducible rfl)); (try simp only [Act.put, List.setIfInBounds_toArray, List.set_cons_zero, List.set_cons_succ]))
  refine wpAnyH_ready (rs := [9]) (by kernel_rfl) (by simp) ?_
  refine AllReadyH.cons rfl (fun K hK => ?_) AllReadyH.nil
  go_simp
  go_at_call 80
  refine (show Calls _ _ _ _ _ from K2.out _).mono ?_
  rintro e x6 ⟨rfl, hp⟩
  have hn := Fp.trans hHeld hp (fun _ _ h => h.elim)
  replace B_g1 := hid_blk B_g1 hp
  replace B_gS := hid_blk B_gS hp
  refine k_now hK hn ?_
  clear hK K hp hHeld
  have hHeld := hn
  clear hn
  try simp only [Act.put, List.setIfInBounds_toArray, List.set_cons_zero, List.set_cons_succ]
  (refine take_at 10 (some 55) rfl rfl (by kernel_rfl) (by kernel_rfl) (by kernel_rfl) (fun _ _ _ h => h) (v := ?_) (by kernel_rfl) ?_ (by assumption) ?_; rotate_left; (focus (intro wS hSw; skip; go_simp; try with_reducible rfl)); (try simp only [Act.put, List.setIfInBounds_toArray, List.set_cons_zero, List.set_cons_succ]))
  (refine take_at 14 (some 59) rfl rfl (by kernel_rfl) (by kernel_rfl) (by kernel_rfl) (fun _ _ _ h => h) (v := ?_) (by kernel_rfl) ?_ (by assumption) ?_; rotate_left; (focus (intro wS hSw; skip; go_simp; try with_reducible rfl)); (try simp only [Act.put, List.setIfInBounds_toArray, List.set_cons_zero, List.set_cons_succ]))
  (refine take_at 15 (some 2) rfl rfl (by kernel_rfl) (by kernel_rfl) (by kernel_rfl) (fun _ _ _ h => h) (v := ?_) (by kernel_rfl) ?_ (by assumption) ?_; rotate_left; (focus (intro wS hSw; skip; go_simp; try with_reducible rfl)); (try simp only [Act.put, List.setIfInBounds_toArray, List.set_cons_zero, List.set_cons_succ]))
  refine wpAnyH_done (by kernel_rfl) ?_ _
  clear cg15 cg16 cg17 zg1 lg1
  have hGe := hid_ge HN
  replace HN := hid_now HN hHeld
  clear hHeld hGe
  go_wp2_with fail
  go_ret
  exact ⟨rfl, HN.out⟩
set_option maxHeartbeats 4000000 in
set_option maxRecDepth 100000 in
theorem bytes_ok1 (tos id ttl pr sr ds size sum : Nat) (op : List UInt8) (htos : tos < 256) (hid : id < 65536) (httl : ttl < 256) (hpr : pr < 256) (hsr : sr < 4294967296) (hds : ds < 4294967296) (hop : op.length ≤ 40) (hsz : size < 65536) (hsum : sum < 65536) (w : World) :
    Calls Tryz.prog 84 #[.agg #[.int .u8 (tos : Nat), .int .u16 (id : Nat), .bool true, .int .u8 (ttl : Nat), .int .u8 (pr : Nat), .int .u32 (sr : Nat), .int .u32 (ds : Nat), str op, .int .i64 (size : Nat), .int .u16 (sum : Nat)]] w (Ret1 (str (ipHead tos id true ttl pr sr ds op size sum)) w) := by
  obtain ⟨f0, hf0⟩ : ∃ f0, f0 = (69 + op.length / 4) * 256 + tos := ⟨_, rfl⟩
  obtain ⟨tp, htp⟩ : ∃ tp, tp = ttl * 256 + pr := ⟨_, rfl⟩
  have hfin : ipHead tos id true ttl pr sr ds op size sum = wordsB [f0, size, id, 16384, tp, sum] ++ b32 sr ++ b32 ds ++ op := by rw [hf0, htp]; exact head_words (by omega) htos hpr
  rw [hfin]
  have hf65 : f0 < 65536 := by omega
  have htp65 : tp < 65536 := by omega
  have KW := Lib.hid (fun g c W T fr hb => @wordP g c [f0, size, id, 16384, tp, sum] (by simp; omega) (by simp) W T fr hb)
  have K1 := Lib.hid (fun W => put32_ok sr hsr W)
  have K2 := Lib.hid (fun W => put32_ok ds hds W)
  have lb1 : (b32 sr).length = 4 := rfl
  have lb2 : (b32 ds).length = 4 := rfl
  have lw : (wordsB [f0, size, id, 16384, tp, sum]).length = 12 := by rw [wordsB_len]; rfl
  obtain ⟨s1, hs1⟩ : ∃ s : List UInt8, s = wordsB [f0, size, id, 16384, tp, sum] ++ b32 sr := ⟨_, rfl⟩
  have ls1 : s1.length ≤ 16 := by rw [hs1]; first | (simp [b16_len, wordsB_len, b32]; done) | (simp [b16_len, wordsB_len, b32]; omega)
  have as1 : ∀ W, (Op.stringOp .add ⟨(wordsB [f0, size, id, 16384, tp, sum]).toArray⟩ ⟨(b32 sr).toArray⟩).run Tryz.prog W = .ok (str s1) W := fun W => by rw [hs1]; exact run_string_add_lists (P := Tryz.prog) W (wordsB [f0, size, id, 16384, tp, sum]) (b32 sr) (by first | omega | (simp [b16_len, wordsB_len, b32]; done) | (simp [b16_len, wordsB_len, b32]; omega)) (by first | omega | (simp [b16_len, wordsB_len, b32]; done) | (simp [b16_len, wordsB_len, b32]; omega))
  obtain ⟨s2, hs2⟩ : ∃ s : List UInt8, s = s1 ++ b32 ds := ⟨_, rfl⟩
  have ls2 : s2.length ≤ 20 := by rw [hs2]; first | (simp [b16_len, wordsB_len, b32]; done) | (simp [b16_len, wordsB_len, b32]; omega)
  have as2 : ∀ W, (Op.stringOp .add ⟨(s1).toArray⟩ ⟨(b32 ds).toArray⟩).run Tryz.prog W = .ok (str s2) W := fun W => by rw [hs2]; exact run_string_add_lists (P := Tryz.prog) W (s1) (b32 ds) (by first | omega | (simp [b16_len, wordsB_len, b32]; done) | (simp [b16_len, wordsB_len, b32]; omega)) (by first | omega | (simp [b16_len, wordsB_len, b32]; done) | (simp [b16_len, wordsB_len, b32]; omega))
  obtain ⟨s3, hs3⟩ : ∃ s : List UInt8, s = s2 ++ op := ⟨_, rfl⟩
  have ls3 : s3.length ≤ 60 := by rw [hs3]; first | (simp [b16_len, wordsB_len, b32]; done) | (simp [b16_len, wordsB_len, b32]; omega)
  have as3 : ∀ W, (Op.stringOp .add ⟨(s2).toArray⟩ ⟨(op).toArray⟩).run Tryz.prog W = .ok (str s3) W := fun W => by rw [hs3]; exact run_string_add_lists (P := Tryz.prog) W (s2) (op) (by first | omega | (simp [b16_len, wordsB_len, b32]; done) | (simp [b16_len, wordsB_len, b32]; omega)) (by first | omega | (simp [b16_len, wordsB_len, b32]; done) | (simp [b16_len, wordsB_len, b32]; omega))
  rw [← hs1, ← hs2, ← hs3]
  obtain ⟨q, hq⟩ : ∃ q, q = 69 + op.length / 4 := ⟨_, rfl⟩
  have c0 : IntKind.i64.wrap (20 + (op.length : Int)) = 20 + (op.length : Int) := IntWalk.i64_in _ (by omega)
  have c1 : (20 + (op.length : Int)).tdiv 4 = ((q - 64 : Nat) : Int) := by rw [Int.tdiv_eq_ediv_of_nonneg (by omega)]; omega
  have c1' : (20 + (op.length : Int)) / 4 = ((q - 64 : Nat) : Int) := by omega
  have c2 : IntKind.i64.wrap (64 + ((q - 64 : Nat) : Int)) = (q : Int) := (IntWalk.i64_in _ (by omega)).trans (by omega)
  have c2' : 64 + ((q - 64 : Nat) : Int) = (q : Int) := by omega
  have c3 : IntKind.u16.wrap (q : Int) = (q : Int) := IntWalk.u16_in _ (by omega)
  have c4 : IntKind.u16.wrap ((q : Int) * 256) = ((q * 256 : Nat) : Int) := (IntWalk.u16_in _ (by omega)).trans (by omega)
  have c4' : ((q : Int) * 256) = ((q * 256 : Nat) : Int) := by omega
  have c5 : bits .or .u16 ((q * 256 : Nat) : Int) (tos : Nat) = (f0 : Int) := by rw [orb8 (by omega) htos]; omega
  have c6 : IntKind.u16.wrap (tos : Int) = (tos : Int) := IntWalk.u16_in _ (by omega)
  have c7 : IntKind.u16.wrap (size : Int) = (size : Int) := IntWalk.u16_in _ (by omega)
  have c8 : IntKind.u16.wrap (ttl : Int) = (ttl : Int) := IntWalk.u16_in _ (by omega)
  have c9 : IntKind.u16.wrap (pr : Int) = (pr : Int) := IntWalk.u16_in _ (by omega)
  have c10 : IntKind.u16.wrap ((ttl : Int) * 256) = ((ttl * 256 : Nat) : Int) := (IntWalk.u16_in _ (by omega)).trans (by omega)
  have c10' : ((ttl : Int) * 256) = ((ttl * 256 : Nat) : Int) := by omega
  have c11 : bits .or .u16 ((ttl * 256 : Nat) : Int) (pr : Nat) = (tp : Int) := by rw [orb8 httl hpr]; omega
  generalize q * 256 = q2 at *
  generalize ttl * 256 = ttl2 at *
  generalize q - 64 = q1 at *
  generalize wordsB [f0, size, id, 16384, tp, sum] = y0 at *
  generalize b32 sr = y1 at *
  generalize b32 ds = y2 at *
  clear hfin hf0 htp hq hs1 hs2 hs3 ls1 ls2 ls3 lb1 lb2 lw hf65 htp65
  go_enter Tryz.func84, Tryz.ntmps84
  have HN := Lib.hid (Fp.refl (fun _ => False) w)
  go_upto_region 1 with fail
  refine wp_gen (fun x1 hW => ?_)
  have hp := new_now hW
  have hB := new_blk hW
  clear hW
  have hGe := hid_ge HN
  replace HN := hid_now HN hp
  obtain ⟨g1, hg1⟩ : ∃ g1, g1 = w.heap.size := ⟨_, rfl⟩
  have G_g1 := Lib.hid (Nat.le_trans hGe (Nat.le_of_eq hg1.symm))
  rw [← hg1] at hB ⊢
  have B_g1 := hB
  clear hB hGe hg1
  clear hp
  have cg10 := cell_at B_g1 0 rfl
  have cg11 := cell_at B_g1 1 rfl
  have cg12 := cell_at B_g1 2 rfl
  have cg13 := cell_at B_g1 3 rfl
  have cg14 := cell_at B_g1 4 rfl
  have cg15 := cell_at B_g1 5 rfl
  have cg16 := cell_at B_g1 6 rfl
  have cg17 := cell_at B_g1 7 rfl
  have cg18 := cell_at B_g1 8 rfl
  have cg19 := cell_at B_g1 9 rfl
  have zg1 := froz_at B_g1
  have lg1 := hid_lt B_g1
  go_wp2_with fail
  clear cg10 cg11 cg12 cg13 cg14 cg15 cg16 cg17 cg18 cg19 zg1 lg1
  refine calls_gen (fun x2 hW => ?_)
  have l2g1 := hid_lt B_g1
  have hp := new_now hW
  have hB := new_blk hW
  clear hW
  have hGe := hid_ge HN
  replace HN := hid_now HN hp
  replace B_g1 := hid_blk B_g1 hp
  obtain ⟨gS, hgS⟩ : ∃ gS, gS = x1.heap.size := ⟨_, rfl⟩
  have G_gS := Lib.hid (Nat.le_trans hGe (Nat.le_of_eq hgS.symm))
  have n_g1_gS : ¬ g1 = gS := by omega
  have n_gS_g1 : ¬ gS = g1 := by omega
  clear l2g1
  rw [← hgS] at hB ⊢
  have B_gS := hB
  clear hB hGe hgS
  clear hp
  refine (show Calls _ _ _ _ _ from KW.out gS _ _ _ _ B_gS.out).mono ?_
  rintro e x3 ⟨rfl, hp⟩
  replace HN := hid_now HN hp
  replace B_g1 := hid_blk B_g1 hp
  replace B_gS := hid_blk B_gS hp
  clear hp
  go_upto_region 6 with fail
  have cg15 := cell_at B_g1 5 rfl
  have cg16 := cell_at B_g1 6 rfl
  have cg17 := cell_at B_g1 7 rfl
  have zg1 := froz_at B_g1
  have lg1 := hid_lt B_g1
  refine wp_region_held_drew (S := fun wx => NoW x3 wx) (by kernel_rfl) (Fp.drew (Fp.refl _ _)) (fun hHeld0 => ?_)
  refine any_eq hHeld0 (fun x4 hW hHeld => ?_)
  clear hHeld0
  replace B_g1 := hid_blk B_g1 (noW_drew hW)
  replace B_gS := hid_blk B_gS (noW_drew hW)
  clear hW
  (refine take_at 0 (some 45) rfl rfl (by kernel_rfl) (by kernel_rfl) (by kernel_rfl) (fun _ _ _ h => h) (v := ?_) (by kernel_rfl) ?_ (by assumption) ?_; rotate_left; (focus (intro wS hSw; skip; go_simp; try with_reducible rfl)); (try simp only [Act.put, List.setIfInBounds_toArray, List.set_cons_zero, List.set_cons_succ]))
  (refine take_at 1 (some 46) rfl rfl (by kernel_rfl) (by kernel_rfl) (by kernel_rfl) (fun _ _ _ h => h) (v := ?_) (by kernel_rfl) ?_ (by assumption) ?_; rotate_left; (focus (intro wS hSw; skip; go_simp; try with_reducible rfl)); (try simp only [Act.put, List.setIfInBounds_toArray, List.set_cons_zero, List.set_cons_succ]))
  (refine take_at 2 (some 47) rfl rfl (by kernel_rfl) (by kernel_rfl) (by kernel_rfl) (fun _ _ _ h => h) (v := ?_) (by kernel_rfl) ?_ (by assumption) ?_; rotate_left; (focus (intro wS hSw; skip; go_simp; try with_reducible rfl)); (try simp only [Act.put, List.setIfInBounds_toArray, List.set_cons_zero, List.set_cons_succ]))
  (refine take_at 3 (some 48) rfl rfl (by kernel_rfl) (by kernel_rfl) (by kernel_rfl) (fun _ _ _ h => h) (v := ?_) (by kernel_rfl) ?_ (by assumption) ?_; rotate_left; (focus (intro wS hSw; have hX := fun b o (h : b < _) => hSw.cell (p := ⟨b, o, none⟩) h (fun h => h); go_simp; try with_reducible rfl)); (try simp only [Act.put, List.setIfInBounds_toArray, List.set_cons_zero, List.set_cons_succ]))
  (refine take_at 6 (some 51) rfl rfl (by kernel_rfl) (by kernel_rfl) (by kernel_rfl) (fun _ _ _ h => h) (v := ?_) (by kernel_rfl) ?_ (by assumption) ?_; rotate_left; (focus (intro wS hSw; skip; go_simp; try with_reducible rfl)); (try simp only [Act.put, List.setIfInBounds_toArray, List.set_cons_zero, List.set_cons_succ]))
  (refine take_at 7 (some 52) rfl rfl (by kernel_rfl) (by kernel_rfl) (by kernel_rfl) (fun _ _ _ h => h) (v := ?_) (by kernel_rfl) ?_ (by assumption) ?_; rotate_left; (focus (intro wS hSw; skip; go_simp; try with_reducible rfl)); (try simp only [Act.put, List.setIfInBounds_toArray, List.set_cons_zero, List.set_cons_succ]))
  (refine take_at 8 (some 53) rfl rfl (by kernel_rfl) (by kernel_rfl) (by kernel_rfl) (fun _ _ _ h => h) (v := ?_) (by kernel_rfl) ?_ (by assumption) ?_; rotate_left; (focus (intro wS hSw; have hX := fun b o (h : b < _) => hSw.cell (p := ⟨b, o, none⟩) h (fun h => h); go_simp; try with_reducible rfl)); (try simp only [Act.put, List.setIfInBounds_toArray, List.set_cons_zero, List.set_cons_succ]))
  (refine take_at 11 (some 56) rfl rfl (by kernel_rfl) (by kernel_rfl) (by kernel_rfl) (fun _ _ _ h => h) (v := ?_) (by kernel_rfl) ?_ (by assumption) ?_; rotate_left; (focus (intro wS hSw; skip; go_simp; try with_reducible rfl)); (try simp only [Act.put, List.setIfInBounds_toArray, List.set_cons_zero, List.set_cons_succ]))
  (refine take_at 12 (some 57) rfl rfl (by kernel_rfl) (by kernel_rfl) (by kernel_rfl) (fun _ _ _ h => h) (v := ?_) (by kernel_rfl) ?_ (by assumption) ?_; rotate_left; (focus (intro wS hSw; skip; go_simp; try with_reducible rfl)); (try simp only [Act.put, List.setIfInBounds_toArray, List.set_cons_zero, List.set_cons_succ]))
  (refine take_at 13 (some 58) rfl rfl (by kernel_rfl) (by kernel_rfl) (by kernel_rfl) (fun _ _ _ h => h) (v := ?_) (by kernel_rfl) ?_ (by assumption) ?_; rotate_left; (focus (intro wS hSw; have hX := fun b o (h : b < _) => hSw.cell (p := ⟨b, o, none⟩) h (fun h => h); go_simp; try with_reducible rfl)); (try simp only [Act.put, List.setIfInBounds_toArray, List.set_cons_zero, List.set_cons_succ]))
  refine wpAnyH_ready (rs := [4]) (by kernel_rfl) (by simp) ?_
  refine AllReadyH.cons rfl (fun K hK => ?_) AllReadyH.nil
  go_simp
  go_at_call 80
  refine (show Calls _ _ _ _ _ from K1.out _).mono ?_
  rintro e x5 ⟨rfl, hp⟩
  have hn := Fp.trans hHeld hp (fun _ _ h => h.elim)
  replace B_g1 := hid_blk B_g1 hp
  replace B_gS := hid_blk B_gS hp
  refine k_now hK hn ?_
  clear hK K hp hHeld
  have hHeld := hn
  clear hn
  try simp only [Act.put, List.setIfInBounds_toArray, List.set_cons_zero, List.set_cons_succ]
  (refine take_at 5 (some 50) rfl rfl (by kernel_rfl) (by kernel_rfl) (by kernel_rfl) (fun _ _ _ h => h) (v := ?_) (by kernel_rfl) ?_ (by assumption) ?_; rotate_left; (focus (intro wS hSw; skip; go_simp; try with_reducible rfl)); (try simp only [Act.put, List.setIfInBounds_toArray, List.set_cons_zero, List.set_cons_succ]))
  refine wpAnyH_ready (rs := [9]) (by kernel_rfl) (by simp) ?_
  refine AllReadyH.cons rfl (fun K hK => ?_) AllReadyH.nil
  go_simp
  go_at_call 80
  refine (show Calls _ _ _ _ _ from K2.out _).mono ?_
  rintro e x6 ⟨rfl, hp⟩
  have hn := Fp.trans hHeld hp (fun _ _ h => h.elim)
  replace B_g1 := hid_blk B_g1 hp
  replace B_gS := hid_blk B_gS hp
  refine k_now hK hn ?_
  clear hK K hp hHeld
  have hHeld := hn
  clear hn
  try simp only [Act.put, List.setIfInBounds_toArray, List.set_cons_zero, List.set_cons_succ]
  (refine take_at 10 (some 55) rfl rfl (by kernel_rfl) (by kernel_rfl) (by kernel_rfl) (fun _ _ _ h => h) (v := ?_) (by kernel_rfl) ?_ (by assumption) ?_; rotate_left; (focus (intro wS hSw; skip; go_simp; try with_reducible rfl)); (try simp only [Act.put, List.setIfInBounds_toArray, List.set_cons_zero, List.set_cons_succ]))
  (refine take_at 14 (some 59) rfl rfl (by kernel_rfl) (by kernel_rfl) (by kernel_rfl) (fun _ _ _ h => h) (v := ?_) (by kernel_rfl) ?_ (by assumption) ?_; rotate_left; (focus (intro wS hSw; skip; go_simp; try with_reducible rfl)); (try simp only [Act.put, List.setIfInBounds_toArray, List.set_cons_zero, List.set_cons_succ]))
  (refine take_at 15 (some 2) rfl rfl (by kernel_rfl) (by kernel_rfl) (by kernel_rfl) (fun _ _ _ h => h) (v := ?_) (by kernel_rfl) ?_ (by assumption) ?_; rotate_left; (focus (intro wS hSw; skip; go_simp; try with_reducible rfl)); (try simp only [Act.put, List.setIfInBounds_toArray, List.set_cons_zero, List.set_cons_succ]))
  refine wpAnyH_done (by kernel_rfl) ?_ _
  clear cg15 cg16 cg17 zg1 lg1
  have hGe := hid_ge HN
  replace HN := hid_now HN hHeld
  clear hHeld hGe
  go_wp2_with fail
  go_ret
  exact ⟨rfl, HN.out⟩
theorem bytes_ok (tos id ttl pr sr ds size sum : Nat) (fl : Bool) (op : List UInt8) (htos : tos < 256) (hid : id < 65536) (httl : ttl < 256) (hpr : pr < 256) (hsr : sr < 4294967296) (hds : ds < 4294967296) (hop : op.length ≤ 40) (hsz : size < 65536) (hsum : sum < 65536) (w : World) :
    Calls Tryz.prog 84 #[.agg #[.int .u8 (tos : Nat), .int .u16 (id : Nat), .bool fl, .int .u8 (ttl : Nat), .int .u8 (pr : Nat), .int .u32 (sr : Nat), .int .u32 (ds : Nat), str op, .int .i64 (size : Nat), .int .u16 (sum : Nat)]] w (Ret1 (str (ipHead tos id fl ttl pr sr ds op size sum)) w) := by
  cases fl
  · exact bytes_ok0 tos id ttl pr sr ds size sum op htos hid httl hpr hsr hds hop hsz hsum w
  · exact bytes_ok1 tos id ttl pr sr ds size sum op htos hid httl hpr hsr hds hop hsz hsum w
end Go.Proofs.YtmghjaoodnkjlaaGreatDoor
