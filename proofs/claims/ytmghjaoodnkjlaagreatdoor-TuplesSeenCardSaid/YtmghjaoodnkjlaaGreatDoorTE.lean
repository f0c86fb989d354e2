/- Chapter 08: the law's packets (porterlaw08.put) (written by gen8e.py). -/
import Derived.Test.YtmghjaoodnkjlaaGreatDoorTD
namespace Go.Proofs.YtmghjaoodnkjlaaGreatDoor
set_option linter.unusedVariables false
set_option linter.unusedSimpArgs false
open Go.RowKit Go.Lib Go.Sort
def ipOkB (op d : List UInt8) : Bool := decide (op.length ≤ 40 ∧ op.length % 4 = 0 ∧ d.length ≤ 2028 - op.length)
def ipS (tos id : Nat) (fl : Bool) (ttl pr sr ds : Nat) (op d : List UInt8) : List UInt8 :=
  if ipOkB op d = true then ipHead tos id fl ttl pr sr ds op (20 + op.length + d.length) (csum [ipHead tos id fl ttl pr sr ds op (20 + op.length + d.length) 0]) ++ d else []
def ipE (op d : List UInt8) : Nat := if ipOkB op d = true then 0 else if op.length ≤ 40 ∧ op.length % 4 = 0 then 4 else 2
theorem ipE_zero {op d : List UInt8} : ((ipE op d : Int) == 0) = ipOkB op d := by
  unfold ipE
  rcases ipOkB op d with _ | _
  · split
    · simp_all
    · split <;> rfl
  · rfl
theorem ip_put_any (tos id ttl pr sr ds : Nat) (fl : Bool) (op d : List UInt8) (htos : tos < 256) (hid : id < 65536) (httl : ttl < 256) (hpr : pr < 256) (hsr : sr < 4294967296) (hds : ds < 4294967296) (hop : op.length ≤ 1000000) (hd : d.length ≤ 1000000) (w : World) :
    Calls Tryz.prog 49 #[.agg #[.int .u8 (tos : Nat), .int .u16 (id : Nat), .bool fl, .int .u8 (ttl : Nat), .int .u8 (pr : Nat), .int .u32 (sr : Nat), .int .u32 (ds : Nat), str op], str d] w (Ret1 (.tuple #[str (ipS tos id fl ttl pr sr ds op d), .int .i64 (ipE op d : Nat)]) w) := by
  by_cases h : op.length ≤ 40 ∧ op.length % 4 = 0 ∧ d.length ≤ 2028 - op.length
  · have hb : ipOkB op d = true := decide_eq_true h
    unfold ipS ipE
    rw [if_pos hb, if_pos hb]
    exact ip_put_ok tos id ttl pr sr ds fl op d htos hid httl hpr hsr hds h.1 h.2.1 h.2.2 w
  · have hb : ¬ ipOkB op d = true := by unfold ipOkB; rw [decide_eq_true_eq]; exact h
    unfold ipS ipE
    rw [if_neg hb, if_neg hb]
    by_cases h1 : 40 < op.length
    · rw [if_neg (by omega)]
      exact ip_put_opts tos id ttl pr sr ds fl op d hop hd h1 w
    · by_cases h2 : op.length % 4 = 0
      · rw [if_pos (by omega)]
        exact ip_put_long tos id ttl pr sr ds fl op d hop hd (by omega) h2 (by omega) w
      · rw [if_neg (by omega)]
        exact ip_put_opts4 tos id ttl pr sr ds fl op d hop hd (by omega) h2 w
def tcpOkP (low : Nat) (op : List UInt8) : Bool := decide (op.length ≤ 40 ∧ op.length % 4 = 0 ∧ low ≤ 15)
def tcpS (sp dp seq ack low fg win sum urg : Nat) (op d : List UInt8) : List UInt8 := if tcpOkP low op = true then tcpPutL sp dp seq ack low fg win sum urg op d else []
theorem tcp_put_any (sp dp seq ack low fg win sum urg : Nat) (op d : List UInt8) (hsp : sp < 65536) (hdp : dp < 65536) (hseq : seq < 4294967296) (hack : ack < 4294967296) (hfg : fg < 256) (hwin : win < 65536) (hsum : sum < 65536) (hurg : urg < 65536) (hop : op.length ≤ 1000000) (hd : d.length ≤ 1000) (w : World) :
    Calls Tryz.prog 45 #[.agg #[.int .u16 (sp : Nat), .int .u16 (dp : Nat), .int .u32 (seq : Nat), .int .u32 (ack : Nat), .int .u8 (low : Nat), .int .u8 (fg : Nat), .int .u16 (win : Nat), .int .u16 (sum : Nat), .int .u16 (urg : Nat), str op], str d] w (Ret1 (.tuple #[str (tcpS sp dp seq ack low fg win sum urg op d), .int .i64 (if tcpOkP low op = true then 0 else 2)]) w) := by
  by_cases h : op.length ≤ 40 ∧ op.length % 4 = 0 ∧ low ≤ 15
  · have hb : tcpOkP low op = true := decide_eq_true h
    unfold tcpS
    rw [if_pos hb, if_pos hb]
    exact tcp_put_ok sp dp seq ack low fg win sum urg op d hsp hdp hseq hack h.2.2 hfg hwin hsum hurg h.1 h.2.1 hd w
  · have hb : ¬ tcpOkP low op = true := by unfold tcpOkP; rw [decide_eq_true_eq]; exact h
    unfold tcpS
    rw [if_neg hb, if_neg hb]
    by_cases h1 : 40 < op.length
    · exact tcp_put_opts sp dp seq ack low fg win sum urg op d hop h1 w
    · by_cases h2 : op.length % 4 = 0
      · exact tcp_put_low sp dp seq ack low fg win sum urg op d hop (by omega) h2 (by omega) w
      · exact tcp_put_opts4 sp dp seq ack low fg win sum urg op d hop (by omega) h2 w
set_option maxHeartbeats 8000000 in
set_option maxRecDepth 100000 in
theorem lput_tcp0 (tos id : Nat) (fl : Bool) (ttl : Nat) (pr0 sr0 ds0 : Int) (op : List UInt8) (sp0 dp0 : Int) (seq ack low fg win sum urg : Nat) (gop : List UInt8) (ty : Nat) (d : List UInt8) (sr sp ds dp : Nat) (htos : tos < 256) (hid : id < 65536) (httl : ttl < 256) (hop : op.length ≤ 600) (hseq : seq < 4294967296) (hack : ack < 4294967296) (hfg : fg < 256) (hwin : win < 65536) (hsum : sum < 65536) (hurg : urg < 65536) (hgop : gop.length ≤ 600) (hty : ty < 256) (hd : d.length ≤ 600) (hsr : sr < 4294967296) (hsp : sp < 65536) (hds : ds < 4294967296) (hdp : dp < 65536) (hok : tcpOkP low gop = false) (w : World) :
    Calls Tryz.prog 22 #[.agg #[.int .u8 6, .int .u32 (sr : Nat), .int .u16 (sp : Nat), .int .u32 (ds : Nat), .int .u16 (dp : Nat)], .agg #[.int .u8 (tos : Nat), .int .u16 (id : Nat), .bool fl, .int .u8 (ttl : Nat), .int .u8 pr0, .int .u32 sr0, .int .u32 ds0, str op, .int .u16 sp0, .int .u16 dp0, .int .u32 (seq : Nat), .int .u32 (ack : Nat), .int .u8 (low : Nat), .int .u8 (fg : Nat), .int .u16 (win : Nat), .int .u16 (sum : Nat), .int .u16 (urg : Nat), str gop, .int .u8 (ty : Nat), str d]] w (Ret1 (.tuple #[str (ipS tos id fl ttl 6 sr ds op (tcpS sp dp seq ack low fg win sum urg gop d)), .bool false]) w) := by
  have KT := Lib.hid (fun W => tcp_put_any sp dp seq ack low fg win sum urg gop d hsp hdp hseq hack hfg hwin hsum hurg (by omega) (by omega) W)
  rw [hok, if_neg (by decide)] at KT
  obtain ⟨ld, hld⟩ : ∃ ld, ld = tcpS sp dp seq ack low fg win sum urg gop d := ⟨_, rfl⟩
  rw [← hld]
  have lld : ld.length ≤ 1000000 := by rw [hld]; unfold tcpS; split <;> (simp [tcpPutL, b16_len, b32]; try omega)
  have KI := Lib.hid (fun W => ip_put_any tos id ttl 6 sr ds fl op ld htos hid httl (by omega) hsr hds (by omega) lld W)
  have hf : ((ipE op ld : Int) == 0) = ipOkB op ld := ipE_zero
  generalize ipS tos id fl ttl 6 sr ds op ld = S at *
  generalize ipE op ld = f at *
  generalize ipOkB op ld = B2 at *
  rw [← hld] at KT
  clear hld lld hok
  go_enter Tryz.func22, Tryz.ntmps22
  have HN := Lib.hid (Fp.refl (fun _ => False) w)
  go_upto_region 1 with fail
  refine wp_gen (fun x1 hW => ?_)
  obtain ⟨hB, hB2, hp⟩ := new2_blk hW
  clear hW
  have hGe := hid_ge HN
  replace HN := hid_now HN hp
  obtain ⟨g3, hg3⟩ : ∃ g3, g3 = w.heap.size + 1 := ⟨_, rfl⟩
  obtain ⟨g2, hg2⟩ : ∃ g2, g2 = w.heap.size := ⟨_, rfl⟩
  have G_g2 := Lib.hid (show w.heap.size ≤ g2 by omega)
  have G_g3 := Lib.hid (show w.heap.size ≤ g3 by omega)
  have n_g2_g3 : ¬ g2 = g3 := by omega
  have n_g3_g2 : ¬ g3 = g2 := by omega
  rw [← hg3] at hB2 ⊢
  rw [← hg2] at hB ⊢
  have B_g2 := hB
  have B_g3 := hB2
  clear hB hB2 hg2 hg3 hGe hp
  have cg20 := cell_at B_g2 0 rfl
  have cg21 := cell_at B_g2 1 rfl
  have cg22 := cell_at B_g2 2 rfl
  have cg23 := cell_at B_g2 3 rfl
  have cg24 := cell_at B_g2 4 rfl
  have zg2 := froz_at B_g2
  have lg2 := hid_lt B_g2
  refine wp_region_held_drew (S := fun wx => Fp (fun b => b = g3) x1 wx) (by kernel_rfl) (Fp.drew (Fp.refl _ _)) (fun hHeld0 => ?_)
  refine any_eq hHeld0 (fun x2 hW hHeld => ?_)
  clear hHeld0
  replace B_g2 := hid_blk B_g2 (noW_drew hW)
  replace B_g3 := hid_blk B_g3 (noW_drew hW)
  clear hW
  (refine take_at 0 (some 10) rfl rfl (by kernel_rfl) (by kernel_rfl) (by kernel_rfl) (fun _ _ _ h => h) (v := ?_) (by kernel_rfl) ?_ (by assumption) ?_; rotate_left; (focus (intro wS hSw; skip; go_simp; try with_reducible rfl)); (try simp only [Act.put, List.setIfInBounds_toArray, List.set_cons_zero, List.set_cons_succ]))
  (refine take_at 1 (some 11) rfl rfl (by kernel_rfl) (by kernel_rfl) (by kernel_rfl) (fun _ _ _ h => h) (v := ?_) (by kernel_rfl) ?_ (by assumption) ?_; rotate_left; (focus (intro wS hSw; have hX := fun b o h hn => hSw.cell (p := ⟨b, o, none⟩) h hn; go_simp; try with_reducible rfl)); (try simp only [Act.put, List.setIfInBounds_toArray, List.set_cons_zero, List.set_cons_succ]))
  (refine take_at 2 (some 12) rfl rfl (by kernel_rfl) (by kernel_rfl) (by kernel_rfl) (fun _ _ _ h => h) (v := ?_) (by kernel_rfl) ?_ (by assumption) ?_; rotate_left; (focus (intro wS hSw; skip; go_simp; try with_reducible rfl)); (try simp only [Act.put, List.setIfInBounds_toArray, List.set_cons_zero, List.set_cons_succ]))
  (refine take_at 3 (some 13) rfl rfl (by kernel_rfl) (by kernel_rfl) (by kernel_rfl) (fun _ _ _ h => h) (v := ?_) (by kernel_rfl) ?_ (by assumption) ?_; rotate_left; (focus (intro wS hSw; skip; go_simp; try with_reducible rfl)); (try simp only [Act.put, List.setIfInBounds_toArray, List.set_cons_zero, List.set_cons_succ]))
  (refine take_at 4 (some 14) rfl rfl (by kernel_rfl) (by kernel_rfl) (by kernel_rfl) (fun _ _ _ h => h) (v := ?_) (by kernel_rfl) ?_ (by assumption) ?_; rotate_left; (focus (intro wS hSw; have hX := fun b o h hn => hSw.cell (p := ⟨b, o, none⟩) h hn; go_simp; try with_reducible rfl)); (try simp only [Act.put, List.setIfInBounds_toArray, List.set_cons_zero, List.set_cons_succ]))
  (refine take_at 5 (some 15) rfl rfl (by kernel_rfl) (by kernel_rfl) (by kernel_rfl) (fun _ _ _ h => h) (v := ?_) (by kernel_rfl) ?_ (by assumption) ?_; rotate_left; (focus (intro wS hSw; skip; go_simp; try with_reducible rfl)); (try simp only [Act.put, List.setIfInBounds_toArray, List.set_cons_zero, List.set_cons_succ]))
  (refine take_at 6 (some 16) rfl rfl (by kernel_rfl) (by kernel_rfl) (by kernel_rfl) (fun _ _ _ h => h) (v := ?_) (by kernel_rfl) ?_ (by assumption) ?_; rotate_left; (focus (intro wS hSw; skip; go_simp; try with_reducible rfl)); (try simp only [Act.put, List.setIfInBounds_toArray, List.set_cons_zero, List.set_cons_succ]))
  (refine take_at 7 (some 17) rfl rfl (by kernel_rfl) (by kernel_rfl) (by kernel_rfl) (fun _ _ _ h => h) (v := ?_) (by kernel_rfl) ?_ (by assumption) ?_; rotate_left; (focus (intro wS hSw; have hX := fun b o h hn => hSw.cell (p := ⟨b, o, none⟩) h hn; go_simp; try with_reducible rfl)); (try simp only [Act.put, List.setIfInBounds_toArray, List.set_cons_zero, List.set_cons_succ]))
  (refine take_at 8 (some 18) rfl rfl (by kernel_rfl) (by kernel_rfl) (by kernel_rfl) (fun _ _ _ h => h) (v := ?_) (by kernel_rfl) ?_ (by assumption) ?_; rotate_left; (focus (intro wS hSw; skip; go_simp; try with_reducible rfl)); (try simp only [Act.put, List.setIfInBounds_toArray, List.set_cons_zero, List.set_cons_succ]))
  (refine take_at 9 (some 19) rfl rfl (by kernel_rfl) (by kernel_rfl) (by kernel_rfl) (fun _ _ _ h => h) (v := ?_) (by kernel_rfl) ?_ (by assumption) ?_; rotate_left; (focus (intro wS hSw; skip; go_simp; try with_reducible rfl)); (try simp only [Act.put, List.setIfInBounds_toArray, List.set_cons_zero, List.set_cons_succ]))
  refine wpAnyH_ready (rs := [10]) (by kernel_rfl) (by simp) ?_
  refine AllReadyH.cons rfl (fun K hK => ?_) AllReadyH.nil
  have cg34 := cell_at B_g3 4 rfl
  have zg3 := froz_at B_g3
  have lg3 := hid_lt B_g3
  go_simp
  refine k_gen hK (fun x3 hW => ?_)
  have hB := set_blk hW B_g3
  have hf := set_now hW
  clear hW zg3 lg3 cg34
  simp only [List.setIfInBounds_toArray, List.set_cons_zero, List.set_cons_succ] at hB
  have hn := Fp.trans hHeld hf (fun i _ e => e)
  refine ⟨hn, ?_⟩
  clear hK K hHeld
  have hHeld := hn
  clear hn
  try simp only [Act.put, List.setIfInBounds_toArray, List.set_cons_zero, List.set_cons_succ]
  replace B_g2 := hid_blkS B_g2 hf n_g2_g3
  replace B_g3 := hB
  clear hB hf
  (refine take_at 11 (some 20) rfl rfl (by kernel_rfl) (by kernel_rfl) (by kernel_rfl) (fun _ _ _ h => h) (v := ?_) (by kernel_rfl) ?_ (by assumption) ?_; rotate_left; (focus (intro wS hSw; skip; go_simp; try with_reducible rfl)); (try simp only [Act.put, List.setIfInBounds_toArray, List.set_cons_zero, List.set_cons_succ]))
  (refine take_at 12 (some 21) rfl rfl (by kernel_rfl) (by kernel_rfl) (by kernel_rfl) (fun _ _ _ h => h) (v := ?_) (by kernel_rfl) ?_ (by assumption) ?_; rotate_left; (focus (intro wS hSw; skip; go_simp; try with_reducible rfl)); (try simp only [Act.put, List.setIfInBounds_toArray, List.set_cons_zero, List.set_cons_succ]))
  refine wpAnyH_ready (rs := [13]) (by kernel_rfl) (by simp) ?_
  refine AllReadyH.cons rfl (fun K hK => ?_) AllReadyH.nil
  have cg35 := cell_at B_g3 5 rfl
  have zg3 := froz_at B_g3
  have lg3 := hid_lt B_g3
  go_simp
  refine k_gen hK (fun x4 hW => ?_)
  have hB := set_blk hW B_g3
  have hf := set_now hW
  clear hW zg3 lg3 cg35
  simp only [List.setIfInBounds_toArray, List.set_cons_zero, List.set_cons_succ] at hB
  have hn := Fp.trans hHeld hf (fun i _ e => e)
  refine ⟨hn, ?_⟩
  clear hK K hHeld
  have hHeld := hn
  clear hn
  try simp only [Act.put, List.setIfInBounds_toArray, List.set_cons_zero, List.set_cons_succ]
  replace B_g2 := hid_blkS B_g2 hf n_g2_g3
  replace B_g3 := hB
  clear hB hf
  (refine take_at 14 (some 22) rfl rfl (by kernel_rfl) (by kernel_rfl) (by kernel_rfl) (fun _ _ _ h => h) (v := ?_) (by kernel_rfl) ?_ (by assumption) ?_; rotate_left; (focus (intro wS hSw; skip; go_simp; try with_reducible rfl)); (try simp only [Act.put, List.setIfInBounds_toArray, List.set_cons_zero, List.set_cons_succ]))
  (refine take_at 15 (some 23) rfl rfl (by kernel_rfl) (by kernel_rfl) (by kernel_rfl) (fun _ _ _ h => h) (v := ?_) (by kernel_rfl) ?_ (by assumption) ?_; rotate_left; (focus (intro wS hSw; skip; go_simp; try with_reducible rfl)); (try simp only [Act.put, List.setIfInBounds_toArray, List.set_cons_zero, List.set_cons_succ]))
  refine wpAnyH_ready (rs := [16]) (by kernel_rfl) (by simp) ?_
  refine AllReadyH.cons rfl (fun K hK => ?_) AllReadyH.nil
  have cg36 := cell_at B_g3 6 rfl
  have zg3 := froz_at B_g3
  have lg3 := hid_lt B_g3
  go_simp
  refine k_gen hK (fun x5 hW => ?_)
  have hB := set_blk hW B_g3
  have hf := set_now hW
  clear hW zg3 lg3 cg36
  simp only [List.setIfInBounds_toArray, List.set_cons_zero, List.set_cons_succ] at hB
  have hn := Fp.trans hHeld hf (fun i _ e => e)
  refine ⟨hn, ?_⟩
  clear hK K hHeld
  have hHeld := hn
  clear hn
  try simp only [Act.put, List.setIfInBounds_toArray, List.set_cons_zero, List.set_cons_succ]
  replace B_g2 := hid_blkS B_g2 hf n_g2_g3
  replace B_g3 := hB
  clear hB hf
  refine wpAnyH_done (by kernel_rfl) ?_ _
  clear cg20 cg21 cg22 cg23 cg24 zg2 lg2
  have hGe := hid_ge HN
  replace HN := hid_own HN hHeld (fun i hi e => by have h1 : i = g3 := e; have h2 := G_g3.out; omega)
  clear hHeld hGe
  have cg20 := cell_at B_g2 0 rfl
  have cg21 := cell_at B_g2 1 rfl
  have cg22 := cell_at B_g2 2 rfl
  have cg23 := cell_at B_g2 3 rfl
  have cg24 := cell_at B_g2 4 rfl
  have zg2 := froz_at B_g2
  have lg2 := hid_lt B_g2
  have cg30 := cell_at B_g3 0 rfl
  have cg31 := cell_at B_g3 1 rfl
  have cg32 := cell_at B_g3 2 rfl
  have cg33 := cell_at B_g3 3 rfl
  have cg34 := cell_at B_g3 4 rfl
  have cg35 := cell_at B_g3 5 rfl
  have cg36 := cell_at B_g3 6 rfl
  have cg37 := cell_at B_g3 7 rfl
  have cg38 := cell_at B_g3 8 rfl
  have cg39 := cell_at B_g3 9 rfl
  have cg310 := cell_at B_g3 10 rfl
  have cg311 := cell_at B_g3 11 rfl
  have cg312 := cell_at B_g3 12 rfl
  have cg313 := cell_at B_g3 13 rfl
  have cg314 := cell_at B_g3 14 rfl
  have cg315 := cell_at B_g3 15 rfl
  have cg316 := cell_at B_g3 16 rfl
  have cg317 := cell_at B_g3 17 rfl
  have cg318 := cell_at B_g3 18 rfl
  have cg319 := cell_at B_g3 19 rfl
  have zg3 := froz_at B_g3
  have lg3 := hid_lt B_g3
  go_upto_region 7 with fail
  clear cg30 cg31 cg32 cg33 cg34 cg35 cg36 cg37 cg38 cg39 cg310 cg311 cg312 cg313 cg314 cg315 cg316 cg317 cg318 cg319 zg3 lg3
  refine wp_region_held_drew (S := fun wx => Fp (fun b => b = g3) x5 wx) (by kernel_rfl) (Fp.drew (Fp.refl _ _)) (fun hHeld0 => ?_)
  refine any_eq hHeld0 (fun x6 hW hHeld => ?_)
  clear hHeld0
  replace B_g2 := hid_blk B_g2 (noW_drew hW)
  replace B_g3 := hid_blk B_g3 (noW_drew hW)
  clear hW
  (refine take_at 0 (some 48) rfl rfl (by kernel_rfl) (by kernel_rfl) (by kernel_rfl) (fun _ _ _ h => h) (v := ?_) (by kernel_rfl) ?_ (by assumption) ?_; rotate_left; (focus (intro wS hSw; skip; go_simp; try with_reducible rfl)); (try simp only [Act.put, List.setIfInBounds_toArray, List.set_cons_zero, List.set_cons_succ]))
  (refine take_at 1 (some 49) rfl rfl (by kernel_rfl) (by kernel_rfl) (by kernel_rfl) (fun _ _ _ h => h) (v := ?_) (by kernel_rfl) ?_ (by assumption) ?_; rotate_left; (focus (intro wS hSw; skip; go_simp; try with_reducible rfl)); (try simp only [Act.put, List.setIfInBounds_toArray, List.set_cons_zero, List.set_cons_succ]))
  (refine take_at 2 (some 50) rfl rfl (by kernel_rfl) (by kernel_rfl) (by kernel_rfl) (fun _ _ _ h => h) (v := ?_) (by kernel_rfl) ?_ (by assumption) ?_; rotate_left; (focus (intro wS hSw; have hX := fun b o h hn => hSw.cell (p := ⟨b, o, none⟩) h hn; go_simp; try with_reducible rfl)); (try simp only [Act.put, List.setIfInBounds_toArray, List.set_cons_zero, List.set_cons_succ]))
  (refine take_at 3 (some 51) rfl rfl (by kernel_rfl) (by kernel_rfl) (by kernel_rfl) (fun _ _ _ h => h) (v := ?_) (by kernel_rfl) ?_ (by assumption) ?_; rotate_left; (focus (intro wS hSw; skip; go_simp; try with_reducible rfl)); (try simp only [Act.put, List.setIfInBounds_toArray, List.set_cons_zero, List.set_cons_succ]))
  (refine take_at 4 (some 52) rfl rfl (by kernel_rfl) (by kernel_rfl) (by kernel_rfl) (fun _ _ _ h => h) (v := ?_) (by kernel_rfl) ?_ (by assumption) ?_; rotate_left; (focus (intro wS hSw; skip; go_simp; try with_reducible rfl)); (try simp only [Act.put, List.setIfInBounds_toArray, List.set_cons_zero, List.set_cons_succ]))
  (refine take_at 5 (some 53) rfl rfl (by kernel_rfl) (by kernel_rfl) (by kernel_rfl) (fun _ _ _ h => h) (v := ?_) (by kernel_rfl) ?_ (by assumption) ?_; rotate_left; (focus (intro wS hSw; have hX := fun b o h hn => hSw.cell (p := ⟨b, o, none⟩) h hn; go_simp; try with_reducible rfl)); (try simp only [Act.put, List.setIfInBounds_toArray, List.set_cons_zero, List.set_cons_succ]))
  (refine take_at 6 (some 54) rfl rfl (by kernel_rfl) (by kernel_rfl) (by kernel_rfl) (fun _ _ _ h => h) (v := ?_) (by kernel_rfl) ?_ (by assumption) ?_; rotate_left; (focus (intro wS hSw; skip; go_simp; try with_reducible rfl)); (try simp only [Act.put, List.setIfInBounds_toArray, List.set_cons_zero, List.set_cons_succ]))
  (refine take_at 7 (some 55) rfl rfl (by kernel_rfl) (by kernel_rfl) (by kernel_rfl) (fun _ _ _ h => h) (v := ?_) (by kernel_rfl) ?_ (by assumption) ?_; rotate_left; (focus (intro wS hSw; skip; go_simp; try with_reducible rfl)); (try simp only [Act.put, List.setIfInBounds_toArray, List.set_cons_zero, List.set_cons_succ]))
  refine wpAnyH_ready (rs := [8]) (by kernel_rfl) (by simp) ?_
  refine AllReadyH.cons rfl (fun K hK => ?_) AllReadyH.nil
  have cg38 := cell_at B_g3 8 rfl
  have zg3 := froz_at B_g3
  have lg3 := hid_lt B_g3
  go_simp
  refine k_gen hK (fun x7 hW => ?_)
  have hB := set_blk hW B_g3
  have hf := set_now hW
  clear hW zg3 lg3 cg38
  simp only [List.setIfInBounds_toArray, List.set_cons_zero, List.set_cons_succ] at hB
  have hn := Fp.trans hHeld hf (fun i _ e => e)
  refine ⟨hn, ?_⟩
  clear hK K hHeld
  have hHeld := hn
  clear hn
  try simp only [Act.put, List.setIfInBounds_toArray, List.set_cons_zero, List.set_cons_succ]
  replace B_g2 := hid_blkS B_g2 hf n_g2_g3
  replace B_g3 := hB
  clear hB hf
  (refine take_at 9 (some 56) rfl rfl (by kernel_rfl) (by kernel_rfl) (by kernel_rfl) (fun _ _ _ h => h) (v := ?_) (by kernel_rfl) ?_ (by assumption) ?_; rotate_left; (focus (intro wS hSw; skip; go_simp; try with_reducible rfl)); (try simp only [Act.put, List.setIfInBounds_toArray, List.set_cons_zero, List.set_cons_succ]))
  (refine take_at 10 (some 57) rfl rfl (by kernel_rfl) (by kernel_rfl) (by kernel_rfl) (fun _ _ _ h => h) (v := ?_) (by kernel_rfl) ?_ (by assumption) ?_; rotate_left; (focus (intro wS hSw; skip; go_simp; try with_reducible rfl)); (try simp only [Act.put, List.setIfInBounds_toArray, List.set_cons_zero, List.set_cons_succ]))
  refine wpAnyH_ready (rs := [11]) (by kernel_rfl) (by simp) ?_
  refine AllReadyH.cons rfl (fun K hK => ?_) AllReadyH.nil
  have cg39 := cell_at B_g3 9 rfl
  have zg3 := froz_at B_g3
  have lg3 := hid_lt B_g3
  go_simp
  refine k_gen hK (fun x8 hW => ?_)
  have hB := set_blk hW B_g3
  have hf := set_now hW
  clear hW zg3 lg3 cg39
  simp only [List.setIfInBounds_toArray, List.set_cons_zero, List.set_cons_succ] at hB
  have hn := Fp.trans hHeld hf (fun i _ e => e)
  refine ⟨hn, ?_⟩
  clear hK K hHeld
  have hHeld := hn
  clear hn
  try simp only [Act.put, List.setIfInBounds_toArray, List.set_cons_zero, List.set_cons_succ]
  replace B_g2 := hid_blkS B_g2 hf n_g2_g3
  replace B_g3 := hB
  clear hB hf
  refine wpAnyH_done (by kernel_rfl) ?_ _
  clear cg20 cg21 cg22 cg23 cg24 zg2 lg2
  have hGe := hid_ge HN
  replace HN := hid_own HN hHeld (fun i hi e => by have h1 : i = g3 := e; have h2 := G_g3.out; omega)
  clear hHeld hGe
  have cg30 := cell_at B_g3 0 rfl
  have cg31 := cell_at B_g3 1 rfl
  have cg32 := cell_at B_g3 2 rfl
  have cg33 := cell_at B_g3 3 rfl
  have cg34 := cell_at B_g3 4 rfl
  have cg35 := cell_at B_g3 5 rfl
  have cg36 := cell_at B_g3 6 rfl
  have cg37 := cell_at B_g3 7 rfl
  have cg38 := cell_at B_g3 8 rfl
  have cg39 := cell_at B_g3 9 rfl
  have cg310 := cell_at B_g3 10 rfl
  have cg311 := cell_at B_g3 11 rfl
  have cg312 := cell_at B_g3 12 rfl
  have cg313 := cell_at B_g3 13 rfl
  have cg314 := cell_at B_g3 14 rfl
  have cg315 := cell_at B_g3 15 rfl
  have cg316 := cell_at B_g3 16 rfl
  have cg317 := cell_at B_g3 17 rfl
  have cg318 := cell_at B_g3 18 rfl
  have cg319 := cell_at B_g3 19 rfl
  have zg3 := froz_at B_g3
  have lg3 := hid_lt B_g3
  go_wp2_with fail
  clear cg30 cg31 cg32 cg33 cg34 cg35 cg36 cg37 cg38 cg39 cg310 cg311 cg312 cg313 cg314 cg315 cg316 cg317 cg318 cg319 zg3 lg3
  refine (show Calls _ _ _ _ _ from KT.out _).mono ?_
  rintro e x9 ⟨rfl, hp⟩
  replace HN := hid_now HN hp
  replace B_g2 := hid_blk B_g2 hp
  replace B_g3 := hid_blk B_g3 hp
  clear hp
  have cg30 := cell_at B_g3 0 rfl
  have cg31 := cell_at B_g3 1 rfl
  have cg32 := cell_at B_g3 2 rfl
  have cg33 := cell_at B_g3 3 rfl
  have cg34 := cell_at B_g3 4 rfl
  have cg35 := cell_at B_g3 5 rfl
  have cg36 := cell_at B_g3 6 rfl
  have cg37 := cell_at B_g3 7 rfl
  have cg38 := cell_at B_g3 8 rfl
  have cg39 := cell_at B_g3 9 rfl
  have cg310 := cell_at B_g3 10 rfl
  have cg311 := cell_at B_g3 11 rfl
  have cg312 := cell_at B_g3 12 rfl
  have cg313 := cell_at B_g3 13 rfl
  have cg314 := cell_at B_g3 14 rfl
  have cg315 := cell_at B_g3 15 rfl
  have cg316 := cell_at B_g3 16 rfl
  have cg317 := cell_at B_g3 17 rfl
  have cg318 := cell_at B_g3 18 rfl
  have cg319 := cell_at B_g3 19 rfl
  have zg3 := froz_at B_g3
  have lg3 := hid_lt B_g3
  go_wp2_with fail
  clear cg30 cg31 cg32 cg33 cg34 cg35 cg36 cg37 cg38 cg39 cg310 cg311 cg312 cg313 cg314 cg315 cg316 cg317 cg318 cg319 zg3 lg3
  refine (show Calls _ _ _ _ _ from KI.out _).mono ?_
  rintro e x10 ⟨rfl, hp⟩
  replace HN := hid_now HN hp
  replace B_g2 := hid_blk B_g2 hp
  replace B_g3 := hid_blk B_g3 hp
  clear hp
  go_wp2_with fail
  go_ret2
  exact ⟨rfl, HN.out⟩
set_option maxHeartbeats 8000000 in
set_option maxRecDepth 100000 in
theorem lput_tcp1 (tos id : Nat) (fl : Bool) (ttl : Nat) (pr0 sr0 ds0 : Int) (op : List UInt8) (sp0 dp0 : Int) (seq ack low fg win sum urg : Nat) (gop : List UInt8) (ty : Nat) (d : List UInt8) (sr sp ds dp : Nat) (htos : tos < 256) (hid : id < 65536) (httl : ttl < 256) (hop : op.length ≤ 600) (hseq : seq < 4294967296) (hack : ack < 4294967296) (hfg : fg < 256) (hwin : win < 65536) (hsum : sum < 65536) (hurg : urg < 65536) (hgop : gop.length ≤ 600) (hty : ty < 256) (hd : d.length ≤ 600) (hsr : sr < 4294967296) (hsp : sp < 65536) (hds : ds < 4294967296) (hdp : dp < 65536) (hok : tcpOkP low gop = true) (w : World) :
    Calls Tryz.prog 22 #[.agg #[.int .u8 6, .int .u32 (sr : Nat), .int .u16 (sp : Nat), .int .u32 (ds : Nat), .int .u16 (dp : Nat)], .agg #[.int .u8 (tos : Nat), .int .u16 (id : Nat), .bool fl, .int .u8 (ttl : Nat), .int .u8 pr0, .int .u32 sr0, .int .u32 ds0, str op, .int .u16 sp0, .int .u16 dp0, .int .u32 (seq : Nat), .int .u32 (ack : Nat), .int .u8 (low : Nat), .int .u8 (fg : Nat), .int .u16 (win : Nat), .int .u16 (sum : Nat), .int .u16 (urg : Nat), str gop, .int .u8 (ty : Nat), str d]] w (Ret1 (.tuple #[str (ipS tos id fl ttl 6 sr ds op (tcpS sp dp seq ack low fg win sum urg gop d)), .bool (ipOkB op (tcpS sp dp seq ack low fg win sum urg gop d))]) w) := by
  have KT := Lib.hid (fun W => tcp_put_any sp dp seq ack low fg win sum urg gop d hsp hdp hseq hack hfg hwin hsum hurg (by omega) (by omega) W)
  rw [hok, if_pos rfl] at KT
  obtain ⟨ld, hld⟩ : ∃ ld, ld = tcpS sp dp seq ack low fg win sum urg gop d := ⟨_, rfl⟩
  rw [← hld]
  have lld : ld.length ≤ 1000000 := by rw [hld]; unfold tcpS; split <;> (simp [tcpPutL, b16_len, b32]; try omega)
  have KI := Lib.hid (fun W => ip_put_any tos id ttl 6 sr ds fl op ld htos hid httl (by omega) hsr hds (by omega) lld W)
  have hf : ((ipE op ld : Int) == 0) = ipOkB op ld := ipE_zero
  generalize ipS tos id fl ttl 6 sr ds op ld = S at *
  generalize ipE op ld = f at *
  generalize ipOkB op ld = B2 at *
  rw [← hld] at KT
  clear hld lld hok
  go_enter Tryz.func22, Tryz.ntmps22
  have HN := Lib.hid (Fp.refl (fun _ => False) w)
  go_upto_region 1 with fail
  refine wp_gen (fun x1 hW => ?_)
  obtain ⟨hB, hB2, hp⟩ := new2_blk hW
  clear hW
  have hGe := hid_ge HN
  replace HN := hid_now HN hp
  obtain ⟨g3, hg3⟩ : ∃ g3, g3 = w.heap.size + 1 := ⟨_, rfl⟩
  obtain ⟨g2, hg2⟩ : ∃ g2, g2 = w.heap.size := ⟨_, rfl⟩
  have G_g2 := Lib.hid (show w.heap.size ≤ g2 by omega)
  have G_g3 := Lib.hid (show w.heap.size ≤ g3 by omega)
  have n_g2_g3 : ¬ g2 = g3 := by omega
  have n_g3_g2 : ¬ g3 = g2 := by omega
  rw [← hg3] at hB2 ⊢
  rw [← hg2] at hB ⊢
  have B_g2 := hB
  have B_g3 := hB2
  clear hB hB2 hg2 hg3 hGe hp
  have cg20 := cell_at B_g2 0 rfl
  have cg21 := cell_at B_g2 1 rfl
  have cg22 := cell_at B_g2 2 rfl
  have cg23 := cell_at B_g2 3 rfl
  have cg24 := cell_at B_g2 4 rfl
  have zg2 := froz_at B_g2
  have lg2 := hid_lt B_g2
  refine wp_region_held_drew (S := fun wx => Fp (fun b => b = g3) x1 wx) (by kernel_rfl) (Fp.drew (Fp.refl _ _)) (fun hHeld0 => ?_)
  refine any_eq hHeld0 (fun x2 hW hHeld => ?_)
  clear hHeld0
  replace B_g2 := hid_blk B_g2 (noW_drew hW)
  replace B_g3 := hid_blk B_g3 (noW_drew hW)
  clear hW
  (refine take_at 0 (some 10) rfl rfl (by kernel_rfl) (by kernel_rfl) (by kernel_rfl) (fun _ _ _ h => h) (v := ?_) (by kernel_rfl) ?_ (by assumption) ?_; rotate_left; (focus (intro wS hSw; skip; go_simp; try with_reducible rfl)); (try simp only [Act.put, List.setIfInBounds_toArray, List.set_cons_zero, List.set_cons_succ]))
  (refine take_at 1 (some 11) rfl rfl (by kernel_rfl) (by kernel_rfl) (by kernel_rfl) (fun _ _ _ h => h) (v := ?_) (by kernel_rfl) ?_ (by assumption) ?_; rotate_left; (focus (intro wS hSw; have hX := fun b o h hn => hSw.cell (p := ⟨b, o, none⟩) h hn; go_simp; try with_reducible rfl)); (try simp only [Act.put, List.setIfInBounds_toArray, List.set_cons_zero, List.set_cons_succ]))
  (refine take_at 2 (some 12) rfl rfl (by kernel_rfl) (by kernel_rfl) (by kernel_rfl) (fun _ _ _ h => h) (v := ?_) (by kernel_rfl) ?_ (by assumption) ?_; rotate_left; (focus (intro wS hSw; skip; go_simp; try with_reducible rfl)); (try simp only [Act.put, List.setIfInBounds_toArray, List.set_cons_zero, List.set_cons_succ]))
  (refine take_at 3 (some 13) rfl rfl (by kernel_rfl) (by kernel_rfl) (by kernel_rfl) (fun _ _ _ h => h) (v := ?_) (by kernel_rfl) ?_ (by assumption) ?_; rotate_left; (focus (intro wS hSw; skip; go_simp; try with_reducible rfl)); (try simp only [Act.put, List.setIfInBounds_toArray, List.set_cons_zero, List.set_cons_succ]))
  (refine take_at 4 (some 14) rfl rfl (by kernel_rfl) (by kernel_rfl) (by kernel_rfl) (fun _ _ _ h => h) (v := ?_) (by kernel_rfl) ?_ (by assumption) ?_; rotate_left; (focus (intro wS hSw; have hX := fun b o h hn => hSw.cell (p := ⟨b, o, none⟩) h hn; go_simp; try with_reducible rfl)); (try simp only [Act.put, List.setIfInBounds_toArray, List.set_cons_zero, List.set_cons_succ]))
  (refine take_at 5 (some 15) rfl rfl (by kernel_rfl) (by kernel_rfl) (by kernel_rfl) (fun _ _ _ h => h) (v := ?_) (by kernel_rfl) ?_ (by assumption) ?_; rotate_left; (focus (intro wS hSw; skip; go_simp; try with_reducible rfl)); (try simp only [Act.put, List.setIfInBounds_toArray, List.set_cons_zero, List.set_cons_succ]))
  (refine take_at 6 (some 16) rfl rfl (by kernel_rfl) (by kernel_rfl) (by kernel_rfl) (fun _ _ _ h => h) (v := ?_) (by kernel_rfl) ?_ (by assumption) ?_; rotate_left; (focus (intro wS hSw; skip; go_simp; try with_reducible rfl)); (try simp only [Act.put, List.setIfInBounds_toArray, List.set_cons_zero, List.set_cons_succ]))
  (refine take_at 7 (some 17) rfl rfl (by kernel_rfl) (by kernel_rfl) (by kernel_rfl) (fun _ _ _ h => h) (v := ?_) (by kernel_rfl) ?_ (by assumption) ?_; rotate_left; (focus (intro wS hSw; have hX := fun b o h hn => hSw.cell (p := ⟨b, o, none⟩) h hn; go_simp; try with_reducible rfl)); (try simp only [Act.put, List.setIfInBounds_toArray, List.set_cons_zero, List.set_cons_succ]))
  (refine take_at 8 (some 18) rfl rfl (by kernel_rfl) (by kernel_rfl) (by kernel_rfl) (fun _ _ _ h => h) (v := ?_) (by kernel_rfl) ?_ (by assumption) ?_; rotate_left; (focus (intro wS hSw; skip; go_simp; try with_reducible rfl)); (try simp only [Act.put, List.setIfInBounds_toArray, List.set_cons_zero, List.set_cons_succ]))
  (refine take_at 9 (some 19) rfl rfl (by kernel_rfl) (by kernel_rfl) (by kernel_rfl) (fun _ _ _ h => h) (v := ?_) (by kernel_rfl) ?_ (by assumption) ?_; rotate_left; (focus (intro wS hSw; skip; go_simp; try with_reducible rfl)); (try simp only [Act.put, List.setIfInBounds_toArray, List.set_cons_zero, List.set_cons_succ]))
  refine wpAnyH_ready (rs := [10]) (by kernel_rfl) (by simp) ?_
  refine AllReadyH.cons rfl (fun K hK => ?_) AllReadyH.nil
  have cg34 := cell_at B_g3 4 rfl
  have zg3 := froz_at B_g3
  have lg3 := hid_lt B_g3
  go_simp
  refine k_gen hK (fun x3 hW => ?_)
  have hB := set_blk hW B_g3
  have hf := set_now hW
  clear hW zg3 lg3 cg34
  simp only [List.setIfInBounds_toArray, List.set_cons_zero, List.set_cons_succ] at hB
  have hn := Fp.trans hHeld hf (fun i _ e => e)
  refine ⟨hn, ?_⟩
  clear hK K hHeld
  have hHeld := hn
  clear hn
  try simp only [Act.put, List.setIfInBounds_toArray, List.set_cons_zero, List.set_cons_succ]
  replace B_g2 := hid_blkS B_g2 hf n_g2_g3
  replace B_g3 := hB
  clear hB hf
  (refine take_at 11 (some 20) rfl rfl (by kernel_rfl) (by kernel_rfl) (by kernel_rfl) (fun _ _ _ h => h) (v := ?_) (by kernel_rfl) ?_ (by assumption) ?_; rotate_left; (focus (intro wS hSw; skip; go_simp; try with_reducible rfl)); (try simp only [Act.put, List.setIfInBounds_toArray, List.set_cons_zero, List.set_cons_succ]))
  (refine take_at 12 (some 21) rfl rfl (by kernel_rfl) (by kernel_rfl) (by kernel_rfl) (fun _ _ _ h => h) (v := ?_) (by kernel_rfl) ?_ (by assumption) ?_; rotate_left; (focus (intro wS hSw; skip; go_simp; try with_reducible rfl)); (try simp only [Act.put, List.setIfInBounds_toArray, List.set_cons_zero, List.set_cons_succ]))
  refine wpAnyH_ready (rs := [13]) (by kernel_rfl) (by simp) ?_
  refine AllReadyH.cons rfl (fun K hK => ?_) AllReadyH.nil
  have cg35 := cell_at B_g3 5 rfl
  have zg3 := froz_at B_g3
  have lg3 := hid_lt B_g3
  go_simp
  refine k_gen hK (fun x4 hW => ?_)
  have hB := set_blk hW B_g3
  have hf := set_now hW
  clear hW zg3 lg3 cg35
  simp only [List.setIfInBounds_toArray, List.set_cons_zero, List.set_cons_succ] at hB
  have hn := Fp.trans hHeld hf (fun i _ e => e)
  refine ⟨hn, ?_⟩
  clear hK K hHeld
  have hHeld := hn
  clear hn
  try simp only [Act.put, List.setIfInBounds_toArray, List.set_cons_zero, List.set_cons_succ]
  replace B_g2 := hid_blkS B_g2 hf n_g2_g3
  replace B_g3 := hB
  clear hB hf
  (refine take_at 14 (some 22) rfl rfl (by kernel_rfl) (by kernel_rfl) (by kernel_rfl) (fun _ _ _ h => h) (v := ?_) (by kernel_rfl) ?_ (by assumption) ?_; rotate_left; (focus (intro wS hSw; skip; go_simp; try with_reducible rfl)); (try simp only [Act.put, List.setIfInBounds_toArray, List.set_cons_zero, List.set_cons_succ]))
  (refine take_at 15 (some 23) rfl rfl (by kernel_rfl) (by kernel_rfl) (by kernel_rfl) (fun _ _ _ h => h) (v := ?_) (by kernel_rfl) ?_ (by assumption) ?_; rotate_left; (focus (intro wS hSw; skip; go_simp; try with_reducible rfl)); (try simp only [Act.put, List.setIfInBounds_toArray, List.set_cons_zero, List.set_cons_succ]))
  refine wpAnyH_ready (rs := [16]) (by kernel_rfl) (by simp) ?_
  refine AllReadyH.cons rfl (fun K hK => ?_) AllReadyH.nil
  have cg36 := cell_at B_g3 6 rfl
  have zg3 := froz_at B_g3
  have lg3 := hid_lt B_g3
  go_simp
  refine k_gen hK (fun x5 hW => ?_)
  have hB := set_blk hW B_g3
  have hf := set_now hW
  clear hW zg3 lg3 cg36
  simp only [List.setIfInBounds_toArray, List.set_cons_zero, List.set_cons_succ] at hB
  have hn := Fp.trans hHeld hf (fun i _ e => e)
  refine ⟨hn, ?_⟩
  clear hK K hHeld
  have hHeld := hn
  clear hn
  try simp only [Act.put, List.setIfInBounds_toArray, List.set_cons_zero, List.set_cons_succ]
  replace B_g2 := hid_blkS B_g2 hf n_g2_g3
  replace B_g3 := hB
  clear hB hf
  refine wpAnyH_done (by kernel_rfl) ?_ _
  clear cg20 cg21 cg22 cg23 cg24 zg2 lg2
  have hGe := hid_ge HN
  replace HN := hid_own HN hHeld (fun i hi e => by have h1 : i = g3 := e; have h2 := G_g3.out; omega)
  clear hHeld hGe
  have cg20 := cell_at B_g2 0 rfl
  have cg21 := cell_at B_g2 1 rfl
  have cg22 := cell_at B_g2 2 rfl
  have cg23 := cell_at B_g2 3 rfl
  have cg24 := cell_at B_g2 4 rfl
  have zg2 := froz_at B_g2
  have lg2 := hid_lt B_g2
  have cg30 := cell_at B_g3 0 rfl
  have cg31 := cell_at B_g3 1 rfl
  have cg32 := cell_at B_g3 2 rfl
  have cg33 := cell_at B_g3 3 rfl
  have cg34 := cell_at B_g3 4 rfl
  have cg35 := cell_at B_g3 5 rfl
  have cg36 := cell_at B_g3 6 rfl
  have cg37 := cell_at B_g3 7 rfl
  have cg38 := cell_at B_g3 8 rfl
  have cg39 := cell_at B_g3 9 rfl
  have cg310 := cell_at B_g3 10 rfl
  have cg311 := cell_at B_g3 11 rfl
  have cg312 := cell_at B_g3 12 rfl
  have cg313 := cell_at B_g3 13 rfl
  have cg314 := cell_at B_g3 14 rfl
  have cg315 := cell_at B_g3 15 rfl
  have cg316 := cell_at B_g3 16 rfl
  have cg317 := cell_at B_g3 17 rfl
  have cg318 := cell_at B_g3 18 rfl
  have cg319 := cell_at B_g3 19 rfl
  have zg3 := froz_at B_g3
  have lg3 := hid_lt B_g3
  go_upto_region 7 with fail
  clear cg30 cg31 cg32 cg33 cg34 cg35 cg36 cg37 cg38 cg39 cg310 cg311 cg312 cg313 cg314 cg315 cg316 cg317 cg318 cg319 zg3 lg3
  refine wp_region_held_drew (S := fun wx => Fp (fun b => b = g3) x5 wx) (by kernel_rfl) (Fp.drew (Fp.refl _ _)) (fun hHeld0 => ?_)
  refine any_eq hHeld0 (fun x6 hW hHeld => ?_)
  clear hHeld0
  replace B_g2 := hid_blk B_g2 (noW_drew hW)
  replace B_g3 := hid_blk B_g3 (noW_drew hW)
  clear hW
  (refine take_at 0 (some 48) rfl rfl (by kernel_rfl) (by kernel_rfl) (by kernel_rfl) (fun _ _ _ h => h) (v := ?_) (by kernel_rfl) ?_ (by assumption) ?_; rotate_left; (focus (intro wS hSw; skip; go_simp; try with_reducible rfl)); (try simp only [Act.put, List.setIfInBounds_toArray, List.set_cons_zero, List.set_cons_succ]))
  (refine take_at 1 (some 49) rfl rfl (by kernel_rfl) (by kernel_rfl) (by kernel_rfl) (fun _ _ _ h => h) (v := ?_) (by kernel_rfl) ?_ (by assumption) ?_; rotate_left; (focus (intro wS hSw; skip; go_simp; try with_reducible rfl)); (try simp only [Act.put, List.setIfInBounds_toArray, List.set_cons_zero, List.set_cons_succ]))
  (refine take_at 2 (some 50) rfl rfl (by kernel_rfl) (by kernel_rfl) (by kernel_rfl) (fun _ _ _ h => h) (v := ?_) (by kernel_rfl) ?_ (by assumption) ?_; rotate_left; (focus (intro wS hSw; have hX := fun b o h hn => hSw.cell (p := ⟨b, o, none⟩) h hn; go_simp; try with_reducible rfl)); (try simp only [Act.put, List.setIfInBounds_toArray, List.set_cons_zero, List.set_cons_succ]))
  (refine take_at 3 (some 51) rfl rfl (by kernel_rfl) (by kernel_rfl) (by kernel_rfl) (fun _ _ _ h => h) (v := ?_) (by kernel_rfl) ?_ (by assumption) ?_; rotate_left; (focus (intro wS hSw; skip; go_simp; try with_reducible rfl)); (try simp only [Act.put, List.setIfInBounds_toArray, List.set_cons_zero, List.set_cons_succ]))
  (refine take_at 4 (some 52) rfl rfl (by kernel_rfl) (by kernel_rfl) (by kernel_rfl) (fun _ _ _ h => h) (v := ?_) (by kernel_rfl) ?_ (by assumption) ?_; rotate_left; (focus (intro wS hSw; skip; go_simp; try with_reducible rfl)); (try simp only [Act.put, List.setIfInBounds_toArray, List.set_cons_zero, List.set_cons_succ]))
  (refine take_at 5 (some 53) rfl rfl (by kernel_rfl) (by kernel_rfl) (by kernel_rfl) (fun _ _ _ h => h) (v := ?_) (by kernel_rfl) ?_ (by assumption) ?_; rotate_left; (focus (intro wS hSw; have hX := fun b o h hn => hSw.cell (p := ⟨b, o, none⟩) h hn; go_simp; try with_reducible rfl)); (try simp only [Act.put, List.setIfInBounds_toArray, List.set_cons_zero, List.set_cons_succ]))
  (refine take_at 6 (some 54) rfl rfl (by kernel_rfl) (by kernel_rfl) (by kernel_rfl) (fun _ _ _ h => h) (v := ?_) (by kernel_rfl) ?_ (by assumption) ?_; rotate_left; (focus (intro wS hSw; skip; go_simp; try with_reducible rfl)); (try simp only [Act.put, List.setIfInBounds_toArray, List.set_cons_zero, List.set_cons_succ]))
  (refine take_at 7 (some 55) rfl rfl (by kernel_rfl) (by kernel_rfl) (by kernel_rfl) (fun _ _ _ h => h) (v := ?_) (by kernel_rfl) ?_ (by assumption) ?_; rotate_left; (focus (intro wS hSw; skip; go_simp; try with_reducible rfl)); (try simp only [Act.put, List.setIfInBounds_toArray, List.set_cons_zero, List.set_cons_succ]))
  refine wpAnyH_ready (rs := [8]) (by kernel_rfl) (by simp) ?_
  refine AllReadyH.cons rfl (fun K hK => ?_) AllReadyH.nil
  have cg38 := cell_at B_g3 8 rfl
  have zg3 := froz_at B_g3
  have lg3 := hid_lt B_g3
  go_simp
  refine k_gen hK (fun x7 hW => ?_)
  have hB := set_blk hW B_g3
  have hf := set_now hW
  clear hW zg3 lg3 cg38
  simp only [List.setIfInBounds_toArray, List.set_cons_zero, List.set_cons_succ] at hB
  have hn := Fp.trans hHeld hf (fun i _ e => e)
  refine ⟨hn, ?_⟩
  clear hK K hHeld
  have hHeld := hn
  clear hn
  try simp only [Act.put, List.setIfInBounds_toArray, List.set_cons_zero, List.set_cons_succ]
  replace B_g2 := hid_blkS B_g2 hf n_g2_g3
  replace B_g3 := hB
  clear hB hf
  (refine take_at 9 (some 56) rfl rfl (by kernel_rfl) (by kernel_rfl) (by kernel_rfl) (fun _ _ _ h => h) (v := ?_) (by kernel_rfl) ?_ (by assumption) ?_; rotate_left; (focus (intro wS hSw; skip; go_simp; try with_reducible rfl)); (try simp only [Act.put, List.setIfInBounds_toArray, List.set_cons_zero, List.set_cons_succ]))
  (refine take_at 10 (some 57) rfl rfl (by kernel_rfl) (by kernel_rfl) (by kernel_rfl) (fun _ _ _ h => h) (v := ?_) (by kernel_rfl) ?_ (by assumption) ?_; rotate_left; (focus (intro wS hSw; skip; go_simp; try with_reducible rfl)); (try simp only [Act.put, List.setIfInBounds_toArray, List.set_cons_zero, List.set_cons_succ]))
  refine wpAnyH_ready (rs := [11]) (by kernel_rfl) (by simp) ?_
  refine AllReadyH.cons rfl (fun K hK => ?_) AllReadyH.nil
  have cg39 := cell_at B_g3 9 rfl
  have zg3 := froz_at B_g3
  have lg3 := hid_lt B_g3
  go_simp
  refine k_gen hK (fun x8 hW => ?_)
  have hB := set_blk hW B_g3
  have hf := set_now hW
  clear hW zg3 lg3 cg39
  simp only [List.setIfInBounds_toArray, List.set_cons_zero, List.set_cons_succ] at hB
  have hn := Fp.trans hHeld hf (fun i _ e => e)
  refine ⟨hn, ?_⟩
  clear hK K hHeld
  have hHeld := hn
  clear hn
  try simp only [Act.put, List.setIfInBounds_toArray, List.set_cons_zero, List.set_cons_succ]
  replace B_g2 := hid_blkS B_g2 hf n_g2_g3
  replace B_g3 := hB
  clear hB hf
  refine wpAnyH_done (by kernel_rfl) ?_ _
  clear cg20 cg21 cg22 cg23 cg24 zg2 lg2
  have hGe := hid_ge HN
  replace HN := hid_own HN hHeld (fun i hi e => by have h1 : i = g3 := e; have h2 := G_g3.out; omega)
  clear hHeld hGe
  have cg30 := cell_at B_g3 0 rfl
  have cg31 := cell_at B_g3 1 rfl
  have cg32 := cell_at B_g3 2 rfl
  have cg33 := cell_at B_g3 3 rfl
  have cg34 := cell_at B_g3 4 rfl
  have cg35 := cell_at B_g3 5 rfl
  have cg36 := cell_at B_g3 6 rfl
  have cg37 := cell_at B_g3 7 rfl
  have cg38 := cell_at B_g3 8 rfl
  have cg39 := cell_at B_g3 9 rfl
  have cg310 := cell_at B_g3 10 rfl
  have cg311 := cell_at B_g3 11 rfl
  have cg312 := cell_at B_g3 12 rfl
  have cg313 := cell_at B_g3 13 rfl
  have cg314 := cell_at B_g3 14 rfl
  have cg315 := cell_at B_g3 15 rfl
  have cg316 := cell_at B_g3 16 rfl
  have cg317 := cell_at B_g3 17 rfl
  have cg318 := cell_at B_g3 18 rfl
  have cg319 := cell_at B_g3 19 rfl
  have zg3 := froz_at B_g3
  have lg3 := hid_lt B_g3
  go_wp2_with fail
  clear cg30 cg31 cg32 cg33 cg34 cg35 cg36 cg37 cg38 cg39 cg310 cg311 cg312 cg313 cg314 cg315 cg316 cg317 cg318 cg319 zg3 lg3
  refine (show Calls _ _ _ _ _ from KT.out _).mono ?_
  rintro e x9 ⟨rfl, hp⟩
  replace HN := hid_now HN hp
  replace B_g2 := hid_blk B_g2 hp
  replace B_g3 := hid_blk B_g3 hp
  clear hp
  have cg30 := cell_at B_g3 0 rfl
  have cg31 := cell_at B_g3 1 rfl
  have cg32 := cell_at B_g3 2 rfl
  have cg33 := cell_at B_g3 3 rfl
  have cg34 := cell_at B_g3 4 rfl
  have cg35 := cell_at B_g3 5 rfl
  have cg36 := cell_at B_g3 6 rfl
  have cg37 := cell_at B_g3 7 rfl
  have cg38 := cell_at B_g3 8 rfl
  have cg39 := cell_at B_g3 9 rfl
  have cg310 := cell_at B_g3 10 rfl
  have cg311 := cell_at B_g3 11 rfl
  have cg312 := cell_at B_g3 12 rfl
  have cg313 := cell_at B_g3 13 rfl
  have cg314 := cell_at B_g3 14 rfl
  have cg315 := cell_at B_g3 15 rfl
  have cg316 := cell_at B_g3 16 rfl
  have cg317 := cell_at B_g3 17 rfl
  have cg318 := cell_at B_g3 18 rfl
  have cg319 := cell_at B_g3 19 rfl
  have zg3 := froz_at B_g3
  have lg3 := hid_lt B_g3
  go_wp2_with fail
  clear cg30 cg31 cg32 cg33 cg34 cg35 cg36 cg37 cg38 cg39 cg310 cg311 cg312 cg313 cg314 cg315 cg316 cg317 cg318 cg319 zg3 lg3
  refine (show Calls _ _ _ _ _ from KI.out _).mono ?_
  rintro e x10 ⟨rfl, hp⟩
  replace HN := hid_now HN hp
  replace B_g2 := hid_blk B_g2 hp
  replace B_g3 := hid_blk B_g3 hp
  clear hp
  go_wp2_with fail
  go_ret2
  exact ⟨rfl, HN.out⟩
set_option maxHeartbeats 8000000 in
set_option maxRecDepth 100000 in
theorem lput_udp (tos id : Nat) (fl : Bool) (ttl : Nat) (pr0 sr0 ds0 : Int) (op : List UInt8) (sp0 dp0 : Int) (seq ack low fg win sum urg : Nat) (gop : List UInt8) (ty : Nat) (d : List UInt8) (sr sp ds dp : Nat) (htos : tos < 256) (hid : id < 65536) (httl : ttl < 256) (hop : op.length ≤ 600) (hseq : seq < 4294967296) (hack : ack < 4294967296) (hfg : fg < 256) (hwin : win < 65536) (hsum : sum < 65536) (hurg : urg < 65536) (hgop : gop.length ≤ 600) (hty : ty < 256) (hd : d.length ≤ 600) (hsr : sr < 4294967296) (hsp : sp < 65536) (hds : ds < 4294967296) (hdp : dp < 65536) (w : World) :
    Calls Tryz.prog 22 #[.agg #[.int .u8 17, .int .u32 (sr : Nat), .int .u16 (sp : Nat), .int .u32 (ds : Nat), .int .u16 (dp : Nat)], .agg #[.int .u8 (tos : Nat), .int .u16 (id : Nat), .bool fl, .int .u8 (ttl : Nat), .int .u8 pr0, .int .u32 sr0, .int .u32 ds0, str op, .int .u16 sp0, .int .u16 dp0, .int .u32 (seq : Nat), .int .u32 (ack : Nat), .int .u8 (low : Nat), .int .u8 (fg : Nat), .int .u16 (win : Nat), .int .u16 (sum : Nat), .int .u16 (urg : Nat), str gop, .int .u8 (ty : Nat), str d]] w (Ret1 (.tuple #[str (ipS tos id fl ttl 17 sr ds op (udpPutL sp dp sum d)), .bool (ipOkB op (udpPutL sp dp sum d))]) w) := by
  have KT := Lib.hid (fun W => udp_put sp dp 0 sum d hsp hdp hsum (by omega) W)
  obtain ⟨ld, hld⟩ : ∃ ld, ld = udpPutL sp dp sum d := ⟨_, rfl⟩
  rw [← hld]
  have lld : ld.length ≤ 1000000 := by rw [hld]; simp [udpPutL, b16_len]; omega
  have KI := Lib.hid (fun W => ip_put_any tos id ttl 17 sr ds fl op ld htos hid httl (by omega) hsr hds (by omega) lld W)
  have hf : ((ipE op ld : Int) == 0) = ipOkB op ld := ipE_zero
  generalize ipS tos id fl ttl 17 sr ds op ld = S at *
  generalize ipE op ld = f at *
  generalize ipOkB op ld = B2 at *
  rw [← hld] at KT
  clear hld lld
  go_enter Tryz.func22, Tryz.ntmps22
  have HN := Lib.hid (Fp.refl (fun _ => False) w)
  go_upto_region 1 with fail
  refine wp_gen (fun x1 hW => ?_)
  obtain ⟨hB, hB2, hp⟩ := new2_blk hW
  clear hW
  have hGe := hid_ge HN
  replace HN := hid_now HN hp
  obtain ⟨g3, hg3⟩ : ∃ g3, g3 = w.heap.size + 1 := ⟨_, rfl⟩
  obtain ⟨g2, hg2⟩ : ∃ g2, g2 = w.heap.size := ⟨_, rfl⟩
  have G_g2 := Lib.hid (show w.heap.size ≤ g2 by omega)
  have G_g3 := Lib.hid (show w.heap.size ≤ g3 by omega)
  have n_g2_g3 : ¬ g2 = g3 := by omega
  have n_g3_g2 : ¬ g3 = g2 := by omega
  rw [← hg3] at hB2 ⊢
  rw [← hg2] at hB ⊢
  have B_g2 := hB
  have B_g3 := hB2
  clear hB hB2 hg2 hg3 hGe hp
  have cg20 := cell_at B_g2 0 rfl
  have cg21 := cell_at B_g2 1 rfl
  have cg22 := cell_at B_g2 2 rfl
  have cg23 := cell_at B_g2 3 rfl
  have cg24 := cell_at B_g2 4 rfl
  have zg2 := froz_at B_g2
  have lg2 := hid_lt B_g2
  refine wp_region_held_drew (S := fun wx => Fp (fun b => b = g3) x1 wx) (by kernel_rfl) (Fp.drew (Fp.refl _ _)) (fun hHeld0 => ?_)
  refine any_eq hHeld0 (fun x2 hW hHeld => ?_)
  clear hHeld0
  replace B_g2 := hid_blk B_g2 (noW_drew hW)
  replace B_g3 := hid_blk B_g3 (noW_drew hW)
  clear hW
  (refine take_at 0 (some 10) rfl rfl (by kernel_rfl) (by kernel_rfl) (by kernel_rfl) (fun _ _ _ h => h) (v := ?_) (by kernel_rfl) ?_ (by assumption) ?_; rotate_left; (focus (intro wS hSw; skip; go_simp; try with_reducible rfl)); (try simp only [Act.put, List.setIfInBounds_toArray, List.set_cons_zero, List.set_cons_succ]))
  (refine take_at 1 (some 11) rfl rfl (by kernel_rfl) (by kernel_rfl) (by kernel_rfl) (fun _ _ _ h => h) (v := ?_) (by kernel_rfl) ?_ (by assumption) ?_; rotate_left; (focus (intro wS hSw; have hX := fun b o h hn => hSw.cell (p := ⟨b, o, none⟩) h hn; go_simp; try with_reducible rfl)); (try simp only [Act.put, List.setIfInBounds_toArray, List.set_cons_zero, List.set_cons_succ]))
  (refine take_at 2 (some 12) rfl rfl (by kernel_rfl) (by kernel_rfl) (by kernel_rfl) (fun _ _ _ h => h) (v := ?_) (by kernel_rfl) ?_ (by assumption) ?_; rotate_left; (focus (intro wS hSw; skip; go_simp; try with_reducible rfl)); (try simp only [Act.put, List.setIfInBounds_toArray, List.set_cons_zero, List.set_cons_succ]))
  (refine take_at 3 (some 13) rfl rfl (by kernel_rfl) (by kernel_rfl) (by kernel_rfl) (fun _ _ _ h => h) (v := ?_) (by kernel_rfl) ?_ (by assumption) ?_; rotate_left; (focus (intro wS hSw; skip; go_simp; try with_reducible rfl)); (try simp only [Act.put, List.setIfInBounds_toArray, List.set_cons_zero, List.set_cons_succ]))
  (refine take_at 4 (some 14) rfl rfl (by kernel_rfl) (by kernel_rfl) (by kernel_rfl) (fun _ _ _ h => h) (v := ?_) (by kernel_rfl) ?_ (by assumption) ?_; rotate_left; (focus (intro wS hSw; have hX := fun b o h hn => hSw.cell (p := ⟨b, o, none⟩) h hn; go_simp; try with_reducible rfl)); (try simp only [Act.put, List.setIfInBounds_toArray, List.set_cons_zero, List.set_cons_succ]))
  (refine take_at 5 (some 15) rfl rfl (by kernel_rfl) (by kernel_rfl) (by kernel_rfl) (fun _ _ _ h => h) (v := ?_) (by kernel_rfl) ?_ (by assumption) ?_; rotate_left; (focus (intro wS hSw; skip; go_simp; try with_reducible rfl)); (try simp only [Act.put, List.setIfInBounds_toArray, List.set_cons_zero, List.set_cons_succ]))
  (refine take_at 6 (some 16) rfl rfl (by kernel_rfl) (by kernel_rfl) (by kernel_rfl) (fun _ _ _ h => h) (v := ?_) (by kernel_rfl) ?_ (by assumption) ?_; rotate_left; (focus (intro wS hSw; skip; go_simp; try with_reducible rfl)); (try simp only [Act.put, List.setIfInBounds_toArray, List.set_cons_zero, List.set_cons_succ]))
  (refine take_at 7 (some 17) rfl rfl (by kernel_rfl) (by kernel_rfl) (by kernel_rfl) (fun _ _ _ h => h) (v := ?_) (by kernel_rfl) ?_ (by assumption) ?_; rotate_left; (focus (intro wS hSw; have hX := fun b o h hn => hSw.cell (p := ⟨b, o, none⟩) h hn; go_simp; try with_reducible rfl)); (try simp only [Act.put, List.setIfInBounds_toArray, List.set_cons_zero, List.set_cons_succ]))
  (refine take_at 8 (some 18) rfl rfl (by kernel_rfl) (by kernel_rfl) (by kernel_rfl) (fun _ _ _ h => h) (v := ?_) (by kernel_rfl) ?_ (by assumption) ?_; rotate_left; (focus (intro wS hSw; skip; go_simp; try with_reducible rfl)); (try simp only [Act.put, List.setIfInBounds_toArray, List.set_cons_zero, List.set_cons_succ]))
  (refine take_at 9 (some 19) rfl rfl (by kernel_rfl) (by kernel_rfl) (by kernel_rfl) (fun _ _ _ h => h) (v := ?_) (by kernel_rfl) ?_ (by assumption) ?_; rotate_left; (focus (intro wS hSw; skip; go_simp; try with_reducible rfl)); (try simp only [Act.put, List.setIfInBounds_toArray, List.set_cons_zero, List.set_cons_succ]))
  refine wpAnyH_ready (rs := [10]) (by kernel_rfl) (by simp) ?_
  refine AllReadyH.cons rfl (fun K hK => ?_) AllReadyH.nil
  have cg34 := cell_at B_g3 4 rfl
  have zg3 := froz_at B_g3
  have lg3 := hid_lt B_g3
  go_simp
  refine k_gen hK (fun x3 hW => ?_)
  have hB := set_blk hW B_g3
  have hf := set_now hW
  clear hW zg3 lg3 cg34
  simp only [List.setIfInBounds_toArray, List.set_cons_zero, List.set_cons_succ] at hB
  have hn := Fp.trans hHeld hf (fun i _ e => e)
  refine ⟨hn, ?_⟩
  clear hK K hHeld
  have hHeld := hn
  clear hn
  try simp only [Act.put, List.setIfInBounds_toArray, List.set_cons_zero, List.set_cons_succ]
  replace B_g2 := hid_blkS B_g2 hf n_g2_g3
  replace B_g3 := hB
  clear hB hf
  (refine take_at 11 (some 20) rfl rfl (by kernel_rfl) (by kernel_rfl) (by kernel_rfl) (fun _ _ _ h => h) (v := ?_) (by kernel_rfl) ?_ (by assumption) ?_; rotate_left; (focus (intro wS hSw; skip; go_simp; try with_reducible rfl)); (try simp only [Act.put, List.setIfInBounds_toArray, List.set_cons_zero, List.set_cons_succ]))
  (refine take_at 12 (some 21) rfl rfl (by kernel_rfl) (by kernel_rfl) (by kernel_rfl) (fun _ _ _ h => h) (v := ?_) (by kernel_rfl) ?_ (by assumption) ?_; rotate_left; (focus (intro wS hSw; skip; go_simp; try with_reducible rfl)); (try simp only [Act.put, List.setIfInBounds_toArray, List.set_cons_zero, List.set_cons_succ]))
  refine wpAnyH_ready (rs := [13]) (by kernel_rfl) (by simp) ?_
  refine AllReadyH.cons rfl (fun K hK => ?_) AllReadyH.nil
  have cg35 := cell_at B_g3 5 rfl
  have zg3 := froz_at B_g3
  have lg3 := hid_lt B_g3
  go_simp
  refine k_gen hK (fun x4 hW => ?_)
  have hB := set_blk hW B_g3
  have hf := set_now hW
  clear hW zg3 lg3 cg35
  simp only [List.setIfInBounds_toArray, List.set_cons_zero, List.set_cons_succ] at hB
  have hn := Fp.trans hHeld hf (fun i _ e => e)
  refine ⟨hn, ?_⟩
  clear hK K hHeld
  have hHeld := hn
  clear hn
  try simp only [Act.put, List.setIfInBounds_toArray, List.set_cons_zero, List.set_cons_succ]
  replace B_g2 := hid_blkS B_g2 hf n_g2_g3
  replace B_g3 := hB
  clear hB hf
  (refine take_at 14 (some 22) rfl rfl (by kernel_rfl) (by kernel_rfl) (by kernel_rfl) (fun _ _ _ h => h) (v := ?_) (by kernel_rfl) ?_ (by assumption) ?_; rotate_left; (focus (intro wS hSw; skip; go_simp; try with_reducible rfl)); (try simp only [Act.put, List.setIfInBounds_toArray, List.set_cons_zero, List.set_cons_succ]))
  (refine take_at 15 (some 23) rfl rfl (by kernel_rfl) (by kernel_rfl) (by kernel_rfl) (fun _ _ _ h => h) (v := ?_) (by kernel_rfl) ?_ (by assumption) ?_; rotate_left; (focus (intro wS hSw; skip; go_simp; try with_reducible rfl)); (try simp only [Act.put, List.setIfInBounds_toArray, List.set_cons_zero, List.set_cons_succ]))
  refine wpAnyH_ready (rs := [16]) (by kernel_rfl) (by simp) ?_
  refine AllReadyH.cons rfl (fun K hK => ?_) AllReadyH.nil
  have cg36 := cell_at B_g3 6 rfl
  have zg3 := froz_at B_g3
  have lg3 := hid_lt B_g3
  go_simp
  refine k_gen hK (fun x5 hW => ?_)
  have hB := set_blk hW B_g3
  have hf := set_now hW
  clear hW zg3 lg3 cg36
  simp only [List.setIfInBounds_toArray, List.set_cons_zero, List.set_cons_succ] at hB
  have hn := Fp.trans hHeld hf (fun i _ e => e)
  refine ⟨hn, ?_⟩
  clear hK K hHeld
  have hHeld := hn
  clear hn
  try simp only [Act.put, List.setIfInBounds_toArray, List.set_cons_zero, List.set_cons_succ]
  replace B_g2 := hid_blkS B_g2 hf n_g2_g3
  replace B_g3 := hB
  clear hB hf
  refine wpAnyH_done (by kernel_rfl) ?_ _
  clear cg20 cg21 cg22 cg23 cg24 zg2 lg2
  have hGe := hid_ge HN
  replace HN := hid_own HN hHeld (fun i hi e => by have h1 : i = g3 := e; have h2 := G_g3.out; omega)
  clear hHeld hGe
  have cg20 := cell_at B_g2 0 rfl
  have cg21 := cell_at B_g2 1 rfl
  have cg22 := cell_at B_g2 2 rfl
  have cg23 := cell_at B_g2 3 rfl
  have cg24 := cell_at B_g2 4 rfl
  have zg2 := froz_at B_g2
  have lg2 := hid_lt B_g2
  have cg30 := cell_at B_g3 0 rfl
  have cg31 := cell_at B_g3 1 rfl
  have cg32 := cell_at B_g3 2 rfl
  have cg33 := cell_at B_g3 3 rfl
  have cg34 := cell_at B_g3 4 rfl
  have cg35 := cell_at B_g3 5 rfl
  have cg36 := cell_at B_g3 6 rfl
  have cg37 := cell_at B_g3 7 rfl
  have cg38 := cell_at B_g3 8 rfl
  have cg39 := cell_at B_g3 9 rfl
  have cg310 := cell_at B_g3 10 rfl
  have cg311 := cell_at B_g3 11 rfl
  have cg312 := cell_at B_g3 12 rfl
  have cg313 := cell_at B_g3 13 rfl
  have cg314 := cell_at B_g3 14 rfl
  have cg315 := cell_at B_g3 15 rfl
  have cg316 := cell_at B_g3 16 rfl
  have cg317 := cell_at B_g3 17 rfl
  have cg318 := cell_at B_g3 18 rfl
  have cg319 := cell_at B_g3 19 rfl
  have zg3 := froz_at B_g3
  have lg3 := hid_lt B_g3
  go_wp2_with fail
  clear cg20 cg21 cg22 cg23 cg24 zg2 lg2 cg30 cg31 cg32 cg33 cg34 cg35 cg36 cg37 cg38 cg39 cg310 cg311 cg312 cg313 cg314 cg315 cg316 cg317 cg318 cg319 zg3 lg3
  refine (show Calls _ _ _ _ _ from KT.out _).mono ?_
  rintro e x6 ⟨rfl, hp⟩
  replace HN := hid_now HN hp
  replace B_g2 := hid_blk B_g2 hp
  replace B_g3 := hid_blk B_g3 hp
  clear hp
  have cg30 := cell_at B_g3 0 rfl
  have cg31 := cell_at B_g3 1 rfl
  have cg32 := cell_at B_g3 2 rfl
  have cg33 := cell_at B_g3 3 rfl
  have cg34 := cell_at B_g3 4 rfl
  have cg35 := cell_at B_g3 5 rfl
  have cg36 := cell_at B_g3 6 rfl
  have cg37 := cell_at B_g3 7 rfl
  have cg38 := cell_at B_g3 8 rfl
  have cg39 := cell_at B_g3 9 rfl
  have cg310 := cell_at B_g3 10 rfl
  have cg311 := cell_at B_g3 11 rfl
  have cg312 := cell_at B_g3 12 rfl
  have cg313 := cell_at B_g3 13 rfl
  have cg314 := cell_at B_g3 14 rfl
  have cg315 := cell_at B_g3 15 rfl
  have cg316 := cell_at B_g3 16 rfl
  have cg317 := cell_at B_g3 17 rfl
  have cg318 := cell_at B_g3 18 rfl
  have cg319 := cell_at B_g3 19 rfl
  have zg3 := froz_at B_g3
  have lg3 := hid_lt B_g3
  go_wp2_with fail
  clear cg30 cg31 cg32 cg33 cg34 cg35 cg36 cg37 cg38 cg39 cg310 cg311 cg312 cg313 cg314 cg315 cg316 cg317 cg318 cg319 zg3 lg3
  refine (show Calls _ _ _ _ _ from KI.out _).mono ?_
  rintro e x7 ⟨rfl, hp⟩
  replace HN := hid_now HN hp
  replace B_g2 := hid_blk B_g2 hp
  replace B_g3 := hid_blk B_g3 hp
  clear hp
  go_wp2_with fail
  go_ret2
  exact ⟨rfl, HN.out⟩
set_option maxHeartbeats 8000000 in
set_option maxRecDepth 100000 in
theorem lput_ask (tos id : Nat) (fl : Bool) (ttl : Nat) (pr0 sr0 ds0 : Int) (op : List UInt8) (sp0 dp0 : Int) (seq ack low fg win sum urg : Nat) (gop : List UInt8) (ty : Nat) (d : List UInt8) (sr sp ds dp : Nat) (n : Nat) (hn : n < 65536) (htos : tos < 256) (hid : id < 65536) (httl : ttl < 256) (hop : op.length ≤ 600) (hseq : seq < 4294967296) (hack : ack < 4294967296) (hfg : fg < 256) (hwin : win < 65536) (hsum : sum < 65536) (hurg : urg < 65536) (hgop : gop.length ≤ 600) (hty : ty < 256) (hd : d.length ≤ 600) (hsr : sr < 4294967296) (hsp : sp < 65536) (hds : ds < 4294967296) (hdp : dp < 65536) (w : World) :
    Calls Tryz.prog 22 #[.agg #[.int .u8 1, .int .u32 (sr : Nat), .int .u16 (n : Nat), .int .u32 (ds : Nat), .int .u16 0], .agg #[.int .u8 (tos : Nat), .int .u16 (id : Nat), .bool fl, .int .u8 (ttl : Nat), .int .u8 pr0, .int .u32 sr0, .int .u32 ds0, str op, .int .u16 sp0, .int .u16 dp0, .int .u32 (seq : Nat), .int .u32 (ack : Nat), .int .u8 (low : Nat), .int .u8 (fg : Nat), .int .u16 (win : Nat), .int .u16 (sum : Nat), .int .u16 (urg : Nat), str gop, .int .u8 (ty : Nat), str d]] w (Ret1 (.tuple #[str (ipS tos id fl ttl 1 sr ds op (icmpPutL ty sum n d)), .bool (ipOkB op (icmpPutL ty sum n d))]) w) := by
  have KT := Lib.hid (fun W => icmp_withid ty sum n [46, 46, 46, 46] d hn rfl W)
  have KP := Lib.hid (fun W => icmp_put ty sum (b16 n ++ [46, 46]) d hty hsum rfl (by omega) W)
  skip
  have c0 : bits .or .u16 (n : Int) 0 = (n : Int) := by have h := u16_or_nat n 0 hn (by omega); simpa using h
  have c1 : bits .or .u16 0 (n : Int) = (n : Int) := by have h := u16_or_nat 0 n (by omega) hn; simpa using h
  obtain ⟨ld, hld⟩ : ∃ ld, ld = icmpPutL ty sum n d := ⟨_, rfl⟩
  rw [← hld]
  have lld : ld.length ≤ 1000000 := by rw [hld]; simp [icmpPutL, b16_len]; omega
  have KI := Lib.hid (fun W => ip_put_any tos id ttl 1 sr ds fl op ld htos hid httl (by omega) hsr hds (by omega) lld W)
  have hf : ((ipE op ld : Int) == 0) = ipOkB op ld := ipE_zero
  generalize ipS tos id fl ttl 1 sr ds op ld = S at *
  generalize ipE op ld = f at *
  generalize ipOkB op ld = B2 at *
  have hld2 : ld = (b16 (ty * 256) ++ b16 sum) ++ (b16 n ++ [46, 46]) ++ d := hld
  rw [← hld2] at KP
  have hr2 : b16 n ++ ([46, 46, 46, 46] : List UInt8).drop 2 = b16 n ++ [46, 46] := rfl
  rw [hr2] at KT
  generalize b16 n ++ [46, 46] = r2 at *
  clear hld hld2 lld hr2
  go_enter Tryz.func22, Tryz.ntmps22
  have HN := Lib.hid (Fp.refl (fun _ => False) w)
  go_upto_region 1 with fail
  refine wp_gen (fun x1 hW => ?_)
  obtain ⟨hB, hB2, hp⟩ := new2_blk hW
  clear hW
  have hGe := hid_ge HN
  replace HN := hid_now HN hp
  obtain ⟨g3, hg3⟩ : ∃ g3, g3 = w.heap.size + 1 := ⟨_, rfl⟩
  obtain ⟨g2, hg2⟩ : ∃ g2, g2 = w.heap.size := ⟨_, rfl⟩
  have G_g2 := Lib.hid (show w.heap.size ≤ g2 by omega)
  have G_g3 := Lib.hid (show w.heap.size ≤ g3 by omega)
  have n_g2_g3 : ¬ g2 = g3 := by omega
  have n_g3_g2 : ¬ g3 = g2 := by omega
  rw [← hg3] at hB2 ⊢
  rw [← hg2] at hB ⊢
  have B_g2 := hB
  have B_g3 := hB2
  clear hB hB2 hg2 hg3 hGe hp
  have cg20 := cell_at B_g2 0 rfl
  have cg21 := cell_at B_g2 1 rfl
  have cg22 := cell_at B_g2 2 rfl
  have cg23 := cell_at B_g2 3 rfl
  have cg24 := cell_at B_g2 4 rfl
  have zg2 := froz_at B_g2
  have lg2 := hid_lt B_g2
  refine wp_region_held_drew (S := fun wx => Fp (fun b => b = g3) x1 wx) (by kernel_rfl) (Fp.drew (Fp.refl _ _)) (fun hHeld0 => ?_)
  refine any_eq hHeld0 (fun x2 hW hHeld => ?_)
  clear hHeld0
  replace B_g2 := hid_blk B_g2 (noW_drew hW)
  replace B_g3 := hid_blk B_g3 (noW_drew hW)
  clear hW
  (refine take_at 0 (some 10) rfl rfl (by kernel_rfl) (by kernel_rfl) (by kernel_rfl) (fun _ _ _ h => h) (v := ?_) (by kernel_rfl) ?_ (by assumption) ?_; rotate_left; (focus (intro wS hSw; skip; go_simp; try with_reducible rfl)); (try simp only [Act.put, List.setIfInBounds_toArray, List.set_cons_zero, List.set_cons_succ]))
  (refine take_at 1 (some 11) rfl rfl (by kernel_rfl) (by kernel_rfl) (by kernel_rfl) (fun _ _ _ h => h) (v := ?_) (by kernel_rfl) ?_ (by assumption) ?_; rotate_left; (focus (intro wS hSw; have hX := fun b o h hn => hSw.cell (p := ⟨b, o, none⟩) h hn; go_simp; try with_reducible rfl)); (try simp only [Act.put, List.setIfInBounds_toArray, List.set_cons_zero, List.set_cons_succ]))
  (refine take_at 2 (some 12) rfl rfl (by kernel_rfl) (by kernel_rfl) (by kernel_rfl) (fun _ _ _ h => h) (v := ?_) (by kernel_rfl) ?_ (by assumption) ?_; rotate_left; (focus (intro wS hSw; skip; go_simp; try with_reducible rfl)); (try simp only [Act.put, List.setIfInBounds_toArray, List.set_cons_zero, List.set_cons_succ]))
  (refine take_at 3 (some 13) rfl rfl (by kernel_rfl) (by kernel_rfl) (by kernel_rfl) (fun _ _ _ h => h) (v := ?_) (by kernel_rfl) ?_ (by assumption) ?_; rotate_left; (focus (intro wS hSw; skip; go_simp; try with_reducible rfl)); (try simp only [Act.put, List.setIfInBounds_toArray, List.set_cons_zero, List.set_cons_succ]))
  (refine take_at 4 (some 14) rfl rfl (by kernel_rfl) (by kernel_rfl) (by kernel_rfl) (fun _ _ _ h => h) (v := ?_) (by kernel_rfl) ?_ (by assumption) ?_; rotate_left; (focus (intro wS hSw; have hX := fun b o h hn => hSw.cell (p := ⟨b, o, none⟩) h hn; go_simp; try with_reducible rfl)); (try simp only [Act.put, List.setIfInBounds_toArray, List.set_cons_zero, List.set_cons_succ]))
  (refine take_at 5 (some 15) rfl rfl (by kernel_rfl) (by kernel_rfl) (by kernel_rfl) (fun _ _ _ h => h) (v := ?_) (by kernel_rfl) ?_ (by assumption) ?_; rotate_left; (focus (intro wS hSw; skip; go_simp; try with_reducible rfl)); (try simp only [Act.put, List.setIfInBounds_toArray, List.set_cons_zero, List.set_cons_succ]))
  (refine take_at 6 (some 16) rfl rfl (by kernel_rfl) (by kernel_rfl) (by kernel_rfl) (fun _ _ _ h => h) (v := ?_) (by kernel_rfl) ?_ (by assumption) ?_; rotate_left; (focus (intro wS hSw; skip; go_simp; try with_reducible rfl)); (try simp only [Act.put, List.setIfInBounds_toArray, List.set_cons_zero, List.set_cons_succ]))
  (refine take_at 7 (some 17) rfl rfl (by kernel_rfl) (by kernel_rfl) (by kernel_rfl) (fun _ _ _ h => h) (v := ?_) (by kernel_rfl) ?_ (by assumption) ?_; rotate_left; (focus (intro wS hSw; have hX := fun b o h hn => hSw.cell (p := ⟨b, o, none⟩) h hn; go_simp; try with_reducible rfl)); (try simp only [Act.put, List.setIfInBounds_toArray, List.set_cons_zero, List.set_cons_succ]))
  (refine take_at 8 (some 18) rfl rfl (by kernel_rfl) (by kernel_rfl) (by kernel_rfl) (fun _ _ _ h => h) (v := ?_) (by kernel_rfl) ?_ (by assumption) ?_; rotate_left; (focus (intro wS hSw; skip; go_simp; try with_reducible rfl)); (try simp only [Act.put, List.setIfInBounds_toArray, List.set_cons_zero, List.set_cons_succ]))
  (refine take_at 9 (some 19) rfl rfl (by kernel_rfl) (by kernel_rfl) (by kernel_rfl) (fun _ _ _ h => h) (v := ?_) (by kernel_rfl) ?_ (by assumption) ?_; rotate_left; (focus (intro wS hSw; skip; go_simp; try with_reducible rfl)); (try simp only [Act.put, List.setIfInBounds_toArray, List.set_cons_zero, List.set_cons_succ]))
  refine wpAnyH_ready (rs := [10]) (by kernel_rfl) (by simp) ?_
  refine AllReadyH.cons rfl (fun K hK => ?_) AllReadyH.nil
  have cg34 := cell_at B_g3 4 rfl
  have zg3 := froz_at B_g3
  have lg3 := hid_lt B_g3
  go_simp
  refine k_gen hK (fun x3 hW => ?_)
  have hB := set_blk hW B_g3
  have hf := set_now hW
  clear hW zg3 lg3 cg34
  simp only [List.setIfInBounds_toArray, List.set_cons_zero, List.set_cons_succ] at hB
  have hn := Fp.trans hHeld hf (fun i _ e => e)
  refine ⟨hn, ?_⟩
  clear hK K hHeld
  have hHeld := hn
  clear hn
  try simp only [Act.put, List.setIfInBounds_toArray, List.set_cons_zero, List.set_cons_succ]
  replace B_g2 := hid_blkS B_g2 hf n_g2_g3
  replace B_g3 := hB
  clear hB hf
  (refine take_at 11 (some 20) rfl rfl (by kernel_rfl) (by kernel_rfl) (by kernel_rfl) (fun _ _ _ h => h) (v := ?_) (by kernel_rfl) ?_ (by assumption) ?_; rotate_left; (focus (intro wS hSw; skip; go_simp; try with_reducible rfl)); (try simp only [Act.put, List.setIfInBounds_toArray, List.set_cons_zero, List.set_cons_succ]))
  (refine take_at 12 (some 21) rfl rfl (by kernel_rfl) (by kernel_rfl) (by kernel_rfl) (fun _ _ _ h => h) (v := ?_) (by kernel_rfl) ?_ (by assumption) ?_; rotate_left; (focus (intro wS hSw; skip; go_simp; try with_reducible rfl)); (try simp only [Act.put, List.setIfInBounds_toArray, List.set_cons_zero, List.set_cons_succ]))
  refine wpAnyH_ready (rs := [13]) (by kernel_rfl) (by simp) ?_
  refine AllReadyH.cons rfl (fun K hK => ?_) AllReadyH.nil
  have cg35 := cell_at B_g3 5 rfl
  have zg3 := froz_at B_g3
  have lg3 := hid_lt B_g3
  go_simp
  refine k_gen hK (fun x4 hW => ?_)
  have hB := set_blk hW B_g3
  have hf := set_now hW
  clear hW zg3 lg3 cg35
  simp only [List.setIfInBounds_toArray, List.set_cons_zero, List.set_cons_succ] at hB
  have hn := Fp.trans hHeld hf (fun i _ e => e)
  refine ⟨hn, ?_⟩
  clear hK K hHeld
  have hHeld := hn
  clear hn
  try simp only [Act.put, List.setIfInBounds_toArray, List.set_cons_zero, List.set_cons_succ]
  replace B_g2 := hid_blkS B_g2 hf n_g2_g3
  replace B_g3 := hB
  clear hB hf
  (refine take_at 14 (some 22) rfl rfl (by kernel_rfl) (by kernel_rfl) (by kernel_rfl) (fun _ _ _ h => h) (v := ?_) (by kernel_rfl) ?_ (by assumption) ?_; rotate_left; (focus (intro wS hSw; skip; go_simp; try with_reducible rfl)); (try simp only [Act.put, List.setIfInBounds_toArray, List.set_cons_zero, List.set_cons_succ]))
  (refine take_at 15 (some 23) rfl rfl (by kernel_rfl) (by kernel_rfl) (by kernel_rfl) (fun _ _ _ h => h) (v := ?_) (by kernel_rfl) ?_ (by assumption) ?_; rotate_left; (focus (intro wS hSw; skip; go_simp; try with_reducible rfl)); (try simp only [Act.put, List.setIfInBounds_toArray, List.set_cons_zero, List.set_cons_succ]))
  refine wpAnyH_ready (rs := [16]) (by kernel_rfl) (by simp) ?_
  refine AllReadyH.cons rfl (fun K hK => ?_) AllReadyH.nil
  have cg36 := cell_at B_g3 6 rfl
  have zg3 := froz_at B_g3
  have lg3 := hid_lt B_g3
  go_simp
  refine k_gen hK (fun x5 hW => ?_)
  have hB := set_blk hW B_g3
  have hf := set_now hW
  clear hW zg3 lg3 cg36
  simp only [List.setIfInBounds_toArray, List.set_cons_zero, List.set_cons_succ] at hB
  have hn := Fp.trans hHeld hf (fun i _ e => e)
  refine ⟨hn, ?_⟩
  clear hK K hHeld
  have hHeld := hn
  clear hn
  try simp only [Act.put, List.setIfInBounds_toArray, List.set_cons_zero, List.set_cons_succ]
  replace B_g2 := hid_blkS B_g2 hf n_g2_g3
  replace B_g3 := hB
  clear hB hf
  refine wpAnyH_done (by kernel_rfl) ?_ _
  clear cg20 cg21 cg22 cg23 cg24 zg2 lg2
  have hGe := hid_ge HN
  replace HN := hid_own HN hHeld (fun i hi e => by have h1 : i = g3 := e; have h2 := G_g3.out; omega)
  clear hHeld hGe
  have cg20 := cell_at B_g2 0 rfl
  have cg21 := cell_at B_g2 1 rfl
  have cg22 := cell_at B_g2 2 rfl
  have cg23 := cell_at B_g2 3 rfl
  have cg24 := cell_at B_g2 4 rfl
  have zg2 := froz_at B_g2
  have lg2 := hid_lt B_g2
  have cg30 := cell_at B_g3 0 rfl
  have cg31 := cell_at B_g3 1 rfl
  have cg32 := cell_at B_g3 2 rfl
  have cg33 := cell_at B_g3 3 rfl
  have cg34 := cell_at B_g3 4 rfl
  have cg35 := cell_at B_g3 5 rfl
  have cg36 := cell_at B_g3 6 rfl
  have cg37 := cell_at B_g3 7 rfl
  have cg38 := cell_at B_g3 8 rfl
  have cg39 := cell_at B_g3 9 rfl
  have cg310 := cell_at B_g3 10 rfl
  have cg311 := cell_at B_g3 11 rfl
  have cg312 := cell_at B_g3 12 rfl
  have cg313 := cell_at B_g3 13 rfl
  have cg314 := cell_at B_g3 14 rfl
  have cg315 := cell_at B_g3 15 rfl
  have cg316 := cell_at B_g3 16 rfl
  have cg317 := cell_at B_g3 17 rfl
  have cg318 := cell_at B_g3 18 rfl
  have cg319 := cell_at B_g3 19 rfl
  have zg3 := froz_at B_g3
  have lg3 := hid_lt B_g3
  go_wp2_with fail
  clear cg20 cg21 cg22 cg23 cg24 zg2 lg2 cg30 cg31 cg32 cg33 cg34 cg35 cg36 cg37 cg38 cg39 cg310 cg311 cg312 cg313 cg314 cg315 cg316 cg317 cg318 cg319 zg3 lg3
  refine (show Calls _ _ _ _ _ from KT.out _).mono ?_
  rintro e x6 ⟨rfl, hp⟩
  replace HN := hid_now HN hp
  replace B_g2 := hid_blk B_g2 hp
  replace B_g3 := hid_blk B_g3 hp
  clear hp
  go_wp2_with fail
  refine (show Calls _ _ _ _ _ from KP.out _).mono ?_
  rintro e x7 ⟨rfl, hp⟩
  replace HN := hid_now HN hp
  replace B_g2 := hid_blk B_g2 hp
  replace B_g3 := hid_blk B_g3 hp
  clear hp
  have cg30 := cell_at B_g3 0 rfl
  have cg31 := cell_at B_g3 1 rfl
  have cg32 := cell_at B_g3 2 rfl
  have cg33 := cell_at B_g3 3 rfl
  have cg34 := cell_at B_g3 4 rfl
  have cg35 := cell_at B_g3 5 rfl
  have cg36 := cell_at B_g3 6 rfl
  have cg37 := cell_at B_g3 7 rfl
  have cg38 := cell_at B_g3 8 rfl
  have cg39 := cell_at B_g3 9 rfl
  have cg310 := cell_at B_g3 10 rfl
  have cg311 := cell_at B_g3 11 rfl
  have cg312 := cell_at B_g3 12 rfl
  have cg313 := cell_at B_g3 13 rfl
  have cg314 := cell_at B_g3 14 rfl
  have cg315 := cell_at B_g3 15 rfl
  have cg316 := cell_at B_g3 16 rfl
  have cg317 := cell_at B_g3 17 rfl
  have cg318 := cell_at B_g3 18 rfl
  have cg319 := cell_at B_g3 19 rfl
  have zg3 := froz_at B_g3
  have lg3 := hid_lt B_g3
  go_wp2_with fail
  clear cg30 cg31 cg32 cg33 cg34 cg35 cg36 cg37 cg38 cg39 cg310 cg311 cg312 cg313 cg314 cg315 cg316 cg317 cg318 cg319 zg3 lg3
  refine (show Calls _ _ _ _ _ from KI.out _).mono ?_
  rintro e x8 ⟨rfl, hp⟩
  replace HN := hid_now HN hp
  replace B_g2 := hid_blk B_g2 hp
  replace B_g3 := hid_blk B_g3 hp
  clear hp
  go_wp2_with fail
  go_ret2
  exact ⟨rfl, HN.out⟩
set_option maxHeartbeats 8000000 in
set_option maxRecDepth 100000 in
theorem lput_told (tos id : Nat) (fl : Bool) (ttl : Nat) (pr0 sr0 ds0 : Int) (op : List UInt8) (sp0 dp0 : Int) (seq ack low fg win sum urg : Nat) (gop : List UInt8) (ty : Nat) (d : List UInt8) (sr sp ds dp : Nat) (n : Nat) (hn : n < 65536) (htos : tos < 256) (hid : id < 65536) (httl : ttl < 256) (hop : op.length ≤ 600) (hseq : seq < 4294967296) (hack : ack < 4294967296) (hfg : fg < 256) (hwin : win < 65536) (hsum : sum < 65536) (hurg : urg < 65536) (hgop : gop.length ≤ 600) (hty : ty < 256) (hd : d.length ≤ 600) (hsr : sr < 4294967296) (hsp : sp < 65536) (hds : ds < 4294967296) (hdp : dp < 65536) (w : World) :
    Calls Tryz.prog 22 #[.agg #[.int .u8 1, .int .u32 (sr : Nat), .int .u16 0, .int .u32 (ds : Nat), .int .u16 (n : Nat)], .agg #[.int .u8 (tos : Nat), .int .u16 (id : Nat), .bool fl, .int .u8 (ttl : Nat), .int .u8 pr0, .int .u32 sr0, .int .u32 ds0, str op, .int .u16 sp0, .int .u16 dp0, .int .u32 (seq : Nat), .int .u32 (ack : Nat), .int .u8 (low : Nat), .int .u8 (fg : Nat), .int .u16 (win : Nat), .int .u16 (sum : Nat), .int .u16 (urg : Nat), str gop, .int .u8 (ty : Nat), str d]] w (Ret1 (.tuple #[str (ipS tos id fl ttl 1 sr ds op (icmpPutL ty sum n d)), .bool (ipOkB op (icmpPutL ty sum n d))]) w) := by
  have KT := Lib.hid (fun W => icmp_withid ty sum n [46, 46, 46, 46] d hn rfl W)
  have KP := Lib.hid (fun W => icmp_put ty sum (b16 n ++ [46, 46]) d hty hsum rfl (by omega) W)
  skip
  have c0 : bits .or .u16 (n : Int) 0 = (n : Int) := by have h := u16_or_nat n 0 hn (by omega); simpa using h
  have c1 : bits .or .u16 0 (n : Int) = (n : Int) := by have h := u16_or_nat 0 n (by omega) hn; simpa using h
  obtain ⟨ld, hld⟩ : ∃ ld, ld = icmpPutL ty sum n d := ⟨_, rfl⟩
  rw [← hld]
  have lld : ld.length ≤ 1000000 := by rw [hld]; simp [icmpPutL, b16_len]; omega
  have KI := Lib.hid (fun W => ip_put_any tos id ttl 1 sr ds fl op ld htos hid httl (by omega) hsr hds (by omega) lld W)
  have hf : ((ipE op ld : Int) == 0) = ipOkB op ld := ipE_zero
  generalize ipS tos id fl ttl 1 sr ds op ld = S at *
  generalize ipE op ld = f at *
  generalize ipOkB op ld = B2 at *
  have hld2 : ld = (b16 (ty * 256) ++ b16 sum) ++ (b16 n ++ [46, 46]) ++ d := hld
  rw [← hld2] at KP
  have hr2 : b16 n ++ ([46, 46, 46, 46] : List UInt8).drop 2 = b16 n ++ [46, 46] := rfl
  rw [hr2] at KT
  generalize b16 n ++ [46, 46] = r2 at *
  clear hld hld2 lld hr2
  go_enter Tryz.func22, Tryz.ntmps22
  have HN := Lib.hid (Fp.refl (fun _ => False) w)
  go_upto_region 1 with fail
  refine wp_gen (fun x1 hW => ?_)
  obtain ⟨hB, hB2, hp⟩ := new2_blk hW
  clear hW
  have hGe := hid_ge HN
  replace HN := hid_now HN hp
  obtain ⟨g3, hg3⟩ : ∃ g3, g3 = w.heap.size + 1 := ⟨_, rfl⟩
  obtain ⟨g2, hg2⟩ : ∃ g2, g2 = w.heap.size := ⟨_, rfl⟩
  have G_g2 := Lib.hid (show w.heap.size ≤ g2 by omega)
  have G_g3 := Lib.hid (show w.heap.size ≤ g3 by omega)
  have n_g2_g3 : ¬ g2 = g3 := by omega
  have n_g3_g2 : ¬ g3 = g2 := by omega
  rw [← hg3] at hB2 ⊢
  rw [← hg2] at hB ⊢
  have B_g2 := hB
  have B_g3 := hB2
  clear hB hB2 hg2 hg3 hGe hp
  have cg20 := cell_at B_g2 0 rfl
  have cg21 := cell_at B_g2 1 rfl
  have cg22 := cell_at B_g2 2 rfl
  have cg23 := cell_at B_g2 3 rfl
  have cg24 := cell_at B_g2 4 rfl
  have zg2 := froz_at B_g2
  have lg2 := hid_lt B_g2
  refine wp_region_held_drew (S := fun wx => Fp (fun b => b = g3) x1 wx) (by kernel_rfl) (Fp.drew (Fp.refl _ _)) (fun hHeld0 => ?_)
  refine any_eq hHeld0 (fun x2 hW hHeld => ?_)
  clear hHeld0
  replace B_g2 := hid_blk B_g2 (noW_drew hW)
  replace B_g3 := hid_blk B_g3 (noW_drew hW)
  clear hW
  (refine take_at 0 (some 10) rfl rfl (by kernel_rfl) (by kernel_rfl) (by kernel_rfl) (fun _ _ _ h => h) (v := ?_) (by kernel_rfl) ?_ (by assumption) ?_; rotate_left; (focus (intro wS hSw; skip; go_simp; try with_reducible rfl)); (try simp only [Act.put, List.setIfInBounds_toArray, List.set_cons_zero, List.set_cons_succ]))
  (refine take_at 1 (some 11) rfl rfl (by kernel_rfl) (by kernel_rfl) (by kernel_rfl) (fun _ _ _ h => h) (v := ?_) (by kernel_rfl) ?_ (by assumption) ?_; rotate_left; (focus (intro wS hSw; have hX := fun b o h hn => hSw.cell (p := ⟨b, o, none⟩) h hn; go_simp; try with_reducible rfl)); (try simp only [Act.put, List.setIfInBounds_toArray, List.set_cons_zero, List.set_cons_succ]))
  (refine take_at 2 (some 12) rfl rfl (by kernel_rfl) (by kernel_rfl) (by kernel_rfl) (fun _ _ _ h => h) (v := ?_) (by kernel_rfl) ?_ (by assumption) ?_; rotate_left; (focus (intro wS hSw; skip; go_simp; try with_reducible rfl)); (try simp only [Act.put, List.setIfInBounds_toArray, List.set_cons_zero, List.set_cons_succ]))
  (refine take_at 3 (some 13) rfl rfl (by kernel_rfl) (by kernel_rfl) (by kernel_rfl) (fun _ _ _ h => h) (v := ?_) (by kernel_rfl) ?_ (by assumption) ?_; rotate_left; (focus (intro wS hSw; skip; go_simp; try with_reducible rfl)); (try simp only [Act.put, List.setIfInBounds_toArray, List.set_cons_zero, List.set_cons_succ]))
  (refine take_at 4 (some 14) rfl rfl (by kernel_rfl) (by kernel_rfl) (by kernel_rfl) (fun _ _ _ h => h) (v := ?_) (by kernel_rfl) ?_ (by assumption) ?_; rotate_left; (focus (intro wS hSw; have hX := fun b o h hn => hSw.cell (p := ⟨b, o, none⟩) h hn; go_simp; try with_reducible rfl)); (try simp only [Act.put, List.setIfInBounds_toArray, List.set_cons_zero, List.set_cons_succ]))
  (refine take_at 5 (some 15) rfl rfl (by kernel_rfl) (by kernel_rfl) (by kernel_rfl) (fun _ _ _ h => h) (v := ?_) (by kernel_rfl) ?_ (by assumption) ?_; rotate_left; (focus (intro wS hSw; skip; go_simp; try with_reducible rfl)); (try simp only [Act.put, List.setIfInBounds_toArray, List.set_cons_zero, List.set_cons_succ]))
  (refine take_at 6 (some 16) rfl rfl (by kernel_rfl) (by kernel_rfl) (by kernel_rfl) (fun _ _ _ h => h) (v := ?_) (by kernel_rfl) ?_ (by assumption) ?_; rotate_left; (focus (intro wS hSw; skip; go_simp; try with_reducible rfl)); (try simp only [Act.put, List.setIfInBounds_toArray, List.set_cons_zero, List.set_cons_succ]))
  (refine take_at 7 (some 17) rfl rfl (by kernel_rfl) (by kernel_rfl) (by kernel_rfl) (fun _ _ _ h => h) (v := ?_) (by kernel_rfl) ?_ (by assumption) ?_; rotate_left; (focus (intro wS hSw; have hX := fun b o h hn => hSw.cell (p := ⟨b, o, none⟩) h hn; go_simp; try with_reducible rfl)); (try simp only [Act.put, List.setIfInBounds_toArray, List.set_cons_zero, List.set_cons_succ]))
  (refine take_at 8 (some 18) rfl rfl (by kernel_rfl) (by kernel_rfl) (by kernel_rfl) (fun _ _ _ h => h) (v := ?_) (by kernel_rfl) ?_ (by assumption) ?_; rotate_left; (focus (intro wS hSw; skip; go_simp; try with_reducible rfl)); (try simp only [Act.put, List.setIfInBounds_toArray, List.set_cons_zero, List.set_cons_succ]))
  (refine take_at 9 (some 19) rfl rfl (by kernel_rfl) (by kernel_rfl) (by kernel_rfl) (fun _ _ _ h => h) (v := ?_) (by kernel_rfl) ?_ (by assumption) ?_; rotate_left; (focus (intro wS hSw; skip; go_simp; try with_reducible rfl)); (try simp only [Act.put, List.setIfInBounds_toArray, List.set_cons_zero, List.set_cons_succ]))
  refine wpAnyH_ready (rs := [10]) (by kernel_rfl) (by simp) ?_
  refine AllReadyH.cons rfl (fun K hK => ?_) AllReadyH.nil
  have cg34 := cell_at B_g3 4 rfl
  have zg3 := froz_at B_g3
  have lg3 := hid_lt B_g3
  go_simp
  refine k_gen hK (fun x3 hW => ?_)
  have hB := set_blk hW B_g3
  have hf := set_now hW
  clear hW zg3 lg3 cg34
  simp only [List.setIfInBounds_toArray, List.set_cons_zero, List.set_cons_succ] at hB
  have hn := Fp.trans hHeld hf (fun i _ e => e)
  refine ⟨hn, ?_⟩
  clear hK K hHeld
  have hHeld := hn
  clear hn
  try simp only [Act.put, List.setIfInBounds_toArray, List.set_cons_zero, List.set_cons_succ]
  replace B_g2 := hid_blkS B_g2 hf n_g2_g3
  replace B_g3 := hB
  clear hB hf
  (refine take_at 11 (some 20) rfl rfl (by kernel_rfl) (by kernel_rfl) (by kernel_rfl) (fun _ _ _ h => h) (v := ?_) (by kernel_rfl) ?_ (by assumption) ?_; rotate_left; (focus (intro wS hSw; skip; go_simp; try with_reducible rfl)); (try simp only [Act.put, List.setIfInBounds_toArray, List.set_cons_zero, List.set_cons_succ]))
  (refine take_at 12 (some 21) rfl rfl (by kernel_rfl) (by kernel_rfl) (by kernel_rfl) (fun _ _ _ h => h) (v := ?_) (by kernel_rfl) ?_ (by assumption) ?_; rotate_left; (focus (intro wS hSw; skip; go_simp; try with_reducible rfl)); (try simp only [Act.put, List.setIfInBounds_toArray, List.set_cons_zero, List.set_cons_succ]))
  refine wpAnyH_ready (rs := [13]) (by kernel_rfl) (by simp) ?_
  refine AllReadyH.cons rfl (fun K hK => ?_) AllReadyH.nil
  have cg35 := cell_at B_g3 5 rfl
  have zg3 := froz_at B_g3
  have lg3 := hid_lt B_g3
  go_simp
  refine k_gen hK (fun x4 hW => ?_)
  have hB := set_blk hW B_g3
  have hf := set_now hW
  clear hW zg3 lg3 cg35
  simp only [List.setIfInBounds_toArray, List.set_cons_zero, List.set_cons_succ] at hB
  have hn := Fp.trans hHeld hf (fun i _ e => e)
  refine ⟨hn, ?_⟩
  clear hK K hHeld
  have hHeld := hn
  clear hn
  try simp only [Act.put, List.setIfInBounds_toArray, List.set_cons_zero, List.set_cons_succ]
  replace B_g2 := hid_blkS B_g2 hf n_g2_g3
  replace B_g3 := hB
  clear hB hf
  (refine take_at 14 (some 22) rfl rfl (by kernel_rfl) (by kernel_rfl) (by kernel_rfl) (fun _ _ _ h => h) (v := ?_) (by kernel_rfl) ?_ (by assumption) ?_; rotate_left; (focus (intro wS hSw; skip; go_simp; try with_reducible rfl)); (try simp only [Act.put, List.setIfInBounds_toArray, List.set_cons_zero, List.set_cons_succ]))
  (refine take_at 15 (some 23) rfl rfl (by kernel_rfl) (by kernel_rfl) (by kernel_rfl) (fun _ _ _ h => h) (v := ?_) (by kernel_rfl) ?_ (by assumption) ?_; rotate_left; (focus (intro wS hSw; skip; go_simp; try with_reducible rfl)); (try simp only [Act.put, List.setIfInBounds_toArray, List.set_cons_zero, List.set_cons_succ]))
  refine wpAnyH_ready (rs := [16]) (by kernel_rfl) (by simp) ?_
  refine AllReadyH.cons rfl (fun K hK => ?_) AllReadyH.nil
  have cg36 := cell_at B_g3 6 rfl
  have zg3 := froz_at B_g3
  have lg3 := hid_lt B_g3
  go_simp
  refine k_gen hK (fun x5 hW => ?_)
  have hB := set_blk hW B_g3
  have hf := set_now hW
  clear hW zg3 lg3 cg36
  simp only [List.setIfInBounds_toArray, List.set_cons_zero, List.set_cons_succ] at hB
  have hn := Fp.trans hHeld hf (fun i _ e => e)
  refine ⟨hn, ?_⟩
  clear hK K hHeld
  have hHeld := hn
  clear hn
  try simp only [Act.put, List.setIfInBounds_toArray, List.set_cons_zero, List.set_cons_succ]
  replace B_g2 := hid_blkS B_g2 hf n_g2_g3
  replace B_g3 := hB
  clear hB hf
  refine wpAnyH_done (by kernel_rfl) ?_ _
  clear cg20 cg21 cg22 cg23 cg24 zg2 lg2
  have hGe := hid_ge HN
  replace HN := hid_own HN hHeld (fun i hi e => by have h1 : i = g3 := e; have h2 := G_g3.out; omega)
  clear hHeld hGe
  have cg20 := cell_at B_g2 0 rfl
  have cg21 := cell_at B_g2 1 rfl
  have cg22 := cell_at B_g2 2 rfl
  have cg23 := cell_at B_g2 3 rfl
  have cg24 := cell_at B_g2 4 rfl
  have zg2 := froz_at B_g2
  have lg2 := hid_lt B_g2
  have cg30 := cell_at B_g3 0 rfl
  have cg31 := cell_at B_g3 1 rfl
  have cg32 := cell_at B_g3 2 rfl
  have cg33 := cell_at B_g3 3 rfl
  have cg34 := cell_at B_g3 4 rfl
  have cg35 := cell_at B_g3 5 rfl
  have cg36 := cell_at B_g3 6 rfl
  have cg37 := cell_at B_g3 7 rfl
  have cg38 := cell_at B_g3 8 rfl
  have cg39 := cell_at B_g3 9 rfl
  have cg310 := cell_at B_g3 10 rfl
  have cg311 := cell_at B_g3 11 rfl
  have cg312 := cell_at B_g3 12 rfl
  have cg313 := cell_at B_g3 13 rfl
  have cg314 := cell_at B_g3 14 rfl
  have cg315 := cell_at B_g3 15 rfl
  have cg316 := cell_at B_g3 16 rfl
  have cg317 := cell_at B_g3 17 rfl
  have cg318 := cell_at B_g3 18 rfl
  have cg319 := cell_at B_g3 19 rfl
  have zg3 := froz_at B_g3
  have lg3 := hid_lt B_g3
  go_wp2_with fail
  clear cg20 cg21 cg22 cg23 cg24 zg2 lg2 cg30 cg31 cg32 cg33 cg34 cg35 cg36 cg37 cg38 cg39 cg310 cg311 cg312 cg313 cg314 cg315 cg316 cg317 cg318 cg319 zg3 lg3
  refine (show Calls _ _ _ _ _ from KT.out _).mono ?_
  rintro e x6 ⟨rfl, hp⟩
  replace HN := hid_now HN hp
  replace B_g2 := hid_blk B_g2 hp
  replace B_g3 := hid_blk B_g3 hp
  clear hp
  go_wp2_with fail
  refine (show Calls _ _ _ _ _ from KP.out _).mono ?_
  rintro e x7 ⟨rfl, hp⟩
  replace HN := hid_now HN hp
  replace B_g2 := hid_blk B_g2 hp
  replace B_g3 := hid_blk B_g3 hp
  clear hp
  have cg30 := cell_at B_g3 0 rfl
  have cg31 := cell_at B_g3 1 rfl
  have cg32 := cell_at B_g3 2 rfl
  have cg33 := cell_at B_g3 3 rfl
  have cg34 := cell_at B_g3 4 rfl
  have cg35 := cell_at B_g3 5 rfl
  have cg36 := cell_at B_g3 6 rfl
  have cg37 := cell_at B_g3 7 rfl
  have cg38 := cell_at B_g3 8 rfl
  have cg39 := cell_at B_g3 9 rfl
  have cg310 := cell_at B_g3 10 rfl
  have cg311 := cell_at B_g3 11 rfl
  have cg312 := cell_at B_g3 12 rfl
  have cg313 := cell_at B_g3 13 rfl
  have cg314 := cell_at B_g3 14 rfl
  have cg315 := cell_at B_g3 15 rfl
  have cg316 := cell_at B_g3 16 rfl
  have cg317 := cell_at B_g3 17 rfl
  have cg318 := cell_at B_g3 18 rfl
  have cg319 := cell_at B_g3 19 rfl
  have zg3 := froz_at B_g3
  have lg3 := hid_lt B_g3
  go_wp2_with fail
  clear cg30 cg31 cg32 cg33 cg34 cg35 cg36 cg37 cg38 cg39 cg310 cg311 cg312 cg313 cg314 cg315 cg316 cg317 cg318 cg319 zg3 lg3
  refine (show Calls _ _ _ _ _ from KI.out _).mono ?_
  rintro e x8 ⟨rfl, hp⟩
  replace HN := hid_now HN hp
  replace B_g2 := hid_blk B_g2 hp
  replace B_g3 := hid_blk B_g3 hp
  clear hp
  go_wp2_with fail
  go_ret2
  exact ⟨rfl, HN.out⟩
end Go.Proofs.YtmghjaoodnkjlaaGreatDoor
