/- Texts of this proof, merged: Awf Awg. -/
import Derived.Test.YtcimbbllefkdlaaGreatDoorMae
import Derived.Test.YtcimbbllefkdlaaGreatDoorMaa
import Derived.Test.YtcimbbllefkdlaaGreatDoorMab
import Derived.Test.YtcimbbllefkdlaaGreatDoorMac
import Derived.Test.YtcimbbllefkdlaaGreatDoorMad
namespace Go.Proofs.YtcimbbllefkdlaaGreatDoor
set_option linter.unusedVariables false
set_option linter.unusedSimpArgs false
open Go.RowKit Go.Lib
def whlZ : Value := .pointer none
theorem whlI : ∃ i, Tryz.prog.info? 129 = some i ∧ i.zero = some whlZ ∧ i.size = 1 ∧ i.bytes ≤ 65536 := by
  have h : ((Tryz.prog.info? 129).map fun i => (i.zero, i.size, decide (i.bytes ≤ 65536))) = some (some whlZ, 1, true) := by kernel_rfl
  rcases hi : Tryz.prog.info? 129 with _ | i
  · simp [hi] at h
  · simp [hi] at h
    exact ⟨i, rfl, h.1, h.2.1, h.2.2⟩
def slt16 : Array Value := #[.bool false, .bool false, .bool false, .int .u8 0, .int .u32 0, .int .u16 0, .int .u32 0, .int .u16 0, .int .u8 0, .int .u32 0, .int .u16 0, .int .u32 0, .int .u16 0, .int .i64 0, .int .i64 0, .slice none 0 0]
def sltZ : Value := .agg slt16
theorem sltI : ∃ i, Tryz.prog.info? 54 = some i ∧ i.zero = some sltZ ∧ i.size = 16 ∧ i.bytes ≤ 65536 := by
  have h : ((Tryz.prog.info? 54).map fun i => (i.zero, i.size, decide (i.bytes ≤ 65536))) = some (some sltZ, 16, true) := by kernel_rfl
  rcases hi : Tryz.prog.info? 54 with _ | i
  · simp [hi] at h
  · simp [hi] at h
    exact ⟨i, rfl, h.1, h.2.1, h.2.2⟩
theorem ownsRow_low0 {w w' : World} {B size n : Nat} {e : TypeId} {v : Value} {xs : List Value} (h : w.ownsRow B e size v n xs) (hp : NoW w w') : w'.ownsRow B e size v n xs :=
  ownsRow_of_block h fun x e => hp.block x (World.ownsRow.lt h x e).2 id
theorem run_mkSl (n : Nat) (hn : n ≤ 256) (W : World) : (Instr.makeSlice 22 (.int .i64 n) (.int .i64 n)).run Tryz.prog W = .ok (.slice (some ⟨W.heap.size, 0, none⟩) n n) (W.alloc (.cells (madeCells slt16 (n * 16)) 54)) := by
  obtain ⟨i, hi, hz, hs, hb⟩ := sltI
  have hb2 : (i.bytes : Int) * (n : Int) ≤ 281474976710656 := by
    have h := Nat.mul_le_mul hb hn
    have h' : ((i.bytes * n : Nat) : Int) ≤ 16777216 := by omega
    rw [Int.natCast_mul] at h'; omega
  have := run_makeSlice W 22 54 i sltZ Tryz.underlying22 hi hz .i64 .i64 n n (by omega) (by omega) (by rw [hs]; omega) hb2 (by omega)
  rw [hs] at this
  simpa [sltZ, Value.cells] using this
set_option maxHeartbeats 8000000 in
set_option maxRecDepth 100000 in
theorem shared_new (o ip : Nat) (bits : Int) (ns nb nw wh : Nat) (ho : o < 4294967296) (hip : ip < 4294967296) (hm : mayB ip bits = true) (hh : hasB ip bits o = false) (h1 : 1 ≤ ns) (h2 : ns ≤ 256) (h3 : 1 ≤ nb) (h4 : nb ≤ 64) (h5 : 1 ≤ nw) (h6 : nw ≤ 64) (h7 : 1 ≤ wh) (h8 : wh ≤ 64) (w : World) :
    Calls Tryz.prog 28 #[.agg #[.int .u32 o, .int .u32 ip, .int .i64 bits, .int .i64 ns, .int .i64 nb, .int .i64 nw, .int .i64 wh]] w fun e w' => ∃ g tb sl ss bc bf bm ep wv pt p1 p2, e = .returned (.tuple #[.pointer (some ⟨g, 0, none⟩), .int .i64 0]) ∧ w'.heap[g]? = some (.cells #[.pointer (some ⟨tb, 0, none⟩), .int .i64 0, .int .i64 0, .pointer (some ⟨sl, 0, none⟩), .slice (some ⟨ss, 0, none⟩) ns ns, .pointer (some ⟨bc, 0, none⟩), .pointer (some ⟨ep, 0, none⟩), wv, .pointer (some ⟨pt, 0, none⟩), .slice none 0 0] 137 (0, 0)) ∧ w'.heap[tb]? = some (.cells #[.bool true, .int .u32 o, .int .u32 ip, .int .i64 bits, .slice none 0 0] 154 (0, 0)) ∧ w'.heap[sl]? = some (.cells (slabK ns 256).toArray 160 (0, 0)) ∧ w'.heap[ss]? = some (.cells (madeCells slt16 (ns * 16)) 54 (0, 0)) ∧ ChRep w' bc bf bm (List.replicate nb []) ∧ w'.heap[pt]? = some (.cells #[.map (some p1), .map (some p2)] 185 (0, 0)) ∧ w'.heap[p1]? = some (.map #[] 0) ∧ NoW w w' := by
  have K1 := Lib.hid (fun W => rules_new o ip bits ho hip hm hh W)
  have K2 := Lib.hid (fun W => slab_new ns h1 h2 W)
  have K3 := Lib.hid (fun W => new_ok nb h3 h4 W)
  have K4 := Lib.hid (fun W => epochs_new nw h5 h6 W)
  have K5 := Lib.hid (fun W => wheels_new wh h7 h8 W)
  have km := run_mkSl ns h2
  have Hnw := Lib.hid h6
  clear hm hh ho hip
  go_enter Tryz.func28, Tryz.ntmps28
  have HN := Lib.hid (Fp.refl (fun _ => False) w)
  go_upto_region 1 with fail
  refine wp_gen (fun z1 hW => ?_)
  have hp := new_now hW
  have hB := new_blk hW
  clear hW
  have hGe := hid_ge HN
  replace HN := hid_now HN hp
  obtain ⟨gC, hgC⟩ : ∃ gC, gC = w.heap.size := ⟨_, rfl⟩
  have G_gC := Lib.hid (Nat.le_trans hGe (Nat.le_of_eq hgC.symm))
  rw [← hgC] at hB ⊢
  have B_gC := hB
  clear hB hGe hgC
  clear hp
  have cgC0 := cell_at B_gC 0 rfl
  have cgC1 := cell_at B_gC 1 rfl
  have cgC2 := cell_at B_gC 2 rfl
  have cgC3 := cell_at B_gC 3 rfl
  have cgC4 := cell_at B_gC 4 rfl
  have cgC5 := cell_at B_gC 5 rfl
  have cgC6 := cell_at B_gC 6 rfl
  have zgC := froz_at B_gC
  have lgC := hid_lt B_gC
  go_wp2_with fail
  refine (show Calls _ _ _ _ _ from K1.out _).mono ?_
  rintro e z2 ⟨tb, rfl, hb, _, hp⟩
  replace HN := hid_now HN hp
  replace B_gC := hid_blk B_gC hp
  clear hp
  have B_tb := Lib.hid hb
  clear hb
  clear cgC0 cgC1 cgC2 cgC3 cgC4 cgC5 cgC6 zgC lgC
  have cgC0 := cell_at B_gC 0 rfl
  have cgC1 := cell_at B_gC 1 rfl
  have cgC2 := cell_at B_gC 2 rfl
  have cgC3 := cell_at B_gC 3 rfl
  have cgC4 := cell_at B_gC 4 rfl
  have cgC5 := cell_at B_gC 5 rfl
  have cgC6 := cell_at B_gC 6 rfl
  have zgC := froz_at B_gC
  have lgC := hid_lt B_gC
  go_wp2_with fail
  refine (show Calls _ _ _ _ _ from K2.out _).mono ?_
  rintro e z3 ⟨sl, rfl, hb, _, hp⟩
  replace HN := hid_now HN hp
  replace B_gC := hid_blk B_gC hp
  replace B_tb := hid_blk B_tb hp
  clear hp
  have B_sl := Lib.hid hb
  clear hb
  clear cgC0 cgC1 cgC2 cgC3 cgC4 cgC5 cgC6 zgC lgC
  have cgC0 := cell_at B_gC 0 rfl
  have cgC1 := cell_at B_gC 1 rfl
  have cgC2 := cell_at B_gC 2 rfl
  have cgC3 := cell_at B_gC 3 rfl
  have cgC4 := cell_at B_gC 4 rfl
  have cgC5 := cell_at B_gC 5 rfl
  have cgC6 := cell_at B_gC 6 rfl
  have zgC := froz_at B_gC
  have lgC := hid_lt B_gC
  go_wp2_with fail
  refine (show Calls _ _ _ _ _ from K3.out _).mono ?_
  rintro e z4 ⟨bc, bf, bm, rfl, _, _, _, hc, hp⟩
  replace HN := hid_now HN hp
  replace B_gC := hid_blk B_gC hp
  replace B_tb := hid_blk B_tb hp
  replace B_sl := hid_blk B_sl hp
  clear hp
  have HCR := Lib.hid hc
  clear hc
  clear cgC0 cgC1 cgC2 cgC3 cgC4 cgC5 cgC6 zgC lgC
  have cgC0 := cell_at B_gC 0 rfl
  have cgC1 := cell_at B_gC 1 rfl
  have cgC2 := cell_at B_gC 2 rfl
  have cgC3 := cell_at B_gC 3 rfl
  have cgC4 := cell_at B_gC 4 rfl
  have cgC5 := cell_at B_gC 5 rfl
  have cgC6 := cell_at B_gC 6 rfl
  have zgC := froz_at B_gC
  have lgC := hid_lt B_gC
  go_wp2_with fail
  refine (show Calls _ _ _ _ _ from K4.out _).mono ?_
  rintro e z5 ⟨ep, e2, rfl, hb, hb2, _, _, hp⟩
  replace HN := hid_now HN hp
  replace B_gC := hid_blk B_gC hp
  replace B_tb := hid_blk B_tb hp
  replace B_sl := hid_blk B_sl hp
  replace HCR := Lib.hid (HCR.out.fp hp (fun _ _ h => h))
  clear hp
  have B_ep := Lib.hid hb
  have B_e2 := Lib.hid hb2
  clear hb hb2
  clear cgC0 cgC1 cgC2 cgC3 cgC4 cgC5 cgC6 zgC lgC
  have cgC0 := cell_at B_gC 0 rfl
  have cgC1 := cell_at B_gC 1 rfl
  have cgC2 := cell_at B_gC 2 rfl
  have cgC3 := cell_at B_gC 3 rfl
  have cgC4 := cell_at B_gC 4 rfl
  have cgC5 := cell_at B_gC 5 rfl
  have cgC6 := cell_at B_gC 6 rfl
  have zgC := froz_at B_gC
  have lgC := hid_lt B_gC
  go_wp2_with fail
  refine (show Calls _ _ _ _ _ from K5.out _).mono ?_
  rintro e z6 ⟨w1g, w1p, w1m, rfl, _, _, _, _, _, _, hp⟩
  replace HN := hid_now HN hp
  replace B_gC := hid_blk B_gC hp
  replace B_tb := hid_blk B_tb hp
  replace B_sl := hid_blk B_sl hp
  replace B_ep := hid_blk B_ep hp
  replace B_e2 := hid_blk B_e2 hp
  replace HCR := Lib.hid (HCR.out.fp hp (fun _ _ h => h))
  clear hp
  clear cgC0 cgC1 cgC2 cgC3 cgC4 cgC5 cgC6 zgC lgC
  have cgC0 := cell_at B_gC 0 rfl
  have cgC1 := cell_at B_gC 1 rfl
  have cgC2 := cell_at B_gC 2 rfl
  have cgC3 := cell_at B_gC 3 rfl
  have cgC4 := cell_at B_gC 4 rfl
  have cgC5 := cell_at B_gC 5 rfl
  have cgC6 := cell_at B_gC 6 rfl
  have zgC := froz_at B_gC
  have lgC := hid_lt B_gC
  go_wp2_with fail
  refine calls_gen (fun z7 hW => ?_)
  have l2gC := hid_lt B_gC
  have l2tb := hid_lt B_tb
  have l2sl := hid_lt B_sl
  have l2ep := hid_lt B_ep
  have l2e2 := hid_lt B_e2
  have hp := new_now hW
  have hB := new_blk hW
  clear hW
  have hGe := hid_ge HN
  replace HN := hid_now HN hp
  replace B_gC := hid_blk B_gC hp
  replace B_tb := hid_blk B_tb hp
  replace B_sl := hid_blk B_sl hp
  replace B_ep := hid_blk B_ep hp
  replace B_e2 := hid_blk B_e2 hp
  replace HCR := Lib.hid (HCR.out.fp hp (fun _ _ h => h))
  obtain ⟨gF, hgF⟩ : ∃ gF, gF = z6.heap.size := ⟨_, rfl⟩
  have G_gF := Lib.hid (Nat.le_trans hGe (Nat.le_of_eq hgF.symm))
  have n_gC_gF : ¬ gC = gF := by omega
  have n_gF_gC : ¬ gF = gC := by omega
  clear l2gC
  have n_tb_gF : ¬ tb = gF := by omega
  have n_gF_tb : ¬ gF = tb := by omega
  clear l2tb
  have n_sl_gF : ¬ sl = gF := by omega
  have n_gF_sl : ¬ gF = sl := by omega
  clear l2sl
  have n_ep_gF : ¬ ep = gF := by omega
  have n_gF_ep : ¬ gF = ep := by omega
  clear l2ep
  have n_e2_gF : ¬ e2 = gF := by omega
  have n_gF_e2 : ¬ gF = e2 := by omega
  clear l2e2
  rw [← hgF] at hB ⊢
  have B_gF := hB
  clear hB hGe hgF
  clear hp
  refine (show Calls _ _ _ _ _ from first0_ok gF _ B_gF).mono ?_
  rintro e z8 ⟨rfl, hp⟩
  replace HN := hid_now HN hp
  replace B_gC := hid_blk B_gC hp
  replace B_tb := hid_blk B_tb hp
  replace B_sl := hid_blk B_sl hp
  replace B_ep := hid_blk B_ep hp
  replace B_e2 := hid_blk B_e2 hp
  replace B_gF := hid_blk B_gF hp
  replace HCR := Lib.hid (HCR.out.fp hp (fun _ _ h => h))
  clear hp
  clear cgC0 cgC1 cgC2 cgC3 cgC4 cgC5 cgC6 zgC lgC
  clear B_gF
  have cgC0 := cell_at B_gC 0 rfl
  have cgC1 := cell_at B_gC 1 rfl
  have cgC2 := cell_at B_gC 2 rfl
  have cgC3 := cell_at B_gC 3 rfl
  have cgC4 := cell_at B_gC 4 rfl
  have cgC5 := cell_at B_gC 5 rfl
  have cgC6 := cell_at B_gC 6 rfl
  have zgC := froz_at B_gC
  have lgC := hid_lt B_gC
  go_upto_region 9 with fail
  clear cgC0 cgC1 cgC2 cgC4 cgC5 cgC6 zgC
  refine wp_region_held_drew (S := fun wx => NoW z8 wx) (by kernel_rfl) (Fp.drew (Fp.refl _ _)) (fun hHeld0 => ?_)
  refine any_eq hHeld0 (fun z9 hW hHeld => ?_)
  clear hHeld0
  replace B_gC := hid_blk B_gC (noW_drew hW)
  replace B_tb := hid_blk B_tb (noW_drew hW)
  replace B_sl := hid_blk B_sl (noW_drew hW)
  replace B_ep := hid_blk B_ep (noW_drew hW)
  replace B_e2 := hid_blk B_e2 (noW_drew hW)
  replace HCR := Lib.hid (HCR.out.fp (noW_drew hW) (fun _ _ h => h))
  clear hW
  (refine tk 0 (some 60) ?_ ?_ ?_; rotate_left; (focus (intro wS hSw; go_simp; try with_reducible rfl)); (try simp only [Act.put, List.setIfInBounds_toArray, List.set_cons_zero, List.set_cons_succ]))
  (refine tk 1 (some 61) ?_ ?_ ?_; rotate_left; (focus (intro wS hSw; go_simp; try with_reducible rfl)); (try simp only [Act.put, List.setIfInBounds_toArray, List.set_cons_zero, List.set_cons_succ]))
  (refine tk 2 (some 62) ?_ ?_ ?_; rotate_left; (focus (intro wS hSw; go_simp; try with_reducible rfl)); (try simp only [Act.put, List.setIfInBounds_toArray, List.set_cons_zero, List.set_cons_succ]))
  (refine tk 3 (some 63) ?_ ?_ ?_; rotate_left; (focus (intro wS hSw; (have q3 := (hSw.cell (p := ⟨gC, 3, none⟩) lgC id).trans cgC3); go_simp; try with_reducible rfl)); (try simp only [Act.put, List.setIfInBounds_toArray, List.set_cons_zero, List.set_cons_succ]))
  (refine tk 5 (some 65) ?_ ?_ ?_; rotate_left; (focus (intro wS hSw; go_simp; try with_reducible rfl)); (try simp only [Act.put, List.setIfInBounds_toArray, List.set_cons_zero, List.set_cons_succ]))
  (refine tk 6 (some 66) ?_ ?_ ?_; rotate_left; (focus (intro wS hSw; go_simp; try with_reducible rfl)); (try simp only [Act.put, List.setIfInBounds_toArray, List.set_cons_zero, List.set_cons_succ]))
  refine wpAnyH_ready (rs := [4, 7]) (by kernel_rfl) (by simp) ?_
  refine AllReadyH.cons rfl (fun K hK => ?_) (AllReadyH.cons rfl (fun K hK => ?_) AllReadyH.nil)
  · go_simp
    refine k_gen hK (fun z10 hW => ?_)
    have l2gC := hid_lt B_gC
    have l2tb := hid_lt B_tb
    have l2sl := hid_lt B_sl
    have l2ep := hid_lt B_ep
    have l2e2 := hid_lt B_e2
    have hp := new_now hW
    have hB := new_blk hW
    have hGe := Fp.size hHeld
    clear hW
    refine ⟨Fp.trans hHeld hp (fun _ _ h => h.elim), ?_⟩
    have hcl := HCR.out
    replace hHeld := Fp.trans hHeld hp (fun _ _ h => h.elim)
    clear hK K
    try simp only [Act.put, List.setIfInBounds_toArray, List.set_cons_zero, List.set_cons_succ]
    obtain ⟨ss, hss⟩ : ∃ ss, ss = z9.heap.size := ⟨_, rfl⟩
    clear hcl
    replace HCR := Lib.hid (HCR.out.fp hp (fun _ _ h => h))
    have n_gC_ss : ¬ gC = ss := by omega
    clear l2gC
    replace B_gC := hid_blk B_gC hp
    have n_tb_ss : ¬ tb = ss := by omega
    clear l2tb
    replace B_tb := hid_blk B_tb hp
    have n_sl_ss : ¬ sl = ss := by omega
    clear l2sl
    replace B_sl := hid_blk B_sl hp
    have n_ep_ss : ¬ ep = ss := by omega
    clear l2ep
    replace B_ep := hid_blk B_ep hp
    have n_e2_ss : ¬ e2 = ss := by omega
    clear l2e2
    replace B_e2 := hid_blk B_e2 hp
    rw [← hss] at hB ⊢
    have B_ss := hB
    clear hB hss hp hGe
    refine wpAnyH_ready (rs := [7]) (by kernel_rfl) (by simp) ?_
    refine AllReadyH.cons rfl (fun K hK => ?_) AllReadyH.nil
    go_simp
    go_at_call 58
    refine (ports_new _).mono ?_
    rintro e z11 ⟨pt, p1, p2, rfl, hb, hb1, hb2, _, _, hp⟩
    have B_pt := Lib.hid hb
    have B_p1 := Lib.hid hb1
    have B_p2 := Lib.hid hb2
    clear hb hb1 hb2
    have hn := Fp.trans hHeld hp (fun _ _ h => h.elim)
    replace HCR := Lib.hid (HCR.out.fp hp (fun _ _ h => h))
    replace B_gC := hid_blk B_gC hp
    replace B_tb := hid_blk B_tb hp
    replace B_sl := hid_blk B_sl hp
    replace B_ep := hid_blk B_ep hp
    replace B_e2 := hid_blk B_e2 hp
    replace B_ss := hid_blk B_ss hp
    refine k_now hK hn ?_
    clear hK K hp hHeld
    have hHeld := hn
    clear hn
    try simp only [Act.put, List.setIfInBounds_toArray, List.set_cons_zero, List.set_cons_succ]
    (refine tk 8 (some 68) ?_ ?_ ?_; rotate_left; (focus (intro wS hSw; go_simp; try with_reducible rfl)); (try simp only [Act.put, List.setIfInBounds_toArray, List.set_cons_zero, List.set_cons_succ]))
    refine wpAnyH_ready (rs := [9]) (by kernel_rfl) (by simp) ?_
    refine AllReadyH.cons rfl (fun K hK => ?_) AllReadyH.nil
    go_simp
    refine k_gen hK (fun z12 hW => ?_)
    have l2gC := hid_lt B_gC
    have l2tb := hid_lt B_tb
    have l2sl := hid_lt B_sl
    have l2ep := hid_lt B_ep
    have l2e2 := hid_lt B_e2
    have l2ss := hid_lt B_ss
    have l2pt := hid_lt B_pt
    have l2p1 := hid_lt B_p1
    have l2p2 := hid_lt B_p2
    have hp := new_now hW
    have hB := new_blk hW
    have hGe := Fp.size hHeld
    clear hW
    refine ⟨Fp.trans hHeld hp (fun _ _ h => h.elim), ?_⟩
    have hcl := HCR.out
    replace hHeld := Fp.trans hHeld hp (fun _ _ h => h.elim)
    clear hK K
    try simp only [Act.put, List.setIfInBounds_toArray, List.set_cons_zero, List.set_cons_succ]
    obtain ⟨g, hg⟩ : ∃ g, g = z11.heap.size := ⟨_, rfl⟩
    have R_g := Lib.hid (show w.heap.size ≤ g from by have h1 := HN.out.size; omega)
    have HCg := Lib.hid (show ∀ b, b ∈ blocks bc bf bm (List.replicate nb []) → ¬ b = g from fun b hb e => by have h1 := hcl.lt hb; omega)
    clear hcl
    replace HCR := Lib.hid (HCR.out.fp hp (fun _ _ h => h))
    have n_gC_g : ¬ gC = g := by omega
    clear l2gC
    replace B_gC := hid_blk B_gC hp
    have n_tb_g : ¬ tb = g := by omega
    clear l2tb
    replace B_tb := hid_blk B_tb hp
    have n_sl_g : ¬ sl = g := by omega
    clear l2sl
    replace B_sl := hid_blk B_sl hp
    have n_ep_g : ¬ ep = g := by omega
    clear l2ep
    replace B_ep := hid_blk B_ep hp
    have n_e2_g : ¬ e2 = g := by omega
    clear l2e2
    replace B_e2 := hid_blk B_e2 hp
    have n_ss_g : ¬ ss = g := by omega
    clear l2ss
    replace B_ss := hid_blk B_ss hp
    have n_pt_g : ¬ pt = g := by omega
    clear l2pt
    replace B_pt := hid_blk B_pt hp
    have n_p1_g : ¬ p1 = g := by omega
    clear l2p1
    replace B_p1 := hid_blk B_p1 hp
    have n_p2_g : ¬ p2 = g := by omega
    clear l2p2
    replace B_p2 := hid_blk B_p2 hp
    rw [← hg] at hB ⊢
    have B_g := hB
    clear hB hg hp hGe
    (refine tk 10 (some 15) ?_ ?_ ?_; rotate_left; (focus (intro wS hSw; go_simp; try with_reducible rfl)); (try simp only [Act.put, List.setIfInBounds_toArray, List.set_cons_zero, List.set_cons_succ]))
    refine wpAnyH_done (by kernel_rfl) ?_ _
    have hGe := hid_ge HN
    replace HN := hid_now HN hHeld
    clear hHeld hGe lgC cgC3
    have cgC5 := cell_at B_gC 5 rfl
    have lgC := hid_lt B_gC
    go_wp2_with fail
    clear cgC5 lgC
    obtain ⟨B, hB⟩ : ∃ B, B = z12.heap.size := ⟨_, rfl⟩
    have HB := Lib.hid hB
    have HgB := Lib.hid (show g < B by rw [hB]; exact hid_lt B_g)
    clear hB
    go_loopg [72, 16, 17] (nw + 1) (fun gg kv _ _ wx => ∃ (i : Nat) (wv : Value) (xs : List Value), i ≤ nw ∧ gg = nw + 1 - i ∧ kv = .int .i64 (i : Int) ∧ wx.heap[g]? = some (.cells #[.pointer (some ⟨tb, 0, none⟩), .int .i64 0, .int .i64 0, .pointer (some ⟨sl, 0, none⟩), .slice (some ⟨ss, 0, none⟩) ns ns, .pointer (some ⟨bc, 0, none⟩), .pointer (some ⟨ep, 0, none⟩), wv, .pointer (some ⟨pt, 0, none⟩), .slice none 0 0] 137 (0, 0)) ∧ wx.ownsRow B 129 1 wv i xs ∧ B ≤ wx.heap.size ∧ Fp (fun b => b = g) z12 wx)
    case atStart => exact ⟨0, _, [], by omega, by omega, rfl, B_g.out, World.ownsRow_nil _ _ _ 1, Nat.le_of_eq HB.out, Fp.refl _ _⟩
    case round =>
      obtain ⟨i, wv, xs, hi, hg, rfl, hb, hO, hBs, hF⟩ := hrel
      have Hg := Lib.hid hg
      have C_g := Lib.hid hb
      have HO := Lib.hid hO
      have HBs := Lib.hid hBs
      have HF := Lib.hid hF
      clear hg hb hO hBs hF
      have C_gC := hid_blkS B_gC HF.out n_gC_g
      by_cases hlt : i < nw
      · have ck : (i : Int) < (nw : Int) := by omega
        have hnw := Hnw.out
        have d5 := cell_at C_gC 5 rfl
        have d6 := cell_at C_gC 6 rfl
        have lC := hid_lt C_gC
        go_wp2_with fail
        refine (show Calls _ _ _ _ _ from K5.out _).mono ?_
        rintro e y1 ⟨gw, gp, gm, rfl, _, _, _, _, _, _, hp⟩
        replace C_g := hid_blk C_g hp
        replace HO := Lib.hid (ownsRow_low0 HO.out hp)
        replace HBs := Lib.hid (Nat.le_trans HBs.out hp.size)
        replace HF := Lib.hid (HF.out.trans hp (fun _ _ h => h.elim))
        clear hp d5 d6 lC C_gC
        have c7 := cell_at C_g 7 rfl
        have zg := froz_at C_g
        have lg := hid_lt C_g
        go_wp2_with (at_builtin; go_must (refine wp_append1 rfl _ _ 135 rfl B 129 whlZ 1 Tryz.underlying135 whlI rfl (by decide) wv i xs rfl (ownsRow_low0 HO.out ((Fp.refl (fun _ => False) y1).alloc _)) y1.heap.size [.pointer (some ⟨gw, 0, none⟩)] rfl rfl (heap_alloc_new y1 _) (by simp [Value.oneCell']) (by omega) (Nat.le_trans HBs.out (by simp)) ?_))
        intro v' w' hown hgr hne hwh
        obtain ⟨gv, cv, rfl⟩ : ∃ gv cv, v' = .slice (some ⟨gv, 0, none⟩) (i + 1) cv := by rcases hown.2 with ⟨h, _⟩ | ⟨g, cap, cur, e, _⟩; (exact absurd h hne); exact ⟨g, cap, e⟩
        have hal : NoW y1 (y1.alloc (.cells #[.pointer (some ⟨gw, 0, none⟩)] 129)) := (Fp.refl _ _).alloc _
        have hnB : ∀ b, b < B → ¬ wv.ownBlock = some b := fun b hb e => by have h1 := (World.ownsRow.lt HO.out b e).1; omega
        have hf : Fp (fun b => wv.ownBlock = some b) (y1.alloc (.cells #[.pointer (some ⟨gw, 0, none⟩)] 129)) w' := Fp.grown (Fp.refl _ _) hgr (fun k e => Or.inr e)
        have hgB := HgB.out
        replace C_g := hid_blkS (hid_blk C_g hal) hf (hnB _ hgB)
        have HO2 := Lib.hid hown
        have HF2 := Lib.hid ((HF.out.trans hal (fun _ _ h => h.elim)).trans hf (fun i hi e => absurd e (hnB i (by have h3 := HB.out; omega))))
        have HBs2 := Lib.hid (Nat.le_trans HBs.out (Nat.le_trans hal.size hf.size))
        clear hown hgr hne hwh hal hnB hf hgB c7 zg lg HO HF HBs
        have c7 := cell_at C_g 7 rfl
        have zg := froz_at C_g
        have lg := hid_lt C_g
        go_wp2_with fail
        clear c7 zg lg
        have hB := set_blk (W := (w'.setCell ⟨g, 7, none⟩ (.slice (some ⟨gv, 0, none⟩) (i + 1) cv))) rfl C_g
        simp only [List.setIfInBounds_toArray, List.set_cons_zero, List.set_cons_succ] at hB
        have hfs := set_now (W := (w'.setCell ⟨g, 7, none⟩ (.slice (some ⟨gv, 0, none⟩) (i + 1) cv))) rfl
        have HO3 := Lib.hid (ownsRow_of_block HO2.out fun x e => hfs.block x (World.ownsRow.lt HO2.out x e).2 (fun e2 => by have h1 : x = g := e2; have h2 := HgB.out; have h3 := (World.ownsRow.lt HO2.out x e).1; omega))
        have HF3 := Lib.hid (HF2.out.trans hfs (fun _ _ e => e))
        have HBs3 := Lib.hid (Nat.le_trans HBs2.out hfs.size)
        clear hfs
        go_roundg (nw - i)
        case measure => have := Hg.out; omega
        case rel => exact ⟨i + 1, _, _, by omega, by omega, by go_num, hB.out, HO3.out, HBs3.out, HF3.out⟩
      · obtain rfl : i = nw := by omega
        go_wp2_with fail
        refine bodyPost_ret (v := .tuple #[.pointer (some ⟨g, 0, none⟩), .int .i64 0]) (by simp only [results, Tryz.results28]; go_simp) rfl ⟨g, tb, sl, ss, bc, bf, bm, ep, wv, pt, p1, p2, rfl, C_g.out, (hid_blkS B_tb HF.out n_tb_g).out, (hid_blkS B_sl HF.out n_sl_g).out, (hid_blkS B_ss HF.out n_ss_g).out, HCR.out.fp HF.out (fun b hb e => HCg.out b hb e), (hid_blkS B_pt HF.out n_pt_g).out, (hid_blkS B_p1 HF.out n_p1_g).out, HN.out.trans HF.out (fun k hk e => by have h1 : k = g := e; have h2 := R_g.out; omega)⟩
  · go_simp
    go_at_call 58
    refine (ports_new _).mono ?_
    rintro e z13 ⟨pt, p1, p2, rfl, hb, hb1, hb2, _, _, hp⟩
    have B_pt := Lib.hid hb
    have B_p1 := Lib.hid hb1
    have B_p2 := Lib.hid hb2
    clear hb hb1 hb2
    have hn := Fp.trans hHeld hp (fun _ _ h => h.elim)
    replace HCR := Lib.hid (HCR.out.fp hp (fun _ _ h => h))
    replace B_gC := hid_blk B_gC hp
    replace B_tb := hid_blk B_tb hp
    replace B_sl := hid_blk B_sl hp
    replace B_ep := hid_blk B_ep hp
    replace B_e2 := hid_blk B_e2 hp
    refine k_now hK hn ?_
    clear hK K hp hHeld
    have hHeld := hn
    clear hn
    try simp only [Act.put, List.setIfInBounds_toArray, List.set_cons_zero, List.set_cons_succ]
    refine wpAnyH_ready (rs := [4]) (by kernel_rfl) (by simp) ?_
    refine AllReadyH.cons rfl (fun K hK => ?_) AllReadyH.nil
    go_simp
    refine k_gen hK (fun z14 hW => ?_)
    have l2gC := hid_lt B_gC
    have l2tb := hid_lt B_tb
    have l2sl := hid_lt B_sl
    have l2ep := hid_lt B_ep
    have l2e2 := hid_lt B_e2
    have l2pt := hid_lt B_pt
    have l2p1 := hid_lt B_p1
    have l2p2 := hid_lt B_p2
    have hp := new_now hW
    have hB := new_blk hW
    have hGe := Fp.size hHeld
    clear hW
    refine ⟨Fp.trans hHeld hp (fun _ _ h => h.elim), ?_⟩
    have hcl := HCR.out
    replace hHeld := Fp.trans hHeld hp (fun _ _ h => h.elim)
    clear hK K
    try simp only [Act.put, List.setIfInBounds_toArray, List.set_cons_zero, List.set_cons_succ]
    obtain ⟨ss, hss⟩ : ∃ ss, ss = z13.heap.size := ⟨_, rfl⟩
    clear hcl
    replace HCR := Lib.hid (HCR.out.fp hp (fun _ _ h => h))
    have n_gC_ss : ¬ gC = ss := by omega
    clear l2gC
    replace B_gC := hid_blk B_gC hp
    have n_tb_ss : ¬ tb = ss := by omega
    clear l2tb
    replace B_tb := hid_blk B_tb hp
    have n_sl_ss : ¬ sl = ss := by omega
    clear l2sl
    replace B_sl := hid_blk B_sl hp
    have n_ep_ss : ¬ ep = ss := by omega
    clear l2ep
    replace B_ep := hid_blk B_ep hp
    have n_e2_ss : ¬ e2 = ss := by omega
    clear l2e2
    replace B_e2 := hid_blk B_e2 hp
    have n_pt_ss : ¬ pt = ss := by omega
    clear l2pt
    replace B_pt := hid_blk B_pt hp
    have n_p1_ss : ¬ p1 = ss := by omega
    clear l2p1
    replace B_p1 := hid_blk B_p1 hp
    have n_p2_ss : ¬ p2 = ss := by omega
    clear l2p2
    replace B_p2 := hid_blk B_p2 hp
    rw [← hss] at hB ⊢
    have B_ss := hB
    clear hB hss hp hGe
    (refine tk 8 (some 68) ?_ ?_ ?_; rotate_left; (focus (intro wS hSw; go_simp; try with_reducible rfl)); (try simp only [Act.put, List.setIfInBounds_toArray, List.set_cons_zero, List.set_cons_succ]))
    refine wpAnyH_ready (rs := [9]) (by kernel_rfl) (by simp) ?_
    refine AllReadyH.cons rfl (fun K hK => ?_) AllReadyH.nil
    go_simp
    refine k_gen hK (fun z15 hW => ?_)
    have l2gC := hid_lt B_gC
    have l2tb := hid_lt B_tb
    have l2sl := hid_lt B_sl
    have l2ep := hid_lt B_ep
    have l2e2 := hid_lt B_e2
    have l2pt := hid_lt B_pt
    have l2p1 := hid_lt B_p1
    have l2p2 := hid_lt B_p2
    have l2ss := hid_lt B_ss
    have hp := new_now hW
    have hB := new_blk hW
    have hGe := Fp.size hHeld
    clear hW
    refine ⟨Fp.trans hHeld hp (fun _ _ h => h.elim), ?_⟩
    have hcl := HCR.out
    replace hHeld := Fp.trans hHeld hp (fun _ _ h => h.elim)
    clear hK K
    try simp only [Act.put, List.setIfInBounds_toArray, List.set_cons_zero, List.set_cons_succ]
    obtain ⟨g, hg⟩ : ∃ g, g = z14.heap.size := ⟨_, rfl⟩
    have R_g := Lib.hid (show w.heap.size ≤ g from by have h1 := HN.out.size; omega)
    have HCg := Lib.hid (show ∀ b, b ∈ blocks bc bf bm (List.replicate nb []) → ¬ b = g from fun b hb e => by have h1 := hcl.lt hb; omega)
    clear hcl
    replace HCR := Lib.hid (HCR.out.fp hp (fun _ _ h => h))
    have n_gC_g : ¬ gC = g := by omega
    clear l2gC
    replace B_gC := hid_blk B_gC hp
    have n_tb_g : ¬ tb = g := by omega
    clear l2tb
    replace B_tb := hid_blk B_tb hp
    have n_sl_g : ¬ sl = g := by omega
    clear l2sl
    replace B_sl := hid_blk B_sl hp
    have n_ep_g : ¬ ep = g := by omega
    clear l2ep
    replace B_ep := hid_blk B_ep hp
    have n_e2_g : ¬ e2 = g := by omega
    clear l2e2
    replace B_e2 := hid_blk B_e2 hp
    have n_pt_g : ¬ pt = g := by omega
    clear l2pt
    replace B_pt := hid_blk B_pt hp
    have n_p1_g : ¬ p1 = g := by omega
    clear l2p1
    replace B_p1 := hid_blk B_p1 hp
    have n_p2_g : ¬ p2 = g := by omega
    clear l2p2
    replace B_p2 := hid_blk B_p2 hp
    have n_ss_g : ¬ ss = g := by omega
    clear l2ss
    replace B_ss := hid_blk B_ss hp
    rw [← hg] at hB ⊢
    have B_g := hB
    clear hB hg hp hGe
    (refine tk 10 (some 15) ?_ ?_ ?_; rotate_left; (focus (intro wS hSw; go_simp; try with_reducible rfl)); (try simp only [Act.put, List.setIfInBounds_toArray, List.set_cons_zero, List.set_cons_succ]))
    refine wpAnyH_done (by kernel_rfl) ?_ _
    have hGe := hid_ge HN
    replace HN := hid_now HN hHeld
    clear hHeld hGe lgC cgC3
    have cgC5 := cell_at B_gC 5 rfl
    have lgC := hid_lt B_gC
    go_wp2_with fail
    clear cgC5 lgC
    obtain ⟨B, hB⟩ : ∃ B, B = z15.heap.size := ⟨_, rfl⟩
    have HB := Lib.hid hB
    have HgB := Lib.hid (show g < B by rw [hB]; exact hid_lt B_g)
    clear hB
    go_loopg [72, 16, 17] (nw + 1) (fun gg kv _ _ wx => ∃ (i : Nat) (wv : Value) (xs : List Value), i ≤ nw ∧ gg = nw + 1 - i ∧ kv = .int .i64 (i : Int) ∧ wx.heap[g]? = some (.cells #[.pointer (some ⟨tb, 0, none⟩), .int .i64 0, .int .i64 0, .pointer (some ⟨sl, 0, none⟩), .slice (some ⟨ss, 0, none⟩) ns ns, .pointer (some ⟨bc, 0, none⟩), .pointer (some ⟨ep, 0, none⟩), wv, .pointer (some ⟨pt, 0, none⟩), .slice none 0 0] 137 (0, 0)) ∧ wx.ownsRow B 129 1 wv i xs ∧ B ≤ wx.heap.size ∧ Fp (fun b => b = g) z15 wx)
    case atStart => exact ⟨0, _, [], by omega, by omega, rfl, B_g.out, World.ownsRow_nil _ _ _ 1, Nat.le_of_eq HB.out, Fp.refl _ _⟩
    case round =>
      obtain ⟨i, wv, xs, hi, hg, rfl, hb, hO, hBs, hF⟩ := hrel
      have Hg := Lib.hid hg
      have C_g := Lib.hid hb
      have HO := Lib.hid hO
      have HBs := Lib.hid hBs
      have HF := Lib.hid hF
      clear hg hb hO hBs hF
      have C_gC := hid_blkS B_gC HF.out n_gC_g
      by_cases hlt : i < nw
      · have ck : (i : Int) < (nw : Int) := by omega
        have hnw := Hnw.out
        have d5 := cell_at C_gC 5 rfl
        have d6 := cell_at C_gC 6 rfl
        have lC := hid_lt C_gC
        go_wp2_with fail
        refine (show Calls _ _ _ _ _ from K5.out _).mono ?_
        rintro e y1 ⟨gw, gp, gm, rfl, _, _, _, _, _, _, hp⟩
        replace C_g := hid_blk C_g hp
        replace HO := Lib.hid (ownsRow_low0 HO.out hp)
        replace HBs := Lib.hid (Nat.le_trans HBs.out hp.size)
        replace HF := Lib.hid (HF.out.trans hp (fun _ _ h => h.elim))
        clear hp d5 d6 lC C_gC
        have c7 := cell_at C_g 7 rfl
        have zg := froz_at C_g
        have lg := hid_lt C_g
        go_wp2_with (at_builtin; go_must (refine wp_append1 rfl _ _ 135 rfl B 129 whlZ 1 Tryz.underlying135 whlI rfl (by decide) wv i xs rfl (ownsRow_low0 HO.out ((Fp.refl (fun _ => False) y1).alloc _)) y1.heap.size [.pointer (some ⟨gw, 0, none⟩)] rfl rfl (heap_alloc_new y1 _) (by simp [Value.oneCell']) (by omega) (Nat.le_trans HBs.out (by simp)) ?_))
        intro v' w' hown hgr hne hwh
        obtain ⟨gv, cv, rfl⟩ : ∃ gv cv, v' = .slice (some ⟨gv, 0, none⟩) (i + 1) cv := by rcases hown.2 with ⟨h, _⟩ | ⟨g, cap, cur, e, _⟩; (exact absurd h hne); exact ⟨g, cap, e⟩
        have hal : NoW y1 (y1.alloc (.cells #[.pointer (some ⟨gw, 0, none⟩)] 129)) := (Fp.refl _ _).alloc _
        have hnB : ∀ b, b < B → ¬ wv.ownBlock = some b := fun b hb e => by have h1 := (World.ownsRow.lt HO.out b e).1; omega
        have hf : Fp (fun b => wv.ownBlock = some b) (y1.alloc (.cells #[.pointer (some ⟨gw, 0, none⟩)] 129)) w' := Fp.grown (Fp.refl _ _) hgr (fun k e => Or.inr e)
        have hgB := HgB.out
        replace C_g := hid_blkS (hid_blk C_g hal) hf (hnB _ hgB)
        have HO2 := Lib.hid hown
        have HF2 := Lib.hid ((HF.out.trans hal (fun _ _ h => h.elim)).trans hf (fun i hi e => absurd e (hnB i (by have h3 := HB.out; omega))))
        have HBs2 := Lib.hid (Nat.le_trans HBs.out (Nat.le_trans hal.size hf.size))
        clear hown hgr hne hwh hal hnB hf hgB c7 zg lg HO HF HBs
        have c7 := cell_at C_g 7 rfl
        have zg := froz_at C_g
        have lg := hid_lt C_g
        go_wp2_with fail
        clear c7 zg lg
        have hB := set_blk (W := (w'.setCell ⟨g, 7, none⟩ (.slice (some ⟨gv, 0, none⟩) (i + 1) cv))) rfl C_g
        simp only [List.setIfInBounds_toArray, List.set_cons_zero, List.set_cons_succ] at hB
        have hfs := set_now (W := (w'.setCell ⟨g, 7, none⟩ (.slice (some ⟨gv, 0, none⟩) (i + 1) cv))) rfl
        have HO3 := Lib.hid (ownsRow_of_block HO2.out fun x e => hfs.block x (World.ownsRow.lt HO2.out x e).2 (fun e2 => by have h1 : x = g := e2; have h2 := HgB.out; have h3 := (World.ownsRow.lt HO2.out x e).1; omega))
        have HF3 := Lib.hid (HF2.out.trans hfs (fun _ _ e => e))
        have HBs3 := Lib.hid (Nat.le_trans HBs2.out hfs.size)
        clear hfs
        go_roundg (nw - i)
        case measure => have := Hg.out; omega
        case rel => exact ⟨i + 1, _, _, by omega, by omega, by go_num, hB.out, HO3.out, HBs3.out, HF3.out⟩
      · obtain rfl : i = nw := by omega
        go_wp2_with fail
        refine bodyPost_ret (v := .tuple #[.pointer (some ⟨g, 0, none⟩), .int .i64 0]) (by simp only [results, Tryz.results28]; go_simp) rfl ⟨g, tb, sl, ss, bc, bf, bm, ep, wv, pt, p1, p2, rfl, C_g.out, (hid_blkS B_tb HF.out n_tb_g).out, (hid_blkS B_sl HF.out n_sl_g).out, (hid_blkS B_ss HF.out n_ss_g).out, HCR.out.fp HF.out (fun b hb e => HCg.out b hb e), (hid_blkS B_pt HF.out n_pt_g).out, (hid_blkS B_p1 HF.out n_p1_g).out, HN.out.trans HF.out (fun k hk e => by have h1 : k = g := e; have h2 := R_g.out; omega)⟩
end Go.Proofs.YtcimbbllefkdlaaGreatDoor

namespace Go.Proofs.YtcimbbllefkdlaaGreatDoor
set_option linter.unusedVariables false
set_option linter.unusedSimpArgs false
open Go.RowKit Go.Lib
theorem run_range_empty (w : World) (m : Nat) (hb : w.heap[m]? = some (.map #[] 0)) : (Instr.range 182 (.map (some m))).run Tryz.prog w = .ok (.pointer (some ⟨w.heap.size, 0, none⟩)) (w.alloc (.mapIter (some m) 0 #[] 0)) := by
  unfold Instr.range
  simp [Sem.run_bind, run_underlying Tryz.underlying182, getObj, Sem.run, hb, Result.andThen]
theorem run_next_empty (w : World) (r m : Nat) (ty : TypeId) (hr : w.heap[r]? = some (.mapIter (some m) 0 #[] 0)) (hb : w.heap[m]? = some (.map #[] 0)) : (Instr.next (.pointer (some ⟨r, 0, none⟩)) false ty).run Tryz.prog w = .ok (.tuple #[.bool false]) w := by
  unfold Instr.next
  simp [Sem.run_bind, getObj, Sem.run, hr, hb, Result.andThen, choose]
  rw [if_pos (by rfl)]
  simp
theorem bits_len0 (w : World) : Calls Tryz.prog 97 #[.int .u64 0] w fun e w' => ∃ v : Int, e = .returned (.int .i64 v) ∧ w' = w := by
  go_enter Tryz.func97, Tryz.ntmps97
  go_wp2
  go_ret
  exact ⟨_, rfl, rfl⟩
set_option maxRecDepth 100000 in
theorem ins_empty (f : Value) (w : World) : Calls Tryz.prog 109 #[.slice none 0 0, .int .i64 0, .int .i64 0, f] w fun e w' => e = .returned (.tuple #[]) ∧ w' = w := by
  go_enter Tryz.func109, Tryz.ntmps109
  go_wp2_with fail
  go_loopg [8] 1 (fun gg kv wx => gg = 1 ∧ kv = .int .i64 1 ∧ wx = w)
  case atStart => exact ⟨rfl, rfl, rfl⟩
  case round =>
    obtain ⟨rfl, rfl, rfl⟩ := hrel
    go_wp2_with fail
    go_end0
    exact ⟨rfl, rfl⟩
set_option maxRecDepth 100000 in
theorem pdq_empty (l : Value) (f : Value) (w : World) : Calls Tryz.prog 96 #[.slice none 0 0, .int .i64 0, .int .i64 0, l, f] w fun e w' => e = .returned (.tuple #[]) ∧ w' = w := by
  go_enter Tryz.func96, Tryz.ntmps96
  go_wp2_with fail
  go_loopg [1, 2] 1 (fun gg av bv wx => gg = 1 ∧ av = .int .i64 0 ∧ bv = .int .i64 0 ∧ wx = w)
  case atStart => exact ⟨rfl, rfl, rfl, rfl⟩
  case round =>
    obtain ⟨rfl, rfl, rfl, rfl⟩ := hrel
    go_wp2_with fail
    refine (ins_empty f wr).mono ?_
    rintro e w1 ⟨rfl, hw⟩
    rw [hw]
    clear hw
    go_wp2_with fail
    refine bodyPost_ret (results_none rfl _ _ _) rfl ⟨rfl, rfl⟩
set_option maxRecDepth 100000 in
theorem sort_empty (f : Value) (w : World) : Calls Tryz.prog 84 #[.slice none 0 0, f] w fun e w' => e = .returned (.tuple #[]) ∧ w' = w := by
  go_enter Tryz.func84, Tryz.ntmps84
  go_wp2_with fail
  refine (bits_len0 w).mono ?_
  rintro e w1 ⟨v, rfl, hw⟩
  rw [hw]
  clear hw
  go_wp2_with fail
  refine (pdq_empty _ f w).mono ?_
  rintro e w1 ⟨rfl, hw⟩
  rw [hw]
  clear hw
  go_wp2_with fail
  go_end0
  exact ⟨rfl, rfl⟩
/-- A box that was just made. -/
structure BoxN (w : World) (g tb sl ss bc bf bm ep pt p1 p2 : Nat) (wv : Value) (o ip : Nat) (bits : Int) (ns nb : Nat) : Prop where
  g : w.heap[g]? = some (.cells #[.pointer (some ⟨tb, 0, none⟩), .int .i64 0, .int .i64 0, .pointer (some ⟨sl, 0, none⟩), .slice (some ⟨ss, 0, none⟩) ns ns, .pointer (some ⟨bc, 0, none⟩), .pointer (some ⟨ep, 0, none⟩), wv, .pointer (some ⟨pt, 0, none⟩), .slice none 0 0] 137 (0, 0))
  t : w.heap[tb]? = some (.cells #[.bool true, .int .u32 o, .int .u32 ip, .int .i64 bits, .slice none 0 0] 154 (0, 0))
  s : w.heap[sl]? = some (.cells (slabK ns 256).toArray 160 (0, 0))
  ss : w.heap[ss]? = some (.cells (madeCells slt16 (ns * 16)) 54 (0, 0))
  c : ChRep w bc bf bm (List.replicate nb [])
  p : w.heap[pt]? = some (.cells #[.map (some p1), .map (some p2)] 185 (0, 0))
  m : w.heap[p1]? = some (.map #[] 0)
section
variable {w w' : World} {g tb sl ss bc bf bm ep pt p1 p2 : Nat} {wv : Value} {o ip : Nat} {bits : Int} {ns nb : Nat}
theorem BoxN.low (h : BoxN w g tb sl ss bc bf bm ep pt p1 p2 wv o ip bits ns nb) (hp : NoW w w') : BoxN w' g tb sl ss bc bf bm ep pt p1 p2 wv o ip bits ns nb :=
  ⟨(hid_blk (hid h.g) hp).out, (hid_blk (hid h.t) hp).out, (hid_blk (hid h.s) hp).out, (hid_blk (hid h.ss) hp).out, h.c.fp hp (fun _ _ h => h), (hid_blk (hid h.p) hp).out, (hid_blk (hid h.m) hp).out⟩
theorem none_new (h : BoxN w g tb sl ss bc bf bm ep pt p1 p2 wv o ip bits ns nb) : Calls Tryz.prog 59 #[.pointer (some ⟨g, 0, none⟩)] w (Ret1 (.bool false) w) := by
  have B_g := Lib.hid h.g
  have c0 := cell_at B_g 0 rfl
  have lg := hid_lt B_g
  clear h
  go_enter Tryz.func59, Tryz.ntmps59
  go_wp2_with fail
  go_ret
  exact ⟨rfl, Fp.refl _ _⟩
theorem now_new (h : BoxN w g tb sl ss bc bf bm ep pt p1 p2 wv o ip bits ns nb) : Calls Tryz.prog 30 #[.pointer (some ⟨g, 0, none⟩)] w (Ret1 (.int .i64 0) w) := by
  have H := Lib.hid h
  have B_g := Lib.hid h.g
  clear h
  go_enter Tryz.func30, Tryz.ntmps30
  go_wp2_with fail
  refine (none_new H.out).mono ?_
  rintro e z ⟨rfl, hp⟩
  replace B_g := hid_blk B_g hp
  have HN := Lib.hid hp
  clear hp
  have c2 := cell_at B_g 2 rfl
  have lg := hid_lt B_g
  go_wp2_with fail
  go_ret
  exact ⟨rfl, HN.out⟩
theorem size_new (h : BoxN w g tb sl ss bc bf bm ep pt p1 p2 wv o ip bits ns nb) : Calls Tryz.prog 33 #[.pointer (some ⟨g, 0, none⟩)] w (Ret1 (.int .i64 ns) w) := by
  have H := Lib.hid h
  have B_g := Lib.hid h.g
  clear h
  go_enter Tryz.func33, Tryz.ntmps33
  go_wp2_with fail
  refine (none_new H.out).mono ?_
  rintro e z ⟨rfl, hp⟩
  replace B_g := hid_blk B_g hp
  have HN := Lib.hid hp
  clear hp
  have c4 := cell_at B_g 4 rfl
  have lg := hid_lt B_g
  go_wp2_with fail
  go_ret
  exact ⟨rfl, HN.out⟩
theorem buckets_new (h : BoxN w g tb sl ss bc bf bm ep pt p1 p2 wv o ip bits ns nb) : Calls Tryz.prog 35 #[.pointer (some ⟨g, 0, none⟩)] w (Ret1 (.int .i64 nb) w) := by
  have H := Lib.hid h
  have B_g := Lib.hid h.g
  have KS := Lib.hid (fun W (hc : W.cell? ⟨bc, 0, none⟩ = some (.slice (some ⟨bf, 0, none⟩) nb nb)) => size_ptr bc (some ⟨bf, 0, none⟩) nb nb W hc)
  clear h
  go_enter Tryz.func35, Tryz.ntmps35
  go_wp2_with fail
  refine (none_new H.out).mono ?_
  rintro e z ⟨rfl, hp⟩
  replace B_g := hid_blk B_g hp
  replace H := Lib.hid (H.out.low hp)
  have HN := Lib.hid hp
  clear hp
  have c5 := cell_at B_g 5 rfl
  have lg := hid_lt B_g
  go_wp2_with fail
  have hc := H.out.c.c0
  simp only [List.length_replicate] at hc
  refine (KS.out _ hc).mono ?_
  rintro e z2 ⟨rfl, hw⟩
  rw [← hw]
  clear hc hw c5 lg
  go_wp2_with fail
  go_ret
  exact ⟨rfl, HN.out⟩
theorem chain_new (h : BoxN w g tb sl ss bc bf bm ep pt p1 p2 wv o ip bits ns nb) (i : Nat) (hi : i < nb) : Calls Tryz.prog 36 #[.pointer (some ⟨g, 0, none⟩), .int .i64 i] w (Ret1 (.slice none 0 0) w) := by
  have H := Lib.hid h
  have B_g := Lib.hid h.g
  clear h
  go_enter Tryz.func36, Tryz.ntmps36
  go_wp2_with fail
  refine (none_new H.out).mono ?_
  rintro e z ⟨rfl, hp⟩
  replace B_g := hid_blk B_g hp
  replace H := Lib.hid (H.out.low hp)
  have HN := Lib.hid hp
  clear hp
  have c5 := cell_at B_g 5 rfl
  have lg := hid_lt B_g
  go_wp2_with fail
  refine (list_ok H.out.c (i := i) (r := []) (by rw [List.getElem?_replicate, if_pos hi]) (by simp)).mono ?_
  rintro e z2 ⟨v, rfl, _, hp, hv⟩
  obtain rfl := hv.2 rfl
  replace HN := hid_now HN hp
  clear hp hv c5 lg
  go_wp2_with fail
  go_ret
  exact ⟨rfl, HN.out⟩
end
end Go.Proofs.YtcimbbllefkdlaaGreatDoor
