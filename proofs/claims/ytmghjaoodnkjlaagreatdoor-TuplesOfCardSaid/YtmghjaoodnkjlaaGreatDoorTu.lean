/- Chapter 08: the document's readings of ICMP, what it sees of a packet (written by gen8u.py). -/
import Derived.Test.YtmghjaoodnkjlaaGreatDoorTr
import Derived.Test.YtmghjaoodnkjlaaGreatDoorTs
import Derived.Laws.StructEq
namespace Go.Proofs.YtmghjaoodnkjlaaGreatDoor
set_option linter.unusedVariables false
set_option linter.unusedSimpArgs false
open Go.RowKit Go.Lib Go.Sort
theorem r07_short (d : List UInt8) (h : d.length < 8) (w : World) : Calls Tryz.prog 31 #[str d] w (Ret1 (.tuple #[icZ, .bool false]) w) := by
  go_enter Tryz.func31, Tryz.ntmps31
  go_wp2_with fail
  refine bodyPost_ret (v := .tuple #[icZ, .bool false]) (by simp only [results, Tryz.results31, icZ]; go_simp) rfl ⟨rfl, (Fp.refl _ _).alloc _⟩
set_option maxHeartbeats 4000000 in
set_option maxRecDepth 100000 in
theorem r07_parse (d : List UInt8) (h : 8 ≤ d.length) (hl : d.length ≤ 1000000) (w : World) : Calls Tryz.prog 31 #[str d] w (Ret1 (.tuple #[.agg #[.int .u8 (byt d 0 : Nat), .int .u8 (byt d 1 : Nat), .int .u16 (g16 d 2 : Nat), str ((d.take 8).drop 4), str (d.drop 8)], .bool true]) w) := by
  have x0 := run_byte d (i := 0) (z := 0) rfl (by omega)
  have x1 := run_byte d (i := 1) (z := 1) rfl (by omega)
  have s0 := run_cut d (i := 4) (j := 8) rfl rfl (by omega) h
  have s1 := run_cutFrom d (i := 8) rfl h
  have i8 : (8 : Int) ≤ (d.length : Int) := by omega
  have exl := ext_cut d 4 8
  have exm : (⟨d.toArray⟩ : ByteArray).extract 8 d.length = ⟨(d.drop 8).toArray⟩ := by rw [ext_cut, List.take_length]
  have K := Lib.hid (fun W => r01_get16 d 2 hl (by omega) W)
  rw [decide_eq_true (show 2 + 2 ≤ d.length by omega)] at K
  go_enter Tryz.func31, Tryz.ntmps31
  go_wp2_with fail
  have HN := Lib.hid (Fp.refl (fun _ => False) w)
  refine calls_gen (fun x1 hW => ?_)
  have hp := new_now hW
  have hB := new_blk hW
  clear hW
  have hGe := hid_ge HN
  replace HN := hid_now HN hp
  obtain ⟨gR, hgR⟩ : ∃ gR, gR = w.heap.size := ⟨_, rfl⟩
  have G_gR := Lib.hid (Nat.le_trans hGe (Nat.le_of_eq hgR.symm))
  rw [← hgR] at hB ⊢
  have B_gR := hB
  clear hB hGe hgR
  clear hp
  refine (show Calls _ _ _ _ _ from K.out _).mono ?_
  rintro e x2 ⟨rfl, he⟩
  have hp : NoW x1 x2 := by rw [he]; exact Fp.refl _ _
  clear he
  replace HN := hid_now HN hp
  replace B_gR := hid_blk B_gR hp
  clear hp
  go_upto_region 4 with fail
  refine wp_region_held_drew (S := fun wx => Fp (fun b => b = gR) x2 wx) (by kernel_rfl) (Fp.drew (Fp.refl _ _)) (fun hHeld0 => ?_)
  refine any_eq hHeld0 (fun y2 hW hHeld => ?_)
  clear hHeld0
  replace B_gR := hid_blk B_gR (noW_drew hW)
  clear hW
  (refine take_at 0 (some 15) rfl rfl (by kernel_rfl) (by kernel_rfl) (by kernel_rfl) (fun _ _ _ h => h) (v := ?_) (by kernel_rfl) ?_ (by assumption) ?_; rotate_left; (focus (intro wS hSw; skip; go_simp; try with_reducible rfl)); (try simp only [Act.put, List.setIfInBounds_toArray, List.set_cons_zero, List.set_cons_succ]))
  (refine take_at 1 (some 16) rfl rfl (by kernel_rfl) (by kernel_rfl) (by kernel_rfl) (fun _ _ _ h => h) (v := ?_) (by kernel_rfl) ?_ (by assumption) ?_; rotate_left; (focus (intro wS hSw; have hX := fun b o h hn => hSw.cell (p := ⟨b, o, none⟩) h hn; go_simp; try with_reducible rfl)); (try simp only [Act.put, List.setIfInBounds_toArray, List.set_cons_zero, List.set_cons_succ]))
  (refine take_at 2 (some 17) rfl rfl (by kernel_rfl) (by kernel_rfl) (by kernel_rfl) (fun _ _ _ h => h) (v := ?_) (by kernel_rfl) ?_ (by assumption) ?_; rotate_left; (focus (intro wS hSw; skip; go_simp; try with_reducible rfl)); (try simp only [Act.put, List.setIfInBounds_toArray, List.set_cons_zero, List.set_cons_succ]))
  (refine take_at 3 (some 18) rfl rfl (by kernel_rfl) (by kernel_rfl) (by kernel_rfl) (fun _ _ _ h => h) (v := ?_) (by kernel_rfl) ?_ (by assumption) ?_; rotate_left; (focus (intro wS hSw; have hX := fun b o h hn => hSw.cell (p := ⟨b, o, none⟩) h hn; go_simp; try with_reducible rfl)); (try simp only [Act.put, List.setIfInBounds_toArray, List.set_cons_zero, List.set_cons_succ]))
  (refine take_at 4 (some 19) rfl rfl (by kernel_rfl) (by kernel_rfl) (by kernel_rfl) (fun _ _ _ h => h) (v := ?_) (by kernel_rfl) ?_ (by assumption) ?_; rotate_left; (focus (intro wS hSw; skip; go_simp; try with_reducible rfl)); (try simp only [Act.put, List.setIfInBounds_toArray, List.set_cons_zero, List.set_cons_succ]))
  (refine take_at 5 (some 20) rfl rfl (by kernel_rfl) (by kernel_rfl) (by kernel_rfl) (fun _ _ _ h => h) (v := ?_) (by kernel_rfl) ?_ (by assumption) ?_; rotate_left; (focus (intro wS hSw; skip; go_simp; try with_reducible rfl)); (try simp only [Act.put, List.setIfInBounds_toArray, List.set_cons_zero, List.set_cons_succ]))
  (refine take_at 6 (some 21) rfl rfl (by kernel_rfl) (by kernel_rfl) (by kernel_rfl) (fun _ _ _ h => h) (v := ?_) (by kernel_rfl) ?_ (by assumption) ?_; rotate_left; (focus (intro wS hSw; skip; go_simp; try with_reducible rfl)); (try simp only [Act.put, List.setIfInBounds_toArray, List.set_cons_zero, List.set_cons_succ]))
  (refine take_at 7 (some 22) rfl rfl (by kernel_rfl) (by kernel_rfl) (by kernel_rfl) (fun _ _ _ h => h) (v := ?_) (by kernel_rfl) ?_ (by assumption) ?_; rotate_left; (focus (intro wS hSw; skip; go_simp; try with_reducible rfl)); (try simp only [Act.put, List.setIfInBounds_toArray, List.set_cons_zero, List.set_cons_succ]))
  (refine take_at 8 (some 23) rfl rfl (by kernel_rfl) (by kernel_rfl) (by kernel_rfl) (fun _ _ _ h => h) (v := ?_) (by kernel_rfl) ?_ (by assumption) ?_; rotate_left; (focus (intro wS hSw; skip; go_simp; try with_reducible rfl)); (try simp only [Act.put, List.setIfInBounds_toArray, List.set_cons_zero, List.set_cons_succ]))
  (refine take_at 9 (some 24) rfl rfl (by kernel_rfl) (by kernel_rfl) (by kernel_rfl) (fun _ _ _ h => h) (v := ?_) (by kernel_rfl) ?_ (by assumption) ?_; rotate_left; (focus (intro wS hSw; skip; go_simp; try with_reducible rfl)); (try simp only [Act.put, List.setIfInBounds_toArray, List.set_cons_zero, List.set_cons_succ]))
  refine wpAnyH_ready (rs := [10]) (by kernel_rfl) (by simp) ?_
  refine AllReadyH.cons rfl (fun K hK => ?_) AllReadyH.nil
  have cgR0 := cell_at B_gR 0 rfl
  have cgR1 := cell_at B_gR 1 rfl
  have cgR2 := cell_at B_gR 2 rfl
  have cgR3 := cell_at B_gR 3 rfl
  have cgR4 := cell_at B_gR 4 rfl
  have zgR := froz_at B_gR
  have lgR := hid_lt B_gR
  go_simp
  refine k_gen hK (fun y3 hW => ?_)
  obtain ⟨hB, hf⟩ := setE5 hW B_gR
  clear hW zgR lgR cgR0 cgR1 cgR2 cgR3 cgR4
  have hn := Fp.trans hHeld hf (fun i _ e => e)
  refine ⟨hn, ?_⟩
  clear hK K hHeld
  have hHeld := hn
  clear hn
  try simp only [Act.put, List.setIfInBounds_toArray, List.set_cons_zero, List.set_cons_succ]
  replace B_gR := hB
  clear hB hf
  (refine take_at 11 (some 3) rfl rfl (by kernel_rfl) (by kernel_rfl) (by kernel_rfl) (fun _ _ _ h => h) (v := ?_) (by kernel_rfl) ?_ (by assumption) ?_; rotate_left; (focus (intro wS hSw; skip; go_simp; try with_reducible rfl)); (try simp only [Act.put, List.setIfInBounds_toArray, List.set_cons_zero, List.set_cons_succ]))
  refine wpAnyH_done (by kernel_rfl) ?_ _
  have hGe := hid_ge HN
  replace HN := hid_own HN hHeld (fun i hi e => by have h1 : i = gR := e; have h2 := G_gR.out; omega)
  clear hHeld hGe
  go_wp2_with fail
  have cgR0 := cell_at B_gR 0 rfl
  have cgR1 := cell_at B_gR 1 rfl
  have cgR2 := cell_at B_gR 2 rfl
  have cgR3 := cell_at B_gR 3 rfl
  have cgR4 := cell_at B_gR 4 rfl
  have zgR := froz_at B_gR
  have lgR := hid_lt B_gR
  refine bodyPost_ret (v := .tuple #[.agg #[.int .u8 (byt d 0 : Nat), .int .u8 (byt d 1 : Nat), .int .u16 (g16 d 2 : Nat), str ((d.take 8).drop 4), str (d.drop 8)], .bool true]) (by simp only [results, Tryz.results31]; go_simp) rfl ⟨rfl, HN.out⟩
set_option maxHeartbeats 4000000 in
set_option maxRecDepth 100000 in
theorem r07_query (ty co : Nat) (su : Int) (re da : Value) (w : World) : Calls Tryz.prog 32 #[.agg #[.int .u8 (ty : Nat), .int .u8 (co : Nat), .int .u16 su, re, da]] w (Ret1 (.tuple #[.bool (decide (co = 0 ∧ kindOf ty = 1)), .bool (decide (co = 0 ∧ (kindOf ty = 1 ∨ kindOf ty = 2)))]) w) := by
  by_cases hc : co = 0
  · have e0 : ((co : Int) != 0) = false := by rw [hc]; rfl
    by_cases h8 : ty = 8
    · subst h8
      have hA : decide (co = 0 ∧ kindOf 8 = 1) = true := by rw [hc]; rfl
      have hQ : decide (co = 0 ∧ (kindOf 8 = 1 ∨ kindOf 8 = 2)) = true := by rw [hc]; rfl
      rw [hA, hQ]
      clear hA hQ
      go_enter Tryz.func32, Tryz.ntmps32
      go_wp2_with fail
      refine bodyPost_ret (v := .tuple #[.bool true, .bool true]) (by simp [results, Tryz.results32, go_sem]) rfl ⟨by first | rfl | (rw [hA, hQ]), (Fp.refl _ _).alloc _⟩
    · by_cases h13 : ty = 13
      · subst h13
        have hA : decide (co = 0 ∧ kindOf 13 = 1) = true := by rw [hc]; rfl
        have hQ : decide (co = 0 ∧ (kindOf 13 = 1 ∨ kindOf 13 = 2)) = true := by rw [hc]; rfl
        rw [hA, hQ]
        clear hA hQ
        go_enter Tryz.func32, Tryz.ntmps32
        go_wp2_with fail
        refine bodyPost_ret (v := .tuple #[.bool true, .bool true]) (by simp [results, Tryz.results32, go_sem]) rfl ⟨by first | rfl | (rw [hA, hQ]), (Fp.refl _ _).alloc _⟩
      · by_cases h0 : ty = 0
        · subst h0
          have hA : decide (co = 0 ∧ kindOf 0 = 1) = false := by rw [hc]; rfl
          have hQ : decide (co = 0 ∧ (kindOf 0 = 1 ∨ kindOf 0 = 2)) = true := by rw [hc]; rfl
          rw [hA, hQ]
          clear hA hQ
          go_enter Tryz.func32, Tryz.ntmps32
          go_wp2_with fail
          refine bodyPost_ret (v := .tuple #[.bool false, .bool true]) (by simp [results, Tryz.results32, go_sem]) rfl ⟨by first | rfl | (rw [hA, hQ]), (Fp.refl _ _).alloc _⟩
        · by_cases h14 : ty = 14
          · subst h14
            have hA : decide (co = 0 ∧ kindOf 14 = 1) = false := by rw [hc]; rfl
            have hQ : decide (co = 0 ∧ (kindOf 14 = 1 ∨ kindOf 14 = 2)) = true := by rw [hc]; rfl
            rw [hA, hQ]
            clear hA hQ
            go_enter Tryz.func32, Tryz.ntmps32
            go_wp2_with fail
            refine bodyPost_ret (v := .tuple #[.bool false, .bool true]) (by simp [results, Tryz.results32, go_sem]) rfl ⟨by first | rfl | (rw [hA, hQ]), (Fp.refl _ _).alloc _⟩
          · have hA : decide (co = 0 ∧ kindOf ty = 1) = false := decide_eq_false (by unfold kindOf; rw [if_neg (by omega)]; split <;> (try split) <;> omega)
            have hQ : decide (co = 0 ∧ (kindOf ty = 1 ∨ kindOf ty = 2)) = false := decide_eq_false (by unfold kindOf; rw [if_neg (by omega), if_neg (by omega)]; split <;> omega)
            rw [hA, hQ]
            clear hA hQ
            have f8 : ((ty : Int) == 8) = false := beq_eq_false_iff_ne.2 (by omega)
            have f13 : ((ty : Int) == 13) = false := beq_eq_false_iff_ne.2 (by omega)
            have f0 : ((ty : Int) == 0) = false := beq_eq_false_iff_ne.2 (by omega)
            have f14 : ((ty : Int) == 14) = false := beq_eq_false_iff_ne.2 (by omega)
            clear h8 h13 h0 h14
            go_enter Tryz.func32, Tryz.ntmps32
            go_wp2_with fail
            refine bodyPost_ret (v := .tuple #[.bool false, .bool false]) (by simp [results, Tryz.results32, go_sem]) rfl ⟨by first | rfl | (rw [hA, hQ]), (Fp.refl _ _).alloc _⟩
  · have e0 : ((co : Int) != 0) = true := by simp [bne]; omega
    have d1 : decide (co = 0 ∧ kindOf ty = 1) = false := decide_eq_false (fun h => hc h.1)
    have d2 : decide (co = 0 ∧ (kindOf ty = 1 ∨ kindOf ty = 2)) = false := decide_eq_false (fun h => hc h.1)
    rw [d1, d2]
    clear d1 d2 hc
    go_enter Tryz.func32, Tryz.ntmps32
    go_wp2_with fail
    refine bodyPost_ret (v := .tuple #[.bool false, .bool false]) (by simp [results, Tryz.results32, go_sem]) rfl ⟨by first | rfl | (rw [hA, hQ]), (Fp.refl _ _).alloc _⟩
set_option maxHeartbeats 4000000 in
set_option maxRecDepth 100000 in
theorem r07_error (ty co : Nat) (su : Int) (re da : Value) (w : World) : Calls Tryz.prog 33 #[.agg #[.int .u8 (ty : Nat), .int .u8 (co : Nat), .int .u16 su, re, da]] w (Ret1 (.bool (decide (kindOf ty = 3))) w) := by
  by_cases h3 : ty = 3
  · subst h3
    have hE : decide (kindOf 3 = 3) = true := rfl
    rw [hE]
    clear hE
    go_enter Tryz.func33, Tryz.ntmps33
    go_wp2_with fail
    refine bodyPost_ret (v := .bool true) (by simp [results, Tryz.results33, go_sem]) rfl ⟨rfl, (Fp.refl _ _).alloc _⟩
  · by_cases h11 : ty = 11
    · subst h11
      have hE : decide (kindOf 11 = 3) = true := rfl
      rw [hE]
      clear hE
      go_enter Tryz.func33, Tryz.ntmps33
      go_wp2_with fail
      refine bodyPost_ret (v := .bool true) (by simp [results, Tryz.results33, go_sem]) rfl ⟨rfl, (Fp.refl _ _).alloc _⟩
    · by_cases h12 : ty = 12
      · subst h12
        have hE : decide (kindOf 12 = 3) = true := rfl
        rw [hE]
        clear hE
        go_enter Tryz.func33, Tryz.ntmps33
        go_wp2_with fail
        refine bodyPost_ret (v := .bool true) (by simp [results, Tryz.results33, go_sem]) rfl ⟨rfl, (Fp.refl _ _).alloc _⟩
      · have hE : decide (kindOf ty = 3) = false := decide_eq_false (by unfold kindOf; split <;> (try split) <;> (try split) <;> omega)
        rw [hE]
        clear hE
        have f3 : ((ty : Int) == 3) = false := beq_eq_false_iff_ne.2 (by omega)
        have f11 : ((ty : Int) == 11) = false := beq_eq_false_iff_ne.2 (by omega)
        have f12 : ((ty : Int) == 12) = false := beq_eq_false_iff_ne.2 (by omega)
        clear h3 h11 h12
        go_enter Tryz.func33, Tryz.ntmps33
        go_wp2_with fail
        refine bodyPost_ret (v := .bool false) (by simp [results, Tryz.results33, go_sem]) rfl ⟨rfl, (Fp.refl _ _).alloc _⟩
theorem r07_id (ty co : Nat) (su : Int) (re : List UInt8) (da : Value) (h : re.length = 4) (w : World) : Calls Tryz.prog 34 #[.agg #[.int .u8 (ty : Nat), .int .u8 (co : Nat), .int .u16 su, str re, da]] w (Ret1 (.int .u16 (g16 re 0 : Nat)) w) := by
  have K := Lib.hid (fun W => r01_get16 re 0 (by omega) (by omega) W)
  go_enter Tryz.func34, Tryz.ntmps34
  go_wp2_with fail
  refine (K.out _).mono ?_
  rintro e w1 ⟨rfl, rfl⟩
  go_wp2_with fail
  go_ret
  exact ⟨rfl, (Fp.refl _ _).alloc _⟩
end Go.Proofs.YtmghjaoodnkjlaaGreatDoor
