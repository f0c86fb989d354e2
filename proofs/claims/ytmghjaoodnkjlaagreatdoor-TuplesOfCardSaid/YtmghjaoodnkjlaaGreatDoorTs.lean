/- Chapter 08: the document's readings of UDP, TCP, ICMP (written by gen8s.py). -/
import Derived.Test.YtmghjaoodnkjlaaGreatDoorTm
import Derived.Test.YtmghjaoodnkjlaaGreatDoorBase
import Derived.Test.YtmghjaoodnkjlaaGreatDoorTi
import Derived.Test.YtmghjaoodnkjlaaGreatDoorTj
import Derived.Test.YtmghjaoodnkjlaaGreatDoorTh
namespace Go.Proofs.YtmghjaoodnkjlaaGreatDoor
set_option linter.unusedVariables false
set_option linter.unusedSimpArgs false
open Go.RowKit Go.Lib Go.Sort
theorem r05_word (l : List UInt8) (i : Nat) (hl : l.length ≤ 1000000) (hi : i ≤ 800000) (w : World) : Calls Tryz.prog 64 #[str l, .int .i64 i] w (Ret1 (.int .u16 (g16 l i : Nat)) w) := by
  have K := r01_get16 l i hl hi w
  have hlt := g16_lt l i
  generalize g16 l i = v at *
  go_enter Tryz.func64, Tryz.ntmps64
  go_wp2_with fail
  refine K.mono ?_
  rintro e w1 ⟨rfl, rfl⟩
  go_wp2_with fail
  go_ret
  exact ⟨rfl, Fp.refl _ _⟩
theorem r06_two (l : List UInt8) (i : Nat) (hl : l.length ≤ 1000000) (hi : i ≤ 800000) (w : World) : Calls Tryz.prog 62 #[str l, .int .i64 i] w (Ret1 (.int .u16 (g16 l i : Nat)) w) := by
  have K := r01_get16 l i hl hi w
  have hlt := g16_lt l i
  generalize g16 l i = v at *
  go_enter Tryz.func62, Tryz.ntmps62
  go_wp2_with fail
  refine K.mono ?_
  rintro e w1 ⟨rfl, rfl⟩
  go_wp2_with fail
  go_ret
  exact ⟨rfl, Fp.refl _ _⟩
theorem r06_four (l : List UInt8) (i : Nat) (hl : l.length ≤ 1000000) (hi : i ≤ 800000) (w : World) : Calls Tryz.prog 63 #[str l, .int .i64 i] w (Ret1 (.int .u32 (g32 l i : Nat)) w) := by
  have K := r01_get32 l i hl hi w
  have hlt := g32_lt l i
  generalize g32 l i = v at *
  go_enter Tryz.func63, Tryz.ntmps63
  go_wp2_with fail
  refine K.mono ?_
  rintro e w1 ⟨rfl, rfl⟩
  go_wp2_with fail
  go_ret
  exact ⟨rfl, Fp.refl _ _⟩
theorem r05_short (l : List UInt8) (h : l.length < 8) (w : World) : Calls Tryz.prog 30 #[str l] w (Ret1 (.tuple #[udZ, str [], .bool false]) w) := by
  go_enter Tryz.func30, Tryz.ntmps30
  go_wp2_with fail
  refine bodyPost_ret (v := .tuple #[udZ, str [], .bool false]) (by simp only [results, Tryz.results30, udZ]; go_simp) rfl ⟨rfl, (Fp.refl _ _).alloc _⟩
set_option maxHeartbeats 4000000 in
set_option maxRecDepth 100000 in
theorem r05_bad (l : List UInt8) (h : 8 ≤ l.length) (hl : l.length ≤ 1000000) (hb : ((g16 l 4 : Int) != (l.length : Int)) = true) (w : World) : Calls Tryz.prog 30 #[str l] w (Ret1 (.tuple #[udZ, str [], .bool false]) w) := by
  have K0 := Lib.hid (fun W => r05_word l 0 hl (by omega) W)
  have K2 := Lib.hid (fun W => r05_word l 2 hl (by omega) W)
  have K4 := Lib.hid (fun W => r05_word l 4 hl (by omega) W)
  have K6 := Lib.hid (fun W => r05_word l 6 hl (by omega) W)
  have c0 : IntKind.i64.wrap (g16 l 4 : Nat) = (g16 l 4 : Nat) := IntWalk.i64_in _ (by have := g16_lt l 4; omega)
  go_enter Tryz.func30, Tryz.ntmps30
  go_wp2_with fail
  have HN := Lib.hid (Fp.refl (fun _ => False) w)
  refine calls_gen (fun x1 hW => ?_)
  have hp := new_now hW
  have hB := new_blk hW
  clear hW
  have hGe := hid_ge HN
  replace HN := hid_now HN hp
  obtain ⟨gR, hgR⟩ : ∃ gR, gR = w.heap.size := ⟨_, rfl⟩
  have G_gR := Lib.hid (Nat.le_trans hGe (Nat.le_of_eq hgR.symm))
  rw [← hgR] at hB ⊢
  have B_gR := hB
  clear hB hGe hgR
  clear hp
  refine (show Calls _ _ _ _ _ from K4.out _).mono ?_
  rintro e x2 ⟨rfl, hp⟩
  replace HN := hid_now HN hp
  replace B_gR := hid_blk B_gR hp
  clear hp
  clear K0 K2 K4 K6
  have cgR0 := cell_at B_gR 0 rfl
  have cgR1 := cell_at B_gR 1 rfl
  have cgR2 := cell_at B_gR 2 rfl
  have cgR3 := cell_at B_gR 3 rfl
  have zgR := froz_at B_gR
  have lgR := hid_lt B_gR
  go_wp2_with fail
  refine post_gen (fun W hW => ?_)
  obtain ⟨hB, hf⟩ := setE4 hW B_gR
  replace HN := hid_own HN hf (fun i hi e => by have h1 : i = gR := e; have h2 := G_gR.out; omega)
  clear hW hf cgR0 cgR1 cgR2 cgR3 zgR lgR
  replace B_gR := hB
  clear hB
  have cgR0 := cell_at B_gR 0 rfl
  have cgR1 := cell_at B_gR 1 rfl
  have cgR2 := cell_at B_gR 2 rfl
  have cgR3 := cell_at B_gR 3 rfl
  have zgR := froz_at B_gR
  have lgR := hid_lt B_gR
  refine bodyPost_ret (v := .tuple #[udZ, str [], .bool false]) (by simp only [results, Tryz.results30, udZ]; go_simp) rfl ⟨rfl, HN.out⟩
set_option maxHeartbeats 4000000 in
set_option maxRecDepth 100000 in
theorem r05_good (l : List UInt8) (h : 8 ≤ l.length) (hl : l.length ≤ 1000000) (hb : ((g16 l 4 : Int) != (l.length : Int)) = false) (w : World) : Calls Tryz.prog 30 #[str l] w (Ret1 (.tuple #[.agg #[.int .u16 (g16 l 0 : Nat), .int .u16 (g16 l 2 : Nat), .int .u16 (g16 l 4 : Nat), .int .u16 (g16 l 6 : Nat)], str (l.drop 8), .bool true]) w) := by
  have K0 := Lib.hid (fun W => r05_word l 0 hl (by omega) W)
  have K2 := Lib.hid (fun W => r05_word l 2 hl (by omega) W)
  have K4 := Lib.hid (fun W => r05_word l 4 hl (by omega) W)
  have K6 := Lib.hid (fun W => r05_word l 6 hl (by omega) W)
  have c0 : IntKind.i64.wrap (g16 l 4 : Nat) = (g16 l 4 : Nat) := IntWalk.i64_in _ (by have := g16_lt l 4; omega)
  have s1 := run_cutFrom l (i := 8) rfl h
  have i8 : (8 : Int) ≤ (l.length : Int) := by omega
  have exm : (⟨l.toArray⟩ : ByteArray).extract 8 l.length = ⟨(l.drop 8).toArray⟩ := by rw [ext_cut, List.take_length]
  go_enter Tryz.func30, Tryz.ntmps30
  go_wp2_with fail
  have HN := Lib.hid (Fp.refl (fun _ => False) w)
  refine calls_gen (fun x1 hW => ?_)
  have hp := new_now hW
  have hB := new_blk hW
  clear hW
  have hGe := hid_ge HN
  replace HN := hid_now HN hp
  obtain ⟨gR, hgR⟩ : ∃ gR, gR = w.heap.size := ⟨_, rfl⟩
  have G_gR := Lib.hid (Nat.le_trans hGe (Nat.le_of_eq hgR.symm))
  rw [← hgR] at hB ⊢
  have B_gR := hB
  clear hB hGe hgR
  clear hp
  refine (show Calls _ _ _ _ _ from K4.out _).mono ?_
  rintro e x2 ⟨rfl, hp⟩
  replace HN := hid_now HN hp
  replace B_gR := hid_blk B_gR hp
  clear hp
  go_upto_region 3 with fail
  refine wp_region_held_drew (S := fun wx => Fp (fun b => b = gR) x2 wx) (by kernel_rfl) (Fp.drew (Fp.refl _ _)) (fun hHeld0 => ?_)
  refine any_eq hHeld0 (fun x3 hW hHeld => ?_)
  clear hHeld0
  replace B_gR := hid_blk B_gR (noW_drew hW)
  clear hW
  (refine take_at 0 (some 17) rfl rfl (by kernel_rfl) (by kernel_rfl) (by kernel_rfl) (fun _ _ _ h => h) (v := ?_) (by kernel_rfl) ?_ (by assumption) ?_; rotate_left; (focus (intro wS hSw; skip; go_simp; try with_reducible rfl)); (try simp only [Act.put, List.setIfInBounds_toArray, List.set_cons_zero, List.set_cons_succ]))
  (refine take_at 2 (some 19) rfl rfl (by kernel_rfl) (by kernel_rfl) (by kernel_rfl) (fun _ _ _ h => h) (v := ?_) (by kernel_rfl) ?_ (by assumption) ?_; rotate_left; (focus (intro wS hSw; skip; go_simp; try with_reducible rfl)); (try simp only [Act.put, List.setIfInBounds_toArray, List.set_cons_zero, List.set_cons_succ]))
  (refine take_at 4 (some 21) rfl rfl (by kernel_rfl) (by kernel_rfl) (by kernel_rfl) (fun _ _ _ h => h) (v := ?_) (by kernel_rfl) ?_ (by assumption) ?_; rotate_left; (focus (intro wS hSw; skip; go_simp; try with_reducible rfl)); (try simp only [Act.put, List.setIfInBounds_toArray, List.set_cons_zero, List.set_cons_succ]))
  (refine take_at 6 (some 23) rfl rfl (by kernel_rfl) (by kernel_rfl) (by kernel_rfl) (fun _ _ _ h => h) (v := ?_) (by kernel_rfl) ?_ (by assumption) ?_; rotate_left; (focus (intro wS hSw; skip; go_simp; try with_reducible rfl)); (try simp only [Act.put, List.setIfInBounds_toArray, List.set_cons_zero, List.set_cons_succ]))
  (refine take_at 9 (some 26) rfl rfl (by kernel_rfl) (by kernel_rfl) (by kernel_rfl) (fun _ _ _ h => h) (v := ?_) (by kernel_rfl) ?_ (by assumption) ?_; rotate_left; (focus (intro wS hSw; skip; go_simp; try with_reducible rfl)); (try simp only [Act.put, List.setIfInBounds_toArray, List.set_cons_zero, List.set_cons_succ]))
  (refine take_at 10 (some 27) rfl rfl (by kernel_rfl) (by kernel_rfl) (by kernel_rfl) (fun _ _ _ h => h) (v := ?_) (by kernel_rfl) ?_ (by assumption) ?_; rotate_left; (focus (intro wS hSw; skip; go_simp; try with_reducible rfl)); (try simp only [Act.put, List.setIfInBounds_toArray, List.set_cons_zero, List.set_cons_succ]))
  refine wpAnyH_ready (rs := [1]) (by kernel_rfl) (by simp) ?_
  refine AllReadyH.cons rfl (fun K hK => ?_) AllReadyH.nil
  go_simp
  go_at_call 64
  refine (show Calls _ _ _ _ _ from K0.out _).mono ?_
  rintro e x4 ⟨rfl, hp⟩
  have hn := Fp.trans hHeld hp (fun _ _ h => h.elim)
  replace B_gR := hid_blk B_gR hp
  refine k_now hK hn ?_
  clear hK K hp hHeld
  have hHeld := hn
  clear hn
  try simp only [Act.put, List.setIfInBounds_toArray, List.set_cons_zero, List.set_cons_succ]
  refine wpAnyH_ready (rs := [3]) (by kernel_rfl) (by simp) ?_
  refine AllReadyH.cons rfl (fun K hK => ?_) AllReadyH.nil
  go_simp
  go_at_call 64
  refine (show Calls _ _ _ _ _ from K2.out _).mono ?_
  rintro e x5 ⟨rfl, hp⟩
  have hn := Fp.trans hHeld hp (fun _ _ h => h.elim)
  replace B_gR := hid_blk B_gR hp
  refine k_now hK hn ?_
  clear hK K hp hHeld
  have hHeld := hn
  clear hn
  try simp only [Act.put, List.setIfInBounds_toArray, List.set_cons_zero, List.set_cons_succ]
  refine wpAnyH_ready (rs := [5]) (by kernel_rfl) (by simp) ?_
  refine AllReadyH.cons rfl (fun K hK => ?_) AllReadyH.nil
  go_simp
  go_at_call 64
  refine (show Calls _ _ _ _ _ from K4.out _).mono ?_
  rintro e x6 ⟨rfl, hp⟩
  have hn := Fp.trans hHeld hp (fun _ _ h => h.elim)
  replace B_gR := hid_blk B_gR hp
  refine k_now hK hn ?_
  clear hK K hp hHeld
  have hHeld := hn
  clear hn
  try simp only [Act.put, List.setIfInBounds_toArray, List.set_cons_zero, List.set_cons_succ]
  refine wpAnyH_ready (rs := [7]) (by kernel_rfl) (by simp) ?_
  refine AllReadyH.cons rfl (fun K hK => ?_) AllReadyH.nil
  go_simp
  go_at_call 64
  refine (show Calls _ _ _ _ _ from K6.out _).mono ?_
  rintro e x7 ⟨rfl, hp⟩
  have hn := Fp.trans hHeld hp (fun _ _ h => h.elim)
  replace B_gR := hid_blk B_gR hp
  refine k_now hK hn ?_
  clear hK K hp hHeld
  have hHeld := hn
  clear hn
  try simp only [Act.put, List.setIfInBounds_toArray, List.set_cons_zero, List.set_cons_succ]
  (refine take_at 8 (some 25) rfl rfl (by kernel_rfl) (by kernel_rfl) (by kernel_rfl) (fun _ _ _ h => h) (v := ?_) (by kernel_rfl) ?_ (by assumption) ?_; rotate_left; (focus (intro wS hSw; skip; go_simp; try with_reducible rfl)); (try simp only [Act.put, List.setIfInBounds_toArray, List.set_cons_zero, List.set_cons_succ]))
  refine wpAnyH_ready (rs := [11]) (by kernel_rfl) (by simp) ?_
  refine AllReadyH.cons rfl (fun K hK => ?_) AllReadyH.nil
  have cgR0 := cell_at B_gR 0 rfl
  have cgR1 := cell_at B_gR 1 rfl
  have cgR2 := cell_at B_gR 2 rfl
  have cgR3 := cell_at B_gR 3 rfl
  have zgR := froz_at B_gR
  have lgR := hid_lt B_gR
  go_simp
  refine k_gen hK (fun x8 hW => ?_)
  obtain ⟨hB, hf⟩ := setE4 hW B_gR
  clear hW zgR lgR cgR0 cgR1 cgR2 cgR3
  have hn := Fp.trans hHeld hf (fun i _ e => e)
  refine ⟨hn, ?_⟩
  clear hK K hHeld
  have hHeld := hn
  clear hn
  try simp only [Act.put, List.setIfInBounds_toArray, List.set_cons_zero, List.set_cons_succ]
  replace B_gR := hB
  clear hB hf
  (refine take_at 12 (some 3) rfl rfl (by kernel_rfl) (by kernel_rfl) (by kernel_rfl) (fun _ _ _ h => h) (v := ?_) (by kernel_rfl) ?_ (by assumption) ?_; rotate_left; (focus (intro wS hSw; skip; go_simp; try with_reducible rfl)); (try simp only [Act.put, List.setIfInBounds_toArray, List.set_cons_zero, List.set_cons_succ]))
  (refine take_at 13 (some 4) rfl rfl (by kernel_rfl) (by kernel_rfl) (by kernel_rfl) (fun _ _ _ h => h) (v := ?_) (by kernel_rfl) ?_ (by assumption) ?_; rotate_left; (focus (intro wS hSw; skip; go_simp; try with_reducible rfl)); (try simp only [Act.put, List.setIfInBounds_toArray, List.set_cons_zero, List.set_cons_succ]))
  refine wpAnyH_done (by kernel_rfl) ?_ _
  have hGe := hid_ge HN
  replace HN := hid_own HN hHeld (fun i hi e => by have h1 : i = gR := e; have h2 := G_gR.out; omega)
  clear hHeld hGe
  go_wp2_with fail
  have cgR0 := cell_at B_gR 0 rfl
  have cgR1 := cell_at B_gR 1 rfl
  have cgR2 := cell_at B_gR 2 rfl
  have cgR3 := cell_at B_gR 3 rfl
  have zgR := froz_at B_gR
  have lgR := hid_lt B_gR
  refine bodyPost_ret (v := .tuple #[.agg #[.int .u16 (g16 l 0 : Nat), .int .u16 (g16 l 2 : Nat), .int .u16 (g16 l 4 : Nat), .int .u16 (g16 l 6 : Nat)], str (l.drop 8), .bool true]) (by simp only [results, Tryz.results30]; go_simp) rfl ⟨rfl, HN.out⟩
theorem r05_parse (l : List UInt8) (hl : l.length ≤ 1000000) (w : World) : Calls Tryz.prog 30 #[str l] w (Ret1 (udV l) w) := by
  by_cases h : 8 ≤ l.length
  · by_cases h2 : g16 l 4 = l.length
    · rw [show udV l = .tuple #[.agg #[.int .u16 (g16 l 0 : Nat), .int .u16 (g16 l 2 : Nat), .int .u16 (g16 l 4 : Nat), .int .u16 (g16 l 6 : Nat)], str (l.drop 8), .bool true] from if_pos (decide_eq_true ⟨h, h2⟩)]
      exact r05_good l h hl (by rw [h2]; simp) w
    · rw [show udV l = .tuple #[udZ, str [], .bool false] from if_neg (by unfold udpOk; rw [decide_eq_true_eq]; exact fun k => h2 k.2)]
      exact r05_bad l h hl (by simp [bne]; omega) w
  · rw [show udV l = .tuple #[udZ, str [], .bool false] from if_neg (by unfold udpOk; rw [decide_eq_true_eq]; exact fun k => h k.1)]
    exact r05_short l (by omega) w
theorem r06_short (l : List UInt8) (h : l.length < 20) (w : World) : Calls Tryz.prog 29 #[str l] w (Ret1 (.tuple #[tcZ, str [], .bool false]) w) := by
  go_enter Tryz.func29, Tryz.ntmps29
  go_wp2_with fail
  refine bodyPost_ret (v := .tuple #[tcZ, str [], .bool false]) (by simp only [results, Tryz.results29, tcZ]; go_simp) rfl ⟨rfl, (Fp.refl _ _).alloc _⟩
theorem r06_bad (l : List UInt8) (own a : Nat) (ha0 : byt l 12 = a) (h : 20 ≤ l.length) (hl : l.length ≤ 1000000) (ho : a / 16 * 4 = own) (hb : own < 20 ∨ l.length < own) (w : World) : Calls Tryz.prog 29 #[str l] w (Ret1 (.tuple #[tcZ, str [], .bool false]) w) := by
  have x12 := run_byte l (i := 12) (z := 12) rfl (by omega)
  have b0 := byt_lt l 12
  rw [ha0] at x12 b0
  obtain ⟨q, hq⟩ : ∃ q, q = a / 16 := ⟨_, rfl⟩
  have c0 : (a : Int) / 16 = (q : Int) := by omega
  have c0' : (a : Int).tdiv 16 = (q : Int) := by rw [Int.tdiv_eq_ediv_of_nonneg (by omega)]; omega
  have c1 : IntKind.i64.wrap (q : Int) = (q : Int) := IntWalk.i64_in _ (by omega)
  have c2 : IntKind.i64.wrap ((q : Int) * 4) = (own : Int) := (IntWalk.i64_in _ (by omega)).trans (by omega)
  have c2' : ((q : Int) * 4) = (own : Int) := by omega
  have ho60 : own ≤ 60 := by omega
  have HB := Lib.hid hb
  clear hb hq ho
  by_cases e : own < 20
  · have d0 : decide ((own : Int) < 20) = true := decide_eq_true (by omega)
    go_enter Tryz.func29, Tryz.ntmps29
    go_wp2_with fail
    refine bodyPost_ret (v := .tuple #[tcZ, str [], .bool false]) (by simp only [results, Tryz.results29, tcZ]; go_simp) rfl ⟨rfl, (Fp.refl _ _).alloc _⟩
  · have d0 : decide ((own : Int) < 20) = false := decide_eq_false (by omega)
    have d1 : decide (l.length < own) = true := decide_eq_true (by have := HB.out; omega)
    go_enter Tryz.func29, Tryz.ntmps29
    go_wp2_with fail
    refine bodyPost_ret (v := .tuple #[tcZ, str [], .bool false]) (by simp only [results, Tryz.results29, tcZ]; go_simp) rfl ⟨rfl, (Fp.refl _ _).alloc _⟩
set_option maxHeartbeats 4000000 in
set_option maxRecDepth 100000 in
theorem r06_good (l : List UInt8) (own a m : Nat) (ha0 : byt l 12 = a) (hm : a % 16 = m) (h : 20 ≤ l.length) (hl : l.length ≤ 1000000) (ho : a / 16 * 4 = own) (h1 : 20 ≤ own) (h2 : own ≤ l.length) (w : World) : Calls Tryz.prog 29 #[str l] w (Ret1 (.tuple #[.agg #[.int .u16 (g16 l 0 : Nat), .int .u16 (g16 l 2 : Nat), .int .u32 (g32 l 4 : Nat), .int .u32 (g32 l 8 : Nat), .int .u8 (m : Nat), .int .u8 (byt l 13 : Nat), .int .u16 (g16 l 14 : Nat), .int .u16 (g16 l 16 : Nat), .int .u16 (g16 l 18 : Nat), str ((l.take own).drop 20)], str (l.drop own), .bool true]) w) := by
  have x12 := run_byte l (i := 12) (z := 12) rfl (by omega)
  have b0 := byt_lt l 12
  rw [ha0] at x12 b0
  obtain ⟨q, hq⟩ : ∃ q, q = a / 16 := ⟨_, rfl⟩
  have c0 : (a : Int) / 16 = (q : Int) := by omega
  have c0' : (a : Int).tdiv 16 = (q : Int) := by rw [Int.tdiv_eq_ediv_of_nonneg (by omega)]; omega
  have c1 : IntKind.i64.wrap (q : Int) = (q : Int) := IntWalk.i64_in _ (by omega)
  have c2 : IntKind.i64.wrap ((q : Int) * 4) = (own : Int) := (IntWalk.i64_in _ (by omega)).trans (by omega)
  have c2' : ((q : Int) * 4) = (own : Int) := by omega
  have ho60 : own ≤ 60 := by omega
  have d0 : decide ((own : Int) < 20) = false := decide_eq_false (by omega)
  have d1 : decide (l.length < own) = false := decide_eq_false (by omega)
  clear hq ho
  have K0 := Lib.hid (fun W => r06_two l 0 hl (by omega) W)
  have K2 := Lib.hid (fun W => r06_two l 2 hl (by omega) W)
  have K4 := Lib.hid (fun W => r06_four l 4 hl (by omega) W)
  have K8 := Lib.hid (fun W => r06_four l 8 hl (by omega) W)
  have K14 := Lib.hid (fun W => r06_two l 14 hl (by omega) W)
  have K16 := Lib.hid (fun W => r06_two l 16 hl (by omega) W)
  have K18 := Lib.hid (fun W => r06_two l 18 hl (by omega) W)
  have x13 := run_byte l (i := 13) (z := 13) rfl (by omega)
  have c3 : (a : Int) % 16 = (m : Int) := by omega
  have c3' : (a : Int).tmod 16 = (m : Int) := by rw [Int.tmod_eq_emod_of_nonneg (by omega)]; omega
  have s1 := run_cut l (i := 20) (j := own) rfl rfl h1 h2
  have s2 := run_cutFrom l (i := own) rfl h2
  have i20 : (20 : Int) ≤ (own : Int) := by omega
  have i21 : (own : Int) ≤ (l.length : Int) := by omega
  have ex1 := ext_cut l 20 own
  have ex2 : (⟨l.toArray⟩ : ByteArray).extract own l.length = ⟨(l.drop own).toArray⟩ := by rw [ext_cut, List.take_length]
  clear hm ha0
  go_enter Tryz.func29, Tryz.ntmps29
  go_upto_region 6 with fail
  have HN := Lib.hid (Fp.refl (fun _ => False) w)
  refine wp_gen (fun x1 hW => ?_)
  have hp := new_now hW
  have hB := new_blk hW
  clear hW
  have hGe := hid_ge HN
  replace HN := hid_now HN hp
  obtain ⟨gR, hgR⟩ : ∃ gR, gR = w.heap.size := ⟨_, rfl⟩
  have G_gR := Lib.hid (Nat.le_trans hGe (Nat.le_of_eq hgR.symm))
  rw [← hgR] at hB ⊢
  have B_gR := hB
  clear hB hGe hgR
  clear hp
  go_cut [6] (fun s6 wx => ∃ g6, s6 = .pointer (some ⟨g6, 0, none⟩) ∧ wx.heap[g6]? = some (.cells #[.int .u16 (g16 l 0 : Nat), .int .u16 (g16 l 2 : Nat), .int .u32 (g32 l 4 : Nat), .int .u32 (g32 l 8 : Nat), .int .u8 (m : Nat), .int .u8 (byt l 13 : Nat), .int .u16 (g16 l 14 : Nat), .int .u16 (g16 l 16 : Nat), .int .u16 (g16 l 18 : Nat), str ((l.take own).drop 20)] 70) ∧ x1.heap.size ≤ g6 ∧ NoW x1 wx)
  case first =>
      refine wp_region_held_drew (S := fun wx => NoW x1 wx) (by kernel_rfl) (Fp.drew (Fp.refl _ _)) (fun hHeld0 => ?_)
      refine any_eq hHeld0 (fun y1 hW hHeld => ?_)
      clear hHeld0
      clear hW
      (refine take_at 0 (some 25) rfl rfl (by kernel_rfl) (by kernel_rfl) (by kernel_rfl) (fun _ _ _ h => h) (v := ?_) (by kernel_rfl) ?_ (by assumption) ?_; rotate_left; (focus (intro wS hSw; skip; go_simp; try with_reducible rfl)); (try simp only [Act.put, List.setIfInBounds_toArray, List.set_cons_zero, List.set_cons_succ]))
      (refine take_at 2 (some 27) rfl rfl (by kernel_rfl) (by kernel_rfl) (by kernel_rfl) (fun _ _ _ h => h) (v := ?_) (by kernel_rfl) ?_ (by assumption) ?_; rotate_left; (focus (intro wS hSw; skip; go_simp; try with_reducible rfl)); (try simp only [Act.put, List.setIfInBounds_toArray, List.set_cons_zero, List.set_cons_succ]))
      (refine take_at 4 (some 29) rfl rfl (by kernel_rfl) (by kernel_rfl) (by kernel_rfl) (fun _ _ _ h => h) (v := ?_) (by kernel_rfl) ?_ (by assumption) ?_; rotate_left; (focus (intro wS hSw; skip; go_simp; try with_reducible rfl)); (try simp only [Act.put, List.setIfInBounds_toArray, List.set_cons_zero, List.set_cons_succ]))
      (refine take_at 6 (some 31) rfl rfl (by kernel_rfl) (by kernel_rfl) (by kernel_rfl) (fun _ _ _ h => h) (v := ?_) (by kernel_rfl) ?_ (by assumption) ?_; rotate_left; (focus (intro wS hSw; skip; go_simp; try with_reducible rfl)); (try simp only [Act.put, List.setIfInBounds_toArray, List.set_cons_zero, List.set_cons_succ]))
      (refine take_at 8 (some 33) rfl rfl (by kernel_rfl) (by kernel_rfl) (by kernel_rfl) (fun _ _ _ h => h) (v := ?_) (by kernel_rfl) ?_ (by assumption) ?_; rotate_left; (focus (intro wS hSw; skip; go_simp; try with_reducible rfl)); (try simp only [Act.put, List.setIfInBounds_toArray, List.set_cons_zero, List.set_cons_succ]))
      (refine take_at 9 (some 34) rfl rfl (by kernel_rfl) (by kernel_rfl) (by kernel_rfl) (fun _ _ _ h => h) (v := ?_) (by kernel_rfl) ?_ (by assumption) ?_; rotate_left; (focus (intro wS hSw; have hX := fun b o (h : b < _) => hSw.cell (p := ⟨b, o, none⟩) h id; go_simp; try with_reducible rfl)); (try simp only [Act.put, List.setIfInBounds_toArray, List.set_cons_zero, List.set_cons_succ]))
      (refine take_at 10 (some 35) rfl rfl (by kernel_rfl) (by kernel_rfl) (by kernel_rfl) (fun _ _ _ h => h) (v := ?_) (by kernel_rfl) ?_ (by assumption) ?_; rotate_left; (focus (intro wS hSw; skip; go_simp; try with_reducible rfl)); (try simp only [Act.put, List.setIfInBounds_toArray, List.set_cons_zero, List.set_cons_succ]))
      (refine take_at 11 (some 36) rfl rfl (by kernel_rfl) (by kernel_rfl) (by kernel_rfl) (fun _ _ _ h => h) (v := ?_) (by kernel_rfl) ?_ (by assumption) ?_; rotate_left; (focus (intro wS hSw; skip; go_simp; try with_reducible rfl)); (try simp only [Act.put, List.setIfInBounds_toArray, List.set_cons_zero, List.set_cons_succ]))
      (refine take_at 12 (some 37) rfl rfl (by kernel_rfl) (by kernel_rfl) (by kernel_rfl) (fun _ _ _ h => h) (v := ?_) (by kernel_rfl) ?_ (by assumption) ?_; rotate_left; (focus (intro wS hSw; have hX := fun b o (h : b < _) => hSw.cell (p := ⟨b, o, none⟩) h id; go_simp; try with_reducible rfl)); (try simp only [Act.put, List.setIfInBounds_toArray, List.set_cons_zero, List.set_cons_succ]))
      (refine take_at 13 (some 38) rfl rfl (by kernel_rfl) (by kernel_rfl) (by kernel_rfl) (fun _ _ _ h => h) (v := ?_) (by kernel_rfl) ?_ (by assumption) ?_; rotate_left; (focus (intro wS hSw; skip; go_simp; try with_reducible rfl)); (try simp only [Act.put, List.setIfInBounds_toArray, List.set_cons_zero, List.set_cons_succ]))
      (refine take_at 15 (some 40) rfl rfl (by kernel_rfl) (by kernel_rfl) (by kernel_rfl) (fun _ _ _ h => h) (v := ?_) (by kernel_rfl) ?_ (by assumption) ?_; rotate_left; (focus (intro wS hSw; skip; go_simp; try with_reducible rfl)); (try simp only [Act.put, List.setIfInBounds_toArray, List.set_cons_zero, List.set_cons_succ]))
      (refine take_at 17 (some 42) rfl rfl (by kernel_rfl) (by kernel_rfl) (by kernel_rfl) (fun _ _ _ h => h) (v := ?_) (by kernel_rfl) ?_ (by assumption) ?_; rotate_left; (focus (intro wS hSw; skip; go_simp; try with_reducible rfl)); (try simp only [Act.put, List.setIfInBounds_toArray, List.set_cons_zero, List.set_cons_succ]))
      (refine take_at 19 (some 44) rfl rfl (by kernel_rfl) (by kernel_rfl) (by kernel_rfl) (fun _ _ _ h => h) (v := ?_) (by kernel_rfl) ?_ (by assumption) ?_; rotate_left; (focus (intro wS hSw; skip; go_simp; try with_reducible rfl)); (try simp only [Act.put, List.setIfInBounds_toArray, List.set_cons_zero, List.set_cons_succ]))
      (refine take_at 20 (some 45) rfl rfl (by kernel_rfl) (by kernel_rfl) (by kernel_rfl) (fun _ _ _ h => h) (v := ?_) (by kernel_rfl) ?_ (by assumption) ?_; rotate_left; (focus (intro wS hSw; skip; go_simp; try with_reducible rfl)); (try simp only [Act.put, List.setIfInBounds_toArray, List.set_cons_zero, List.set_cons_succ]))
      (refine take_at 21 (some 46) rfl rfl (by kernel_rfl) (by kernel_rfl) (by kernel_rfl) (fun _ _ _ h => h) (v := ?_) (by kernel_rfl) ?_ (by assumption) ?_; rotate_left; (focus (intro wS hSw; skip; go_simp; try with_reducible rfl)); (try simp only [Act.put, List.setIfInBounds_toArray, List.set_cons_zero, List.set_cons_succ]))
      refine wpAnyH_ready (rs := [1, 23]) (by kernel_rfl) (by simp) ?_
      refine AllReadyH.cons rfl (fun K hK => ?_) (AllReadyH.cons rfl (fun K hK => ?_) AllReadyH.nil)
      · go_simp
        go_at_call 62
        refine (show Calls _ _ _ _ _ from K0.out _).mono ?_
        rintro e y2 ⟨rfl, hp⟩
        have hn := Fp.trans hHeld hp (fun _ _ h => h.elim)
        refine k_now hK hn ?_
        clear hK K hp hHeld
        have hHeld := hn
        clear hn
        try simp only [Act.put, List.setIfInBounds_toArray, List.set_cons_zero, List.set_cons_succ]
        refine wpAnyH_ready (rs := [3, 23]) (by kernel_rfl) (by simp) ?_
        refine AllReadyH.cons rfl (fun K hK => ?_) (AllReadyH.cons rfl (fun K hK => ?_) AllReadyH.nil)
        · go_simp
          go_at_call 62
          refine (show Calls _ _ _ _ _ from K2.out _).mono ?_
          rintro e y3 ⟨rfl, hp⟩
          have hn := Fp.trans hHeld hp (fun _ _ h => h.elim)
          refine k_now hK hn ?_
          clear hK K hp hHeld
          have hHeld := hn
          clear hn
          try simp only [Act.put, List.setIfInBounds_toArray, List.set_cons_zero, List.set_cons_succ]
          refine wpAnyH_ready (rs := [5, 23]) (by kernel_rfl) (by simp) ?_
          refine AllReadyH.cons rfl (fun K hK => ?_) (AllReadyH.cons rfl (fun K hK => ?_) AllReadyH.nil)
          · go_simp
            go_at_call 63
            refine (show Calls _ _ _ _ _ from K4.out _).mono ?_
            rintro e y4 ⟨rfl, hp⟩
            have hn := Fp.trans hHeld hp (fun _ _ h => h.elim)
            refine k_now hK hn ?_
            clear hK K hp hHeld
            have hHeld := hn
            clear hn
            try simp only [Act.put, List.setIfInBounds_toArray, List.set_cons_zero, List.set_cons_succ]
            refine wpAnyH_ready (rs := [7, 23]) (by kernel_rfl) (by simp) ?_
            refine AllReadyH.cons rfl (fun K hK => ?_) (AllReadyH.cons rfl (fun K hK => ?_) AllReadyH.nil)
            · go_simp
              go_at_call 63
              refine (show Calls _ _ _ _ _ from K8.out _).mono ?_
              rintro e y5 ⟨rfl, hp⟩
              have hn := Fp.trans hHeld hp (fun _ _ h => h.elim)
              refine k_now hK hn ?_
              clear hK K hp hHeld
              have hHeld := hn
              clear hn
              try simp only [Act.put, List.setIfInBounds_toArray, List.set_cons_zero, List.set_cons_succ]
              refine wpAnyH_ready (rs := [14, 23]) (by kernel_rfl) (by simp) ?_
              refine AllReadyH.cons rfl (fun K hK => ?_) (AllReadyH.cons rfl (fun K hK => ?_) AllReadyH.nil)
              · go_simp
                go_at_call 62
                refine (show Calls _ _ _ _ _ from K14.out _).mono ?_
                rintro e y6 ⟨rfl, hp⟩
                have hn := Fp.trans hHeld hp (fun _ _ h => h.elim)
                refine k_now hK hn ?_
                clear hK K hp hHeld
                have hHeld := hn
                clear hn
                try simp only [Act.put, List.setIfInBounds_toArray, List.set_cons_zero, List.set_cons_succ]
                refine wpAnyH_ready (rs := [16, 23]) (by kernel_rfl) (by simp) ?_
                refine AllReadyH.cons rfl (fun K hK => ?_) (AllReadyH.cons rfl (fun K hK => ?_) AllReadyH.nil)
                · go_simp
                  go_at_call 62
                  refine (show Calls _ _ _ _ _ from K16.out _).mono ?_
                  rintro e y7 ⟨rfl, hp⟩
                  have hn := Fp.trans hHeld hp (fun _ _ h => h.elim)
                  refine k_now hK hn ?_
                  clear hK K hp hHeld
                  have hHeld := hn
                  clear hn
                  try simp only [Act.put, List.setIfInBounds_toArray, List.set_cons_zero, List.set_cons_succ]
                  refine wpAnyH_ready (rs := [18, 23]) (by kernel_rfl) (by simp) ?_
                  refine AllReadyH.cons rfl (fun K hK => ?_) (AllReadyH.cons rfl (fun K hK => ?_) AllReadyH.nil)
                  · go_simp
                    go_at_call 62
                    refine (show Calls _ _ _ _ _ from K18.out _).mono ?_
                    rintro e y8 ⟨rfl, hp⟩
                    have hn := Fp.trans hHeld hp (fun _ _ h => h.elim)
                    refine k_now hK hn ?_
                    clear hK K hp hHeld
                    have hHeld := hn
                    clear hn
                    try simp only [Act.put, List.setIfInBounds_toArray, List.set_cons_zero, List.set_cons_succ]
                    (refine take_at 22 (some 47) rfl rfl (by kernel_rfl) (by kernel_rfl) (by kernel_rfl) (fun _ _ _ h => h) (v := ?_) (by kernel_rfl) ?_ (by assumption) ?_; rotate_left; (focus (intro wS hSw; skip; go_simp; try with_reducible rfl)); (try simp only [Act.put, List.setIfInBounds_toArray, List.set_cons_zero, List.set_cons_succ]))
                    refine wpAnyH_ready (rs := [23]) (by kernel_rfl) (by simp) ?_
                    refine AllReadyH.cons rfl (fun K hK => ?_) AllReadyH.nil
                    go_simp
                    refine k_gen hK (fun y9 hW => ?_)
                    have hp := new_now hW
                    have hB := new_blk hW
                    have hGe := Fp.size hHeld
                    clear hW
                    refine ⟨Fp.trans hHeld hp (fun _ _ h => h.elim), ?_⟩
                    replace hHeld := Fp.trans hHeld hp (fun _ _ h => h.elim)
                    clear hK K
                    try simp only [Act.put, List.setIfInBounds_toArray, List.set_cons_zero, List.set_cons_succ]
                    obtain ⟨gN, hgN⟩ : ∃ gN, gN = y8.heap.size := ⟨_, rfl⟩
                    have R_gN := Lib.hid (Nat.le_trans hGe (Nat.le_of_eq hgN.symm))
                    rw [← hgN] at hB ⊢
                    have B_gN := hB
                    clear hB hgN hp hGe
                    refine wpAnyH_ready (rs := [24]) (by kernel_rfl) (by simp) ?_
                    refine AllReadyH.cons rfl (fun K hK => ?_) AllReadyH.nil
                    have cgN0 := cell_at B_gN 0 rfl
                    have cgN1 := cell_at B_gN 1 rfl
                    have cgN2 := cell_at B_gN 2 rfl
                    have cgN3 := cell_at B_gN 3 rfl
                    have cgN4 := cell_at B_gN 4 rfl
                    have cgN5 := cell_at B_gN 5 rfl
                    have cgN6 := cell_at B_gN 6 rfl
                    have cgN7 := cell_at B_gN 7 rfl
                    have cgN8 := cell_at B_gN 8 rfl
                    have cgN9 := cell_at B_gN 9 rfl
                    have zgN := froz_at B_gN
                    have lgN := hid_lt B_gN
                    go_simp
                    refine k_gen hK (fun y10 hW => ?_)
                    obtain ⟨hB, hf⟩ := setE10 hW B_gN
                    clear hW zgN lgN cgN0 cgN1 cgN2 cgN3 cgN4 cgN5 cgN6 cgN7 cgN8 cgN9
                    have hn := Fp.trans hHeld hf (fun i hi e => by have h1 : i = gN := e; have h2 := R_gN.out; omega)
                    refine ⟨hn, ?_⟩
                    clear hK K hHeld
                    have hHeld := hn
                    clear hn
                    try simp only [Act.put, List.setIfInBounds_toArray, List.set_cons_zero, List.set_cons_succ]
                    replace B_gN := hB
                    clear hB hf
                    refine wpAnyH_done (by kernel_rfl) ?_ _
                    go_wp2_with fail
                    go_meet
                    exact ⟨gN, rfl, B_gN.out, R_gN.out, hHeld⟩
                  · go_simp
                    refine k_gen hK (fun y11 hW => ?_)
                    have hp := new_now hW
                    have hB := new_blk hW
                    have hGe := Fp.size hHeld
                    clear hW
                    refine ⟨Fp.trans hHeld hp (fun _ _ h => h.elim), ?_⟩
                    replace hHeld := Fp.trans hHeld hp (fun _ _ h => h.elim)
                    clear hK K
                    try simp only [Act.put, List.setIfInBounds_toArray, List.set_cons_zero, List.set_cons_succ]
                    obtain ⟨gN, hgN⟩ : ∃ gN, gN = y7.heap.size := ⟨_, rfl⟩
                    have R_gN := Lib.hid (Nat.le_trans hGe (Nat.le_of_eq hgN.symm))
                    rw [← hgN] at hB ⊢
                    have B_gN := hB
                    clear hB hgN hp hGe
                    refine wpAnyH_ready (rs := [18]) (by kernel_rfl) (by simp) ?_
                    refine AllReadyH.cons rfl (fun K hK => ?_) AllReadyH.nil
                    go_simp
                    go_at_call 62
                    refine (show Calls _ _ _ _ _ from K18.out _).mono ?_
                    rintro e y12 ⟨rfl, hp⟩
                    have hn := Fp.trans hHeld hp (fun _ _ h => h.elim)
                    replace B_gN := hid_blk B_gN hp
                    refine k_now hK hn ?_
                    clear hK K hp hHeld
                    have hHeld := hn
                    clear hn
                    try simp only [Act.put, List.setIfInBounds_toArray, List.set_cons_zero, List.set_cons_succ]
                    (refine take_at 22 (some 47) rfl rfl (by kernel_rfl) (by kernel_rfl) (by kernel_rfl) (fun _ _ _ h => h) (v := ?_) (by kernel_rfl) ?_ (by assumption) ?_; rotate_left; (focus (intro wS hSw; skip; go_simp; try with_reducible rfl)); (try simp only [Act.put, List.setIfInBounds_toArray, List.set_cons_zero, List.set_cons_succ]))
                    refine wpAnyH_ready (rs := [24]) (by kernel_rfl) (by simp) ?_
                    refine AllReadyH.cons rfl (fun K hK => ?_) AllReadyH.nil
                    have cgN0 := cell_at B_gN 0 rfl
                    have cgN1 := cell_at B_gN 1 rfl
                    have cgN2 := cell_at B_gN 2 rfl
                    have cgN3 := cell_at B_gN 3 rfl
                    have cgN4 := cell_at B_gN 4 rfl
                    have cgN5 := cell_at B_gN 5 rfl
                    have cgN6 := cell_at B_gN 6 rfl
                    have cgN7 := cell_at B_gN 7 rfl
                    have cgN8 := cell_at B_gN 8 rfl
                    have cgN9 := cell_at B_gN 9 rfl
                    have zgN := froz_at B_gN
                    have lgN := hid_lt B_gN
                    go_simp
                    refine k_gen hK (fun y13 hW => ?_)
                    obtain ⟨hB, hf⟩ := setE10 hW B_gN
                    clear hW zgN lgN cgN0 cgN1 cgN2 cgN3 cgN4 cgN5 cgN6 cgN7 cgN8 cgN9
                    have hn := Fp.trans hHeld hf (fun i hi e => by have h1 : i = gN := e; have h2 := R_gN.out; omega)
                    refine ⟨hn, ?_⟩
                    clear hK K hHeld
                    have hHeld := hn
                    clear hn
                    try simp only [Act.put, List.setIfInBounds_toArray, List.set_cons_zero, List.set_cons_succ]
                    replace B_gN := hB
                    clear hB hf
                    refine wpAnyH_done (by kernel_rfl) ?_ _
                    go_wp2_with fail
                    go_meet
                    exact ⟨gN, rfl, B_gN.out, R_gN.out, hHeld⟩
                · go_simp
                  refine k_gen hK (fun y14 hW => ?_)
                  have hp := new_now hW
                  have hB := new_blk hW
                  have hGe := Fp.size hHeld
                  clear hW
                  refine ⟨Fp.trans hHeld hp (fun _ _ h => h.elim), ?_⟩
                  replace hHeld := Fp.trans hHeld hp (fun _ _ h => h.elim)
                  clear hK K
                  try simp only [Act.put, List.setIfInBounds_toArray, List.set_cons_zero, List.set_cons_succ]
                  obtain ⟨gN, hgN⟩ : ∃ gN, gN = y6.heap.size := ⟨_, rfl⟩
                  have R_gN := Lib.hid (Nat.le_trans hGe (Nat.le_of_eq hgN.symm))
                  rw [← hgN] at hB ⊢
                  have B_gN := hB
                  clear hB hgN hp hGe
                  refine wpAnyH_ready (rs := [16]) (by kernel_rfl) (by simp) ?_
                  refine AllReadyH.cons rfl (fun K hK => ?_) AllReadyH.nil
                  go_simp
                  go_at_call 62
                  refine (show Calls _ _ _ _ _ from K16.out _).mono ?_
                  rintro e y15 ⟨rfl, hp⟩
                  have hn := Fp.trans hHeld hp (fun _ _ h => h.elim)
                  replace B_gN := hid_blk B_gN hp
                  refine k_now hK hn ?_
                  clear hK K hp hHeld
                  have hHeld := hn
                  clear hn
                  try simp only [Act.put, List.setIfInBounds_toArray, List.set_cons_zero, List.set_cons_succ]
                  refine wpAnyH_ready (rs := [18]) (by kernel_rfl) (by simp) ?_
                  refine AllReadyH.cons rfl (fun K hK => ?_) AllReadyH.nil
                  go_simp
                  go_at_call 62
                  refine (show Calls _ _ _ _ _ from K18.out _).mono ?_
                  rintro e y16 ⟨rfl, hp⟩
                  have hn := Fp.trans hHeld hp (fun _ _ h => h.elim)
                  replace B_gN := hid_blk B_gN hp
                  refine k_now hK hn ?_
                  clear hK K hp hHeld
                  have hHeld := hn
                  clear hn
                  try simp only [Act.put, List.setIfInBounds_toArray, List.set_cons_zero, List.set_cons_succ]
                  (refine take_at 22 (some 47) rfl rfl (by kernel_rfl) (by kernel_rfl) (by kernel_rfl) (fun _ _ _ h => h) (v := ?_) (by kernel_rfl) ?_ (by assumption) ?_; rotate_left; (focus (intro wS hSw; skip; go_simp; try with_reducible rfl)); (try simp only [Act.put, List.setIfInBounds_toArray, List.set_cons_zero, List.set_cons_succ]))
                  refine wpAnyH_ready (rs := [24]) (by kernel_rfl) (by simp) ?_
                  refine AllReadyH.cons rfl (fun K hK => ?_) AllReadyH.nil
                  have cgN0 := cell_at B_gN 0 rfl
                  have cgN1 := cell_at B_gN 1 rfl
                  have cgN2 := cell_at B_gN 2 rfl
                  have cgN3 := cell_at B_gN 3 rfl
                  have cgN4 := cell_at B_gN 4 rfl
                  have cgN5 := cell_at B_gN 5 rfl
                  have cgN6 := cell_at B_gN 6 rfl
                  have cgN7 := cell_at B_gN 7 rfl
                  have cgN8 := cell_at B_gN 8 rfl
                  have cgN9 := cell_at B_gN 9 rfl
                  have zgN := froz_at B_gN
                  have lgN := hid_lt B_gN
                  go_simp
                  refine k_gen hK (fun y17 hW => ?_)
                  obtain ⟨hB, hf⟩ := setE10 hW B_gN
                  clear hW zgN lgN cgN0 cgN1 cgN2 cgN3 cgN4 cgN5 cgN6 cgN7 cgN8 cgN9
                  have hn := Fp.trans hHeld hf (fun i hi e => by have h1 : i = gN := e; have h2 := R_gN.out; omega)
                  refine ⟨hn, ?_⟩
                  clear hK K hHeld
                  have hHeld := hn
                  clear hn
                  try simp only [Act.put, List.setIfInBounds_toArray, List.set_cons_zero, List.set_cons_succ]
                  replace B_gN := hB
                  clear hB hf
                  refine wpAnyH_done (by kernel_rfl) ?_ _
                  go_wp2_with fail
                  go_meet
                  exact ⟨gN, rfl, B_gN.out, R_gN.out, hHeld⟩
              · go_simp
                refine k_gen hK (fun y18 hW => ?_)
                have hp := new_now hW
                have hB := new_blk hW
                have hGe := Fp.size hHeld
                clear hW
                refine ⟨Fp.trans hHeld hp (fun _ _ h => h.elim), ?_⟩
                replace hHeld := Fp.trans hHeld hp (fun _ _ h => h.elim)
                clear hK K
                try simp only [Act.put, List.setIfInBounds_toArray, List.set_cons_zero, List.set_cons_succ]
                obtain ⟨gN, hgN⟩ : ∃ gN, gN = y5.heap.size := ⟨_, rfl⟩
                have R_gN := Lib.hid (Nat.le_trans hGe (Nat.le_of_eq hgN.symm))
                rw [← hgN] at hB ⊢
                have B_gN := hB
                clear hB hgN hp hGe
                refine wpAnyH_ready (rs := [14]) (by kernel_rfl) (by simp) ?_
                refine AllReadyH.cons rfl (fun K hK => ?_) AllReadyH.nil
                go_simp
                go_at_call 62
                refine (show Calls _ _ _ _ _ from K14.out _).mono ?_
                rintro e y19 ⟨rfl, hp⟩
                have hn := Fp.trans hHeld hp (fun _ _ h => h.elim)
                replace B_gN := hid_blk B_gN hp
                refine k_now hK hn ?_
                clear hK K hp hHeld
                have hHeld := hn
                clear hn
                try simp only [Act.put, List.setIfInBounds_toArray, List.set_cons_zero, List.set_cons_succ]
                refine wpAnyH_ready (rs := [16]) (by kernel_rfl) (by simp) ?_
                refine AllReadyH.cons rfl (fun K hK => ?_) AllReadyH.nil
                go_simp
                go_at_call 62
                refine (show Calls _ _ _ _ _ from K16.out _).mono ?_
                rintro e y20 ⟨rfl, hp⟩
                have hn := Fp.trans hHeld hp (fun _ _ h => h.elim)
                replace B_gN := hid_blk B_gN hp
                refine k_now hK hn ?_
                clear hK K hp hHeld
                have hHeld := hn
                clear hn
                try simp only [Act.put, List.setIfInBounds_toArray, List.set_cons_zero, List.set_cons_succ]
                refine wpAnyH_ready (rs := [18]) (by kernel_rfl) (by simp) ?_
                refine AllReadyH.cons rfl (fun K hK => ?_) AllReadyH.nil
                go_simp
                go_at_call 62
                refine (show Calls _ _ _ _ _ from K18.out _).mono ?_
                rintro e y21 ⟨rfl, hp⟩
                have hn := Fp.trans hHeld hp (fun _ _ h => h.elim)
                replace B_gN := hid_blk B_gN hp
                refine k_now hK hn ?_
                clear hK K hp hHeld
                have hHeld := hn
                clear hn
                try simp only [Act.put, List.setIfInBounds_toArray, List.set_cons_zero, List.set_cons_succ]
                (refine take_at 22 (some 47) rfl rfl (by kernel_rfl) (by kernel_rfl) (by kernel_rfl) (fun _ _ _ h => h) (v := ?_) (by kernel_rfl) ?_ (by assumption) ?_; rotate_left; (focus (intro wS hSw; skip; go_simp; try with_reducible rfl)); (try simp only [Act.put, List.setIfInBounds_toArray, List.set_cons_zero, List.set_cons_succ]))
                refine wpAnyH_ready (rs := [24]) (by kernel_rfl) (by simp) ?_
                refine AllReadyH.cons rfl (fun K hK => ?_) AllReadyH.nil
                have cgN0 := cell_at B_gN 0 rfl
                have cgN1 := cell_at B_gN 1 rfl
                have cgN2 := cell_at B_gN 2 rfl
                have cgN3 := cell_at B_gN 3 rfl
                have cgN4 := cell_at B_gN 4 rfl
                have cgN5 := cell_at B_gN 5 rfl
                have cgN6 := cell_at B_gN 6 rfl
                have cgN7 := cell_at B_gN 7 rfl
                have cgN8 := cell_at B_gN 8 rfl
                have cgN9 := cell_at B_gN 9 rfl
                have zgN := froz_at B_gN
                have lgN := hid_lt B_gN
                go_simp
                refine k_gen hK (fun y22 hW => ?_)
                obtain ⟨hB, hf⟩ := setE10 hW B_gN
                clear hW zgN lgN cgN0 cgN1 cgN2 cgN3 cgN4 cgN5 cgN6 cgN7 cgN8 cgN9
                have hn := Fp.trans hHeld hf (fun i hi e => by have h1 : i = gN := e; have h2 := R_gN.out; omega)
                refine ⟨hn, ?_⟩
                clear hK K hHeld
                have hHeld := hn
                clear hn
                try simp only [Act.put, List.setIfInBounds_toArray, List.set_cons_zero, List.set_cons_succ]
                replace B_gN := hB
                clear hB hf
                refine wpAnyH_done (by kernel_rfl) ?_ _
                go_wp2_with fail
                go_meet
                exact ⟨gN, rfl, B_gN.out, R_gN.out, hHeld⟩
            · go_simp
              refine k_gen hK (fun y23 hW => ?_)
              have hp := new_now hW
              have hB := new_blk hW
              have hGe := Fp.size hHeld
              clear hW
              refine ⟨Fp.trans hHeld hp (fun _ _ h => h.elim), ?_⟩
              replace hHeld := Fp.trans hHeld hp (fun _ _ h => h.elim)
              clear hK K
              try simp only [Act.put, List.setIfInBounds_toArray, List.set_cons_zero, List.set_cons_succ]
              obtain ⟨gN, hgN⟩ : ∃ gN, gN = y4.heap.size := ⟨_, rfl⟩
              have R_gN := Lib.hid (Nat.le_trans hGe (Nat.le_of_eq hgN.symm))
              rw [← hgN] at hB ⊢
              have B_gN := hB
              clear hB hgN hp hGe
              refine wpAnyH_ready (rs := [7]) (by kernel_rfl) (by simp) ?_
              refine AllReadyH.cons rfl (fun K hK => ?_) AllReadyH.nil
              go_simp
              go_at_call 63
              refine (show Calls _ _ _ _ _ from K8.out _).mono ?_
              rintro e y24 ⟨rfl, hp⟩
              have hn := Fp.trans hHeld hp (fun _ _ h => h.elim)
              replace B_gN := hid_blk B_gN hp
              refine k_now hK hn ?_
              clear hK K hp hHeld
              have hHeld := hn
              clear hn
              try simp only [Act.put, List.setIfInBounds_toArray, List.set_cons_zero, List.set_cons_succ]
              refine wpAnyH_ready (rs := [14]) (by kernel_rfl) (by simp) ?_
              refine AllReadyH.cons rfl (fun K hK => ?_) AllReadyH.nil
              go_simp
              go_at_call 62
              refine (show Calls _ _ _ _ _ from K14.out _).mono ?_
              rintro e y25 ⟨rfl, hp⟩
              have hn := Fp.trans hHeld hp (fun _ _ h => h.elim)
              replace B_gN := hid_blk B_gN hp
              refine k_now hK hn ?_
              clear hK K hp hHeld
              have hHeld := hn
              clear hn
              try simp only [Act.put, List.setIfInBounds_toArray, List.set_cons_zero, List.set_cons_succ]
              refine wpAnyH_ready (rs := [16]) (by kernel_rfl) (by simp) ?_
              refine AllReadyH.cons rfl (fun K hK => ?_) AllReadyH.nil
              go_simp
              go_at_call 62
              refine (show Calls _ _ _ _ _ from K16.out _).mono ?_
              rintro e y26 ⟨rfl, hp⟩
              have hn := Fp.trans hHeld hp (fun _ _ h => h.elim)
              replace B_gN := hid_blk B_gN hp
              refine k_now hK hn ?_
              clear hK K hp hHeld
              have hHeld := hn
              clear hn
              try simp only [Act.put, List.setIfInBounds_toArray, List.set_cons_zero, List.set_cons_succ]
              refine wpAnyH_ready (rs := [18]) (by kernel_rfl) (by simp) ?_
              refine AllReadyH.cons rfl (fun K hK => ?_) AllReadyH.nil
              go_simp
              go_at_call 62
              refine (show Calls _ _ _ _ _ from K18.out _).mono ?_
              rintro e y27 ⟨rfl, hp⟩
              have hn := Fp.trans hHeld hp (fun _ _ h => h.elim)
              replace B_gN := hid_blk B_gN hp
              refine k_now hK hn ?_
              clear hK K hp hHeld
              have hHeld := hn
              clear hn
              try simp only [Act.put, List.setIfInBounds_toArray, List.set_cons_zero, List.set_cons_succ]
              (refine take_at 22 (some 47) rfl rfl (by kernel_rfl) (by kernel_rfl) (by kernel_rfl) (fun _ _ _ h => h) (v := ?_) (by kernel_rfl) ?_ (by assumption) ?_; rotate_left; (focus (intro wS hSw; skip; go_simp; try with_reducible rfl)); (try simp only [Act.put, List.setIfInBounds_toArray, List.set_cons_zero, List.set_cons_succ]))
              refine wpAnyH_ready (rs := [24]) (by kernel_rfl) (by simp) ?_
              refine AllReadyH.cons rfl (fun K hK => ?_) AllReadyH.nil
              have cgN0 := cell_at B_gN 0 rfl
              have cgN1 := cell_at B_gN 1 rfl
              have cgN2 := cell_at B_gN 2 rfl
              have cgN3 := cell_at B_gN 3 rfl
              have cgN4 := cell_at B_gN 4 rfl
              have cgN5 := cell_at B_gN 5 rfl
              have cgN6 := cell_at B_gN 6 rfl
              have cgN7 := cell_at B_gN 7 rfl
              have cgN8 := cell_at B_gN 8 rfl
              have cgN9 := cell_at B_gN 9 rfl
              have zgN := froz_at B_gN
              have lgN := hid_lt B_gN
              go_simp
              refine k_gen hK (fun y28 hW => ?_)
              obtain ⟨hB, hf⟩ := setE10 hW B_gN
              clear hW zgN lgN cgN0 cgN1 cgN2 cgN3 cgN4 cgN5 cgN6 cgN7 cgN8 cgN9
              have hn := Fp.trans hHeld hf (fun i hi e => by have h1 : i = gN := e; have h2 := R_gN.out; omega)
              refine ⟨hn, ?_⟩
              clear hK K hHeld
              have hHeld := hn
              clear hn
              try simp only [Act.put, List.setIfInBounds_toArray, List.set_cons_zero, List.set_cons_succ]
              replace B_gN := hB
              clear hB hf
              refine wpAnyH_done (by kernel_rfl) ?_ _
              go_wp2_with fail
              go_meet
              exact ⟨gN, rfl, B_gN.out, R_gN.out, hHeld⟩
          · go_simp
            refine k_gen hK (fun y29 hW => ?_)
            have hp := new_now hW
            have hB := new_blk hW
            have hGe := Fp.size hHeld
            clear hW
            refine ⟨Fp.trans hHeld hp (fun _ _ h => h.elim), ?_⟩
            replace hHeld := Fp.trans hHeld hp (fun _ _ h => h.elim)
            clear hK K
            try simp only [Act.put, List.setIfInBounds_toArray, List.set_cons_zero, List.set_cons_succ]
            obtain ⟨gN, hgN⟩ : ∃ gN, gN = y3.heap.size := ⟨_, rfl⟩
            have R_gN := Lib.hid (Nat.le_trans hGe (Nat.le_of_eq hgN.symm))
            rw [← hgN] at hB ⊢
            have B_gN := hB
            clear hB hgN hp hGe
            refine wpAnyH_ready (rs := [5]) (by kernel_rfl) (by simp) ?_
            refine AllReadyH.cons rfl (fun K hK => ?_) AllReadyH.nil
            go_simp
            go_at_call 63
            refine (show Calls _ _ _ _ _ from K4.out _).mono ?_
            rintro e y30 ⟨rfl, hp⟩
            have hn := Fp.trans hHeld hp (fun _ _ h => h.elim)
            replace B_gN := hid_blk B_gN hp
            refine k_now hK hn ?_
            clear hK K hp hHeld
            have hHeld := hn
            clear hn
            try simp only [Act.put, List.setIfInBounds_toArray, List.set_cons_zero, List.set_cons_succ]
            refine wpAnyH_ready (rs := [7]) (by kernel_rfl) (by simp) ?_
            refine AllReadyH.cons rfl (fun K hK => ?_) AllReadyH.nil
            go_simp
            go_at_call 63
            refine (show Calls _ _ _ _ _ from K8.out _).mono ?_
            rintro e y31 ⟨rfl, hp⟩
            have hn := Fp.trans hHeld hp (fun _ _ h => h.elim)
            replace B_gN := hid_blk B_gN hp
            refine k_now hK hn ?_
            clear hK K hp hHeld
            have hHeld := hn
            clear hn
            try simp only [Act.put, List.setIfInBounds_toArray, List.set_cons_zero, List.set_cons_succ]
            refine wpAnyH_ready (rs := [14]) (by kernel_rfl) (by simp) ?_
            refine AllReadyH.cons rfl (fun K hK => ?_) AllReadyH.nil
            go_simp
            go_at_call 62
            refine (show Calls _ _ _ _ _ from K14.out _).mono ?_
            rintro e y32 ⟨rfl, hp⟩
            have hn := Fp.trans hHeld hp (fun _ _ h => h.elim)
            replace B_gN := hid_blk B_gN hp
            refine k_now hK hn ?_
            clear hK K hp hHeld
            have hHeld := hn
            clear hn
            try simp only [Act.put, List.setIfInBounds_toArray, List.set_cons_zero, List.set_cons_succ]
            refine wpAnyH_ready (rs := [16]) (by kernel_rfl) (by simp) ?_
            refine AllReadyH.cons rfl (fun K hK => ?_) AllReadyH.nil
            go_simp
            go_at_call 62
            refine (show Calls _ _ _ _ _ from K16.out _).mono ?_
            rintro e y33 ⟨rfl, hp⟩
            have hn := Fp.trans hHeld hp (fun _ _ h => h.elim)
            replace B_gN := hid_blk B_gN hp
            refine k_now hK hn ?_
            clear hK K hp hHeld
            have hHeld := hn
            clear hn
            try simp only [Act.put, List.setIfInBounds_toArray, List.set_cons_zero, List.set_cons_succ]
            refine wpAnyH_ready (rs := [18]) (by kernel_rfl) (by simp) ?_
            refine AllReadyH.cons rfl (fun K hK => ?_) AllReadyH.nil
            go_simp
            go_at_call 62
            refine (show Calls _ _ _ _ _ from K18.out _).mono ?_
            rintro e y34 ⟨rfl, hp⟩
            have hn := Fp.trans hHeld hp (fun _ _ h => h.elim)
            replace B_gN := hid_blk B_gN hp
            refine k_now hK hn ?_
            clear hK K hp hHeld
            have hHeld := hn
            clear hn
            try simp only [Act.put, List.setIfInBounds_toArray, List.set_cons_zero, List.set_cons_succ]
            (refine take_at 22 (some 47) rfl rfl (by kernel_rfl) (by kernel_rfl) (by kernel_rfl) (fun _ _ _ h => h) (v := ?_) (by kernel_rfl) ?_ (by assumption) ?_; rotate_left; (focus (intro wS hSw; skip; go_simp; try with_reducible rfl)); (try simp only [Act.put, List.setIfInBounds_toArray, List.set_cons_zero, List.set_cons_succ]))
            refine wpAnyH_ready (rs := [24]) (by kernel_rfl) (by simp) ?_
            refine AllReadyH.cons rfl (fun K hK => ?_) AllReadyH.nil
            have cgN0 := cell_at B_gN 0 rfl
            have cgN1 := cell_at B_gN 1 rfl
            have cgN2 := cell_at B_gN 2 rfl
            have cgN3 := cell_at B_gN 3 rfl
            have cgN4 := cell_at B_gN 4 rfl
            have cgN5 := cell_at B_gN 5 rfl
            have cgN6 := cell_at B_gN 6 rfl
            have cgN7 := cell_at B_gN 7 rfl
            have cgN8 := cell_at B_gN 8 rfl
            have cgN9 := cell_at B_gN 9 rfl
            have zgN := froz_at B_gN
            have lgN := hid_lt B_gN
            go_simp
            refine k_gen hK (fun y35 hW => ?_)
            obtain ⟨hB, hf⟩ := setE10 hW B_gN
            clear hW zgN lgN cgN0 cgN1 cgN2 cgN3 cgN4 cgN5 cgN6 cgN7 cgN8 cgN9
            have hn := Fp.trans hHeld hf (fun i hi e => by have h1 : i = gN := e; have h2 := R_gN.out; omega)
            refine ⟨hn, ?_⟩
            clear hK K hHeld
            have hHeld := hn
            clear hn
            try simp only [Act.put, List.setIfInBounds_toArray, List.set_cons_zero, List.set_cons_succ]
            replace B_gN := hB
            clear hB hf
            refine wpAnyH_done (by kernel_rfl) ?_ _
            go_wp2_with fail
            go_meet
            exact ⟨gN, rfl, B_gN.out, R_gN.out, hHeld⟩
        · go_simp
          refine k_gen hK (fun y36 hW => ?_)
          have hp := new_now hW
          have hB := new_blk hW
          have hGe := Fp.size hHeld
          clear hW
          refine ⟨Fp.trans hHeld hp (fun _ _ h => h.elim), ?_⟩
          replace hHeld := Fp.trans hHeld hp (fun _ _ h => h.elim)
          clear hK K
          try simp only [Act.put, List.setIfInBounds_toArray, List.set_cons_zero, List.set_cons_succ]
          obtain ⟨gN, hgN⟩ : ∃ gN, gN = y2.heap.size := ⟨_, rfl⟩
          have R_gN := Lib.hid (Nat.le_trans hGe (Nat.le_of_eq hgN.symm))
          rw [← hgN] at hB ⊢
          have B_gN := hB
          clear hB hgN hp hGe
          refine wpAnyH_ready (rs := [3]) (by kernel_rfl) (by simp) ?_
          refine AllReadyH.cons rfl (fun K hK => ?_) AllReadyH.nil
          go_simp
          go_at_call 62
          refine (show Calls _ _ _ _ _ from K2.out _).mono ?_
          rintro e y37 ⟨rfl, hp⟩
          have hn := Fp.trans hHeld hp (fun _ _ h => h.elim)
          replace B_gN := hid_blk B_gN hp
          refine k_now hK hn ?_
          clear hK K hp hHeld
          have hHeld := hn
          clear hn
          try simp only [Act.put, List.setIfInBounds_toArray, List.set_cons_zero, List.set_cons_succ]
          refine wpAnyH_ready (rs := [5]) (by kernel_rfl) (by simp) ?_
          refine AllReadyH.cons rfl (fun K hK => ?_) AllReadyH.nil
          go_simp
          go_at_call 63
          refine (show Calls _ _ _ _ _ from K4.out _).mono ?_
          rintro e y38 ⟨rfl, hp⟩
          have hn := Fp.trans hHeld hp (fun _ _ h => h.elim)
          replace B_gN := hid_blk B_gN hp
          refine k_now hK hn ?_
          clear hK K hp hHeld
          have hHeld := hn
          clear hn
          try simp only [Act.put, List.setIfInBounds_toArray, List.set_cons_zero, List.set_cons_succ]
          refine wpAnyH_ready (rs := [7]) (by kernel_rfl) (by simp) ?_
          refine AllReadyH.cons rfl (fun K hK => ?_) AllReadyH.nil
          go_simp
          go_at_call 63
          refine (show Calls _ _ _ _ _ from K8.out _).mono ?_
          rintro e y39 ⟨rfl, hp⟩
          have hn := Fp.trans hHeld hp (fun _ _ h => h.elim)
          replace B_gN := hid_blk B_gN hp
          refine k_now hK hn ?_
          clear hK K hp hHeld
          have hHeld := hn
          clear hn
          try simp only [Act.put, List.setIfInBounds_toArray, List.set_cons_zero, List.set_cons_succ]
          refine wpAnyH_ready (rs := [14]) (by kernel_rfl) (by simp) ?_
          refine AllReadyH.cons rfl (fun K hK => ?_) AllReadyH.nil
          go_simp
          go_at_call 62
          refine (show Calls _ _ _ _ _ from K14.out _).mono ?_
          rintro e y40 ⟨rfl, hp⟩
          have hn := Fp.trans hHeld hp (fun _ _ h => h.elim)
          replace B_gN := hid_blk B_gN hp
          refine k_now hK hn ?_
          clear hK K hp hHeld
          have hHeld := hn
          clear hn
          try simp only [Act.put, List.setIfInBounds_toArray, List.set_cons_zero, List.set_cons_succ]
          refine wpAnyH_ready (rs := [16]) (by kernel_rfl) (by simp) ?_
          refine AllReadyH.cons rfl (fun K hK => ?_) AllReadyH.nil
          go_simp
          go_at_call 62
          refine (show Calls _ _ _ _ _ from K16.out _).mono ?_
          rintro e y41 ⟨rfl, hp⟩
          have hn := Fp.trans hHeld hp (fun _ _ h => h.elim)
          replace B_gN := hid_blk B_gN hp
          refine k_now hK hn ?_
          clear hK K hp hHeld
          have hHeld := hn
          clear hn
          try simp only [Act.put, List.setIfInBounds_toArray, List.set_cons_zero, List.set_cons_succ]
          refine wpAnyH_ready (rs := [18]) (by kernel_rfl) (by simp) ?_
          refine AllReadyH.cons rfl (fun K hK => ?_) AllReadyH.nil
          go_simp
          go_at_call 62
          refine (show Calls _ _ _ _ _ from K18.out _).mono ?_
          rintro e y42 ⟨rfl, hp⟩
          have hn := Fp.trans hHeld hp (fun _ _ h => h.elim)
          replace B_gN := hid_blk B_gN hp
          refine k_now hK hn ?_
          clear hK K hp hHeld
          have hHeld := hn
          clear hn
          try simp only [Act.put, List.setIfInBounds_toArray, List.set_cons_zero, List.set_cons_succ]
          (refine take_at 22 (some 47) rfl rfl (by kernel_rfl) (by kernel_rfl) (by kernel_rfl) (fun _ _ _ h => h) (v := ?_) (by kernel_rfl) ?_ (by assumption) ?_; rotate_left; (focus (intro wS hSw; skip; go_simp; try with_reducible rfl)); (try simp only [Act.put, List.setIfInBounds_toArray, List.set_cons_zero, List.set_cons_succ]))
          refine wpAnyH_ready (rs := [24]) (by kernel_rfl) (by simp) ?_
          refine AllReadyH.cons rfl (fun K hK => ?_) AllReadyH.nil
          have cgN0 := cell_at B_gN 0 rfl
          have cgN1 := cell_at B_gN 1 rfl
          have cgN2 := cell_at B_gN 2 rfl
          have cgN3 := cell_at B_gN 3 rfl
          have cgN4 := cell_at B_gN 4 rfl
          have cgN5 := cell_at B_gN 5 rfl
          have cgN6 := cell_at B_gN 6 rfl
          have cgN7 := cell_at B_gN 7 rfl
          have cgN8 := cell_at B_gN 8 rfl
          have cgN9 := cell_at B_gN 9 rfl
          have zgN := froz_at B_gN
          have lgN := hid_lt B_gN
          go_simp
          refine k_gen hK (fun y43 hW => ?_)
          obtain ⟨hB, hf⟩ := setE10 hW B_gN
          clear hW zgN lgN cgN0 cgN1 cgN2 cgN3 cgN4 cgN5 cgN6 cgN7 cgN8 cgN9
          have hn := Fp.trans hHeld hf (fun i hi e => by have h1 : i = gN := e; have h2 := R_gN.out; omega)
          refine ⟨hn, ?_⟩
          clear hK K hHeld
          have hHeld := hn
          clear hn
          try simp only [Act.put, List.setIfInBounds_toArray, List.set_cons_zero, List.set_cons_succ]
          replace B_gN := hB
          clear hB hf
          refine wpAnyH_done (by kernel_rfl) ?_ _
          go_wp2_with fail
          go_meet
          exact ⟨gN, rfl, B_gN.out, R_gN.out, hHeld⟩
      · go_simp
        refine k_gen hK (fun y44 hW => ?_)
        have hp := new_now hW
        have hB := new_blk hW
        have hGe := Fp.size hHeld
        clear hW
        refine ⟨Fp.trans hHeld hp (fun _ _ h => h.elim), ?_⟩
        replace hHeld := Fp.trans hHeld hp (fun _ _ h => h.elim)
        clear hK K
        try simp only [Act.put, List.setIfInBounds_toArray, List.set_cons_zero, List.set_cons_succ]
        obtain ⟨gN, hgN⟩ : ∃ gN, gN = y1.heap.size := ⟨_, rfl⟩
        have R_gN := Lib.hid (Nat.le_trans hGe (Nat.le_of_eq hgN.symm))
        rw [← hgN] at hB ⊢
        have B_gN := hB
        clear hB hgN hp hGe
        refine wpAnyH_ready (rs := [1]) (by kernel_rfl) (by simp) ?_
        refine AllReadyH.cons rfl (fun K hK => ?_) AllReadyH.nil
        go_simp
        go_at_call 62
        refine (show Calls _ _ _ _ _ from K0.out _).mono ?_
        rintro e y45 ⟨rfl, hp⟩
        have hn := Fp.trans hHeld hp (fun _ _ h => h.elim)
        replace B_gN := hid_blk B_gN hp
        refine k_now hK hn ?_
        clear hK K hp hHeld
        have hHeld := hn
        clear hn
        try simp only [Act.put, List.setIfInBounds_toArray, List.set_cons_zero, List.set_cons_succ]
        refine wpAnyH_ready (rs := [3]) (by kernel_rfl) (by simp) ?_
        refine AllReadyH.cons rfl (fun K hK => ?_) AllReadyH.nil
        go_simp
        go_at_call 62
        refine (show Calls _ _ _ _ _ from K2.out _).mono ?_
        rintro e y46 ⟨rfl, hp⟩
        have hn := Fp.trans hHeld hp (fun _ _ h => h.elim)
        replace B_gN := hid_blk B_gN hp
        refine k_now hK hn ?_
        clear hK K hp hHeld
        have hHeld := hn
        clear hn
        try simp only [Act.put, List.setIfInBounds_toArray, List.set_cons_zero, List.set_cons_succ]
        refine wpAnyH_ready (rs := [5]) (by kernel_rfl) (by simp) ?_
        refine AllReadyH.cons rfl (fun K hK => ?_) AllReadyH.nil
        go_simp
        go_at_call 63
        refine (show Calls _ _ _ _ _ from K4.out _).mono ?_
        rintro e y47 ⟨rfl, hp⟩
        have hn := Fp.trans hHeld hp (fun _ _ h => h.elim)
        replace B_gN := hid_blk B_gN hp
        refine k_now hK hn ?_
        clear hK K hp hHeld
        have hHeld := hn
        clear hn
        try simp only [Act.put, List.setIfInBounds_toArray, List.set_cons_zero, List.set_cons_succ]
        refine wpAnyH_ready (rs := [7]) (by kernel_rfl) (by simp) ?_
        refine AllReadyH.cons rfl (fun K hK => ?_) AllReadyH.nil
        go_simp
        go_at_call 63
        refine (show Calls _ _ _ _ _ from K8.out _).mono ?_
        rintro e y48 ⟨rfl, hp⟩
        have hn := Fp.trans hHeld hp (fun _ _ h => h.elim)
        replace B_gN := hid_blk B_gN hp
        refine k_now hK hn ?_
        clear hK K hp hHeld
        have hHeld := hn
        clear hn
        try simp only [Act.put, List.setIfInBounds_toArray, List.set_cons_zero, List.set_cons_succ]
        refine wpAnyH_ready (rs := [14]) (by kernel_rfl) (by simp) ?_
        refine AllReadyH.cons rfl (fun K hK => ?_) AllReadyH.nil
        go_simp
        go_at_call 62
        refine (show Calls _ _ _ _ _ from K14.out _).mono ?_
        rintro e y49 ⟨rfl, hp⟩
        have hn := Fp.trans hHeld hp (fun _ _ h => h.elim)
        replace B_gN := hid_blk B_gN hp
        refine k_now hK hn ?_
        clear hK K hp hHeld
        have hHeld := hn
        clear hn
        try simp only [Act.put, List.setIfInBounds_toArray, List.set_cons_zero, List.set_cons_succ]
        refine wpAnyH_ready (rs := [16]) (by kernel_rfl) (by simp) ?_
        refine AllReadyH.cons rfl (fun K hK => ?_) AllReadyH.nil
        go_simp
        go_at_call 62
        refine (show Calls _ _ _ _ _ from K16.out _).mono ?_
        rintro e y50 ⟨rfl, hp⟩
        have hn := Fp.trans hHeld hp (fun _ _ h => h.elim)
        replace B_gN := hid_blk B_gN hp
        refine k_now hK hn ?_
        clear hK K hp hHeld
        have hHeld := hn
        clear hn
        try simp only [Act.put, List.setIfInBounds_toArray, List.set_cons_zero, List.set_cons_succ]
        refine wpAnyH_ready (rs := [18]) (by kernel_rfl) (by simp) ?_
        refine AllReadyH.cons rfl (fun K hK => ?_) AllReadyH.nil
        go_simp
        go_at_call 62
        refine (show Calls _ _ _ _ _ from K18.out _).mono ?_
        rintro e y51 ⟨rfl, hp⟩
        have hn := Fp.trans hHeld hp (fun _ _ h => h.elim)
        replace B_gN := hid_blk B_gN hp
        refine k_now hK hn ?_
        clear hK K hp hHeld
        have hHeld := hn
        clear hn
        try simp only [Act.put, List.setIfInBounds_toArray, List.set_cons_zero, List.set_cons_succ]
        (refine take_at 22 (some 47) rfl rfl (by kernel_rfl) (by kernel_rfl) (by kernel_rfl) (fun _ _ _ h => h) (v := ?_) (by kernel_rfl) ?_ (by assumption) ?_; rotate_left; (focus (intro wS hSw; skip; go_simp; try with_reducible rfl)); (try simp only [Act.put, List.setIfInBounds_toArray, List.set_cons_zero, List.set_cons_succ]))
        refine wpAnyH_ready (rs := [24]) (by kernel_rfl) (by simp) ?_
        refine AllReadyH.cons rfl (fun K hK => ?_) AllReadyH.nil
        have cgN0 := cell_at B_gN 0 rfl
        have cgN1 := cell_at B_gN 1 rfl
        have cgN2 := cell_at B_gN 2 rfl
        have cgN3 := cell_at B_gN 3 rfl
        have cgN4 := cell_at B_gN 4 rfl
        have cgN5 := cell_at B_gN 5 rfl
        have cgN6 := cell_at B_gN 6 rfl
        have cgN7 := cell_at B_gN 7 rfl
        have cgN8 := cell_at B_gN 8 rfl
        have cgN9 := cell_at B_gN 9 rfl
        have zgN := froz_at B_gN
        have lgN := hid_lt B_gN
        go_simp
        refine k_gen hK (fun y52 hW => ?_)
        obtain ⟨hB, hf⟩ := setE10 hW B_gN
        clear hW zgN lgN cgN0 cgN1 cgN2 cgN3 cgN4 cgN5 cgN6 cgN7 cgN8 cgN9
        have hn := Fp.trans hHeld hf (fun i hi e => by have h1 : i = gN := e; have h2 := R_gN.out; omega)
        refine ⟨hn, ?_⟩
        clear hK K hHeld
        have hHeld := hn
        clear hn
        try simp only [Act.put, List.setIfInBounds_toArray, List.set_cons_zero, List.set_cons_succ]
        replace B_gN := hB
        clear hB hf
        refine wpAnyH_done (by kernel_rfl) ?_ _
        go_wp2_with fail
        go_meet
        exact ⟨gN, rfl, B_gN.out, R_gN.out, hHeld⟩
  case rest =>
    obtain ⟨g6, rfl, hb8, hg8, hn8⟩ := hcut
    generalize wc = w3 at *
    have n_g6_gR : ¬ g6 = gR := by have h1 := hid_lt B_gR; omega
    have n_gR_g6 : ¬ gR = g6 := by omega
    replace HN := hid_now HN hn8
    replace B_gR := hid_blk B_gR hn8
    have B_g6 := Lib.hid hb8
    clear hb8 hn8 hg8
    clear K0 K2 K4 K8 K14 K16 K18 x12 x13
    have cg60 := cell_at B_g6 0 rfl
    have cg61 := cell_at B_g6 1 rfl
    have cg62 := cell_at B_g6 2 rfl
    have cg63 := cell_at B_g6 3 rfl
    have cg64 := cell_at B_g6 4 rfl
    have cg65 := cell_at B_g6 5 rfl
    have cg66 := cell_at B_g6 6 rfl
    have cg67 := cell_at B_g6 7 rfl
    have cg68 := cell_at B_g6 8 rfl
    have cg69 := cell_at B_g6 9 rfl
    have zg6 := froz_at B_g6
    have lg6 := hid_lt B_g6
    go_upto_region 7 with fail
    refine wp_region_held_drew (S := fun wx => Fp (fun b => b = gR) w3 wx) (by kernel_rfl) (Fp.drew (Fp.refl _ _)) (fun hHeld0 => ?_)
    refine any_eq hHeld0 (fun z2 hW hHeld => ?_)
    clear hHeld0
    replace B_gR := hid_blk B_gR (noW_drew hW)
    replace B_g6 := hid_blk B_g6 (noW_drew hW)
    clear hW
    (refine take_at 0 (some 48) rfl rfl (by kernel_rfl) (by kernel_rfl) (by kernel_rfl) (fun _ _ _ h => h) (v := ?_) (by kernel_rfl) ?_ (by assumption) ?_; rotate_left; (focus (intro wS hSw; have hX := fun b o h hn => hSw.cell (p := ⟨b, o, none⟩) h hn; go_simp; try with_reducible rfl)); (try simp only [Act.put, List.setIfInBounds_toArray, List.set_cons_zero, List.set_cons_succ]))
    (refine take_at 1 (some 49) rfl rfl (by kernel_rfl) (by kernel_rfl) (by kernel_rfl) (fun _ _ _ h => h) (v := ?_) (by kernel_rfl) ?_ (by assumption) ?_; rotate_left; (focus (intro wS hSw; skip; go_simp; try with_reducible rfl)); (try simp only [Act.put, List.setIfInBounds_toArray, List.set_cons_zero, List.set_cons_succ]))
    (refine take_at 2 (some 50) rfl rfl (by kernel_rfl) (by kernel_rfl) (by kernel_rfl) (fun _ _ _ h => h) (v := ?_) (by kernel_rfl) ?_ (by assumption) ?_; rotate_left; (focus (intro wS hSw; skip; go_simp; try with_reducible rfl)); (try simp only [Act.put, List.setIfInBounds_toArray, List.set_cons_zero, List.set_cons_succ]))
    (refine take_at 3 (some 51) rfl rfl (by kernel_rfl) (by kernel_rfl) (by kernel_rfl) (fun _ _ _ h => h) (v := ?_) (by kernel_rfl) ?_ (by assumption) ?_; rotate_left; (focus (intro wS hSw; skip; go_simp; try with_reducible rfl)); (try simp only [Act.put, List.setIfInBounds_toArray, List.set_cons_zero, List.set_cons_succ]))
    refine wpAnyH_ready (rs := [4]) (by kernel_rfl) (by simp) ?_
    refine AllReadyH.cons rfl (fun K hK => ?_) AllReadyH.nil
    have cgR0 := cell_at B_gR 0 rfl
    have cgR1 := cell_at B_gR 1 rfl
    have cgR2 := cell_at B_gR 2 rfl
    have cgR3 := cell_at B_gR 3 rfl
    have cgR4 := cell_at B_gR 4 rfl
    have cgR5 := cell_at B_gR 5 rfl
    have cgR6 := cell_at B_gR 6 rfl
    have cgR7 := cell_at B_gR 7 rfl
    have cgR8 := cell_at B_gR 8 rfl
    have cgR9 := cell_at B_gR 9 rfl
    have zgR := froz_at B_gR
    have lgR := hid_lt B_gR
    go_simp
    refine k_gen hK (fun z3 hW => ?_)
    obtain ⟨hB, hf⟩ := setE10 hW B_gR
    clear hW zgR lgR cgR0 cgR1 cgR2 cgR3 cgR4 cgR5 cgR6 cgR7 cgR8 cgR9
    have hn := Fp.trans hHeld hf (fun i _ e => e)
    refine ⟨hn, ?_⟩
    clear hK K hHeld
    have hHeld := hn
    clear hn
    try simp only [Act.put, List.setIfInBounds_toArray, List.set_cons_zero, List.set_cons_succ]
    replace B_g6 := hid_blkS B_g6 hf n_g6_gR
    replace B_gR := hB
    clear hB hf
    (refine take_at 5 (some 3) rfl rfl (by kernel_rfl) (by kernel_rfl) (by kernel_rfl) (fun _ _ _ h => h) (v := ?_) (by kernel_rfl) ?_ (by assumption) ?_; rotate_left; (focus (intro wS hSw; skip; go_simp; try with_reducible rfl)); (try simp only [Act.put, List.setIfInBounds_toArray, List.set_cons_zero, List.set_cons_succ]))
    (refine take_at 6 (some 4) rfl rfl (by kernel_rfl) (by kernel_rfl) (by kernel_rfl) (fun _ _ _ h => h) (v := ?_) (by kernel_rfl) ?_ (by assumption) ?_; rotate_left; (focus (intro wS hSw; skip; go_simp; try with_reducible rfl)); (try simp only [Act.put, List.setIfInBounds_toArray, List.set_cons_zero, List.set_cons_succ]))
    refine wpAnyH_done (by kernel_rfl) ?_ _
    clear cg60 cg61 cg62 cg63 cg64 cg65 cg66 cg67 cg68 cg69 zg6 lg6
    have hGe := hid_ge HN
    replace HN := hid_own HN hHeld (fun i hi e => by have h1 : i = gR := e; have h2 := G_gR.out; omega)
    clear hHeld hGe
    go_wp2_with fail
    have cgR0 := cell_at B_gR 0 rfl
    have cgR1 := cell_at B_gR 1 rfl
    have cgR2 := cell_at B_gR 2 rfl
    have cgR3 := cell_at B_gR 3 rfl
    have cgR4 := cell_at B_gR 4 rfl
    have cgR5 := cell_at B_gR 5 rfl
    have cgR6 := cell_at B_gR 6 rfl
    have cgR7 := cell_at B_gR 7 rfl
    have cgR8 := cell_at B_gR 8 rfl
    have cgR9 := cell_at B_gR 9 rfl
    have zgR := froz_at B_gR
    have lgR := hid_lt B_gR
    refine bodyPost_ret (v := .tuple #[.agg #[.int .u16 (g16 l 0 : Nat), .int .u16 (g16 l 2 : Nat), .int .u32 (g32 l 4 : Nat), .int .u32 (g32 l 8 : Nat), .int .u8 (m : Nat), .int .u8 (byt l 13 : Nat), .int .u16 (g16 l 14 : Nat), .int .u16 (g16 l 16 : Nat), .int .u16 (g16 l 18 : Nat), str ((l.take own).drop 20)], str (l.drop own), .bool true]) (by simp only [results, Tryz.results29]; go_simp) rfl ⟨rfl, HN.out⟩
theorem r06_parse (l : List UInt8) (hl : l.length ≤ 1000000) (w : World) : Calls Tryz.prog 29 #[str l] w (Ret1 (tcV l) w) := by
  by_cases h : 20 ≤ l.length
  · by_cases h2 : 20 ≤ byt l 12 / 16 * 4 ∧ byt l 12 / 16 * 4 ≤ l.length
    · rw [show tcV l = .tuple #[.agg #[.int .u16 (g16 l 0 : Nat), .int .u16 (g16 l 2 : Nat), .int .u32 (g32 l 4 : Nat), .int .u32 (g32 l 8 : Nat), .int .u8 (byt l 12 % 16 : Nat), .int .u8 (byt l 13 : Nat), .int .u16 (g16 l 14 : Nat), .int .u16 (g16 l 16 : Nat), .int .u16 (g16 l 18 : Nat), str ((l.take (byt l 12 / 16 * 4)).drop 20)], str (l.drop (byt l 12 / 16 * 4)), .bool true] from if_pos (decide_eq_true ⟨h, h2.1, h2.2⟩)]
      exact r06_good l _ _ _ rfl rfl h hl rfl h2.1 h2.2 w
    · rw [show tcV l = .tuple #[tcZ, str [], .bool false] from if_neg (by unfold tcpOk; rw [decide_eq_true_eq]; exact fun k => h2 k.2)]
      exact r06_bad l _ _ rfl h hl rfl (by omega) w
  · rw [show tcV l = .tuple #[tcZ, str [], .bool false] from if_neg (by unfold tcpOk; rw [decide_eq_true_eq]; exact fun k => h k.1)]
    exact r06_short l (by omega) w
end Go.Proofs.YtmghjaoodnkjlaaGreatDoor
