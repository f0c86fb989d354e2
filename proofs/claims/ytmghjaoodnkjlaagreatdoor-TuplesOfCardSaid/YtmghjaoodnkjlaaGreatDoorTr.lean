/- Chapter 08: the document's readings of packets (written by gen8r.py). -/
import Derived.Test.YtmghjaoodnkjlaaGreatDoorTl
import Derived.Test.YtmghjaoodnkjlaaGreatDoorTm
import Derived.Test.YtmghjaoodnkjlaaGreatDoorBase
import Derived.Test.YtmghjaoodnkjlaaGreatDoorTk
namespace Go.Proofs.YtmghjaoodnkjlaaGreatDoor
set_option linter.unusedVariables false
set_option linter.unusedSimpArgs false
open Go.RowKit Go.Lib Go.Sort
theorem r04_number (l : List UInt8) (i : Nat) (hl : l.length ≤ 1000000) (hi : i ≤ 800000) (w : World) : Calls Tryz.prog 59 #[str l, .int .i64 i] w (Ret1 (.int .i64 (g16 l i : Nat)) w) := by
  have K := r01_get16 l i hl hi w
  have hlt := g16_lt l i
  have c0 : IntKind.i64.wrap ((g16 l i : Nat) : Int) = ((g16 l i : Nat) : Int) := IntWalk.i64_in _ (by have := g16_lt l i; omega)
  generalize g16 l i = v at *
  go_enter Tryz.func59, Tryz.ntmps59
  go_wp2_with fail
  refine K.mono ?_
  rintro e w1 ⟨rfl, rfl⟩
  go_wp2_with fail
  go_ret
  exact ⟨rfl, Fp.refl _ _⟩
theorem r04_addr (l : List UInt8) (i : Nat) (hl : l.length ≤ 1000000) (hi : i ≤ 800000) (w : World) : Calls Tryz.prog 61 #[str l, .int .i64 i] w (Ret1 (.int .u32 (g32 l i : Nat)) w) := by
  have K := r01_get32 l i hl hi w
  have hlt := g32_lt l i
  generalize g32 l i = v at *
  go_enter Tryz.func61, Tryz.ntmps61
  go_wp2_with fail
  refine K.mono ?_
  rintro e w1 ⟨rfl, rfl⟩
  go_wp2_with fail
  go_ret
  exact ⟨rfl, Fp.refl _ _⟩
theorem r05_word (l : List UInt8) (i : Nat) (hl : l.length ≤ 1000000) (hi : i ≤ 800000) (w : World) : Calls Tryz.prog 64 #[str l, .int .i64 i] w (Ret1 (.int .u16 (g16 l i : Nat)) w) := by
  have K := r01_get16 l i hl hi w
  have hlt := g16_lt l i
  generalize g16 l i = v at *
  go_enter Tryz.func64, Tryz.ntmps64
  go_wp2_with fail
  refine K.mono ?_
  rintro e w1 ⟨rfl, rfl⟩
  go_wp2_with fail
  go_ret
  exact ⟨rfl, Fp.refl _ _⟩
theorem r06_two (l : List UInt8) (i : Nat) (hl : l.length ≤ 1000000) (hi : i ≤ 800000) (w : World) : Calls Tryz.prog 62 #[str l, .int .i64 i] w (Ret1 (.int .u16 (g16 l i : Nat)) w) := by
  have K := r01_get16 l i hl hi w
  have hlt := g16_lt l i
  generalize g16 l i = v at *
  go_enter Tryz.func62, Tryz.ntmps62
  go_wp2_with fail
  refine K.mono ?_
  rintro e w1 ⟨rfl, rfl⟩
  go_wp2_with fail
  go_ret
  exact ⟨rfl, Fp.refl _ _⟩
theorem r06_four (l : List UInt8) (i : Nat) (hl : l.length ≤ 1000000) (hi : i ≤ 800000) (w : World) : Calls Tryz.prog 63 #[str l, .int .i64 i] w (Ret1 (.int .u32 (g32 l i : Nat)) w) := by
  have K := r01_get32 l i hl hi w
  have hlt := g32_lt l i
  generalize g32 l i = v at *
  go_enter Tryz.func63, Tryz.ntmps63
  go_wp2_with fail
  refine K.mono ?_
  rintro e w1 ⟨rfl, rfl⟩
  go_wp2_with fail
  go_ret
  exact ⟨rfl, Fp.refl _ _⟩
theorem r02_holds (g c : Nat) (ls : List (List UInt8)) (hw : ∀ x, x ∈ ls → x.length ≤ 600000) (hl : ls.length ≤ 100) (w : World) {T : TypeId} {fr : Nat × Nat} (hb : w.heap[g]? = some (.cells (ls.map str).toArray T fr)) :
    Calls Tryz.prog 60 #[.slice (some ⟨g, 0, none⟩) ls.length c] w (Ret1 (.bool (decide (csum ls = 0))) w) := by
  have K := sumB_ok g c ls hw hl w hb
  have hc : csum ls < 65536 := by unfold csum; omega
  have hd : ((csum ls : Int) == 0) = decide (csum ls = 0) := by
    by_cases h : csum ls = 0
    · rw [h]; rfl
    · rw [decide_eq_false h]; exact beq_eq_false_iff_ne.2 (by omega)
  generalize decide (csum ls = 0) = B at *
  generalize csum ls = v at *
  go_enter Tryz.func60, Tryz.ntmps60
  go_wp2_with fail
  refine K.mono ?_
  rintro e w1 ⟨rfl, rfl⟩
  go_wp2_with fail
  go_ret
  exact ⟨rfl, Fp.refl _ _⟩
theorem r04_short (l : List UInt8) (h : l.length < 20) (w : World) : Calls Tryz.prog 28 #[str l] w (Ret1 (.tuple #[ipZ, str [], .int .i64 1]) w) := by
  go_enter Tryz.func28, Tryz.ntmps28
  go_wp2_with fail
  refine bodyPost_ret (v := .tuple #[ipZ, str [], .int .i64 1]) (by simp only [results, Tryz.results28, ipZ]; go_simp) rfl ⟨rfl, (Fp.refl _ _).alloc _⟩
theorem r04_ver (l : List UInt8) (h : 20 ≤ l.length) (hv : byt l 0 / 16 ≠ 4) (w : World) : Calls Tryz.prog 28 #[str l] w (Ret1 (.tuple #[ipZ, str [], .int .i64 2]) w) := by
  have x0 := run_byte l (i := 0) (z := 0) rfl (by omega)
  have b0 := byt_lt l 0
  generalize byt l 0 = a at *
  have c0 : (a : Int) / 16 = ((a / 16 : Nat) : Int) := by omega
  generalize a / 16 = q at *
  have c1 : ((q : Int) != 4) = true := by simp [bne]; omega
  go_enter Tryz.func28, Tryz.ntmps28
  go_wp2_with fail
  refine bodyPost_ret (v := .tuple #[ipZ, str [], .int .i64 2]) (by simp only [results, Tryz.results28, ipZ]; go_simp) rfl ⟨rfl, (Fp.refl _ _).alloc _⟩
set_option maxHeartbeats 2000000 in
set_option maxRecDepth 100000 in
theorem r04_len (l : List UInt8) (own all a : Nat) (ha0 : byt l 0 = a) (h : 20 ≤ l.length) (hl : l.length ≤ 1000000) (hv : a / 16 = 4) (ho : a % 16 * 4 = own) (ha : g16 l 2 = all) (hb : ¬ (20 ≤ own ∧ own ≤ all ∧ all ≤ l.length ∧ all ≤ 2048)) (w : World) : Calls Tryz.prog 28 #[str l] w (Ret1 (.tuple #[ipZ, str [], .int .i64 3]) w) := by
  have x0 := run_byte l (i := 0) (z := 0) rfl (by omega)
  have b0 := byt_lt l 0
  have bA := g16_lt l 2
  have KN := Lib.hid (fun W => r04_number l 2 hl (by omega) W)
  rw [ha0] at x0 b0
  rw [ha] at KN bA
  have ca : (a : Int) / 16 = 4 := by omega
  obtain ⟨m, hm⟩ : ∃ m, m = a % 16 := ⟨_, rfl⟩
  have c0 : (a : Int) % 16 = (m : Int) := by omega
  have c0' : (a : Int).tmod 16 = (m : Int) := by rw [Int.tmod_eq_emod_of_nonneg (by omega)]; omega
  have c1 : IntKind.i64.wrap (m : Int) = (m : Int) := IntWalk.i64_in _ (by omega)
  have c2 : IntKind.i64.wrap ((m : Int) * 4) = (own : Int) := (IntWalk.i64_in _ (by omega)).trans (by omega)
  have c2' : ((m : Int) * 4) = (own : Int) := by omega
  have ho60 : own ≤ 60 := by omega
  clear hm
  have HD := Lib.hid hb
  clear hb
  go_enter Tryz.func28, Tryz.ntmps28
  go_upto_region 5 with fail
  have HN := Lib.hid (Fp.refl (fun _ => False) w)
  refine wp_gen (fun x1 hW => ?_)
  have hp := new_now hW
  have hB := new_blk hW
  clear hW
  have hGe := hid_ge HN
  replace HN := hid_now HN hp
  obtain ⟨gR, hgR⟩ : ∃ gR, gR = w.heap.size := ⟨_, rfl⟩
  have G_gR := Lib.hid (Nat.le_trans hGe (Nat.le_of_eq hgR.symm))
  rw [← hgR] at hB ⊢
  have B_gR := hB
  clear hB hGe hgR
  clear hp
  (refine wp_region_quiet_below (by kernel_rfl) (by kernel_rfl) ?_; (repeat (quiet_step (exact low_call _ (fun W _ => KN.out W) _ _))); refine wpQuiet_nil ?_; intro wq hw'; have hlow := low_of hw'; clear hw')
  skip
  replace HN := hid_now HN hlow
  replace B_gR := hid_blk B_gR hlow
  clear hlow KN
  by_cases e0 : own < 20
  · have d0 : decide ((own : Int) < 20) = true := decide_eq_true (by omega)
    clear h HD
    have cgR0 := cell_at B_gR 0 rfl
    have cgR1 := cell_at B_gR 1 rfl
    have cgR2 := cell_at B_gR 2 rfl
    have cgR3 := cell_at B_gR 3 rfl
    have cgR4 := cell_at B_gR 4 rfl
    have cgR5 := cell_at B_gR 5 rfl
    have cgR6 := cell_at B_gR 6 rfl
    have cgR7 := cell_at B_gR 7 rfl
    have zgR := froz_at B_gR
    have lgR := hid_lt B_gR
    go_wp2_with fail
    refine post_gen (fun W hW => ?_)
    obtain ⟨hB, hf⟩ := setE8 hW B_gR
    replace HN := hid_own HN hf (fun i hi e => by have h1 : i = gR := e; have h2 := G_gR.out; omega)
    clear hW hf cgR0 cgR1 cgR2 cgR3 cgR4 cgR5 cgR6 cgR7 zgR lgR
    replace B_gR := hB
    clear hB
    have cgR0 := cell_at B_gR 0 rfl
    have cgR1 := cell_at B_gR 1 rfl
    have cgR2 := cell_at B_gR 2 rfl
    have cgR3 := cell_at B_gR 3 rfl
    have cgR4 := cell_at B_gR 4 rfl
    have cgR5 := cell_at B_gR 5 rfl
    have cgR6 := cell_at B_gR 6 rfl
    have cgR7 := cell_at B_gR 7 rfl
    have zgR := froz_at B_gR
    have lgR := hid_lt B_gR
    refine bodyPost_ret (v := .tuple #[ipZ, str [], .int .i64 3]) (by simp only [results, Tryz.results28, ipZ]; go_simp) rfl ⟨rfl, HN.out⟩
  by_cases e1 : l.length < own
  · have d0 : decide ((own : Int) < 20) = false := decide_eq_false (by omega)
    have d1 : decide ((l.length : Int) < (own : Int)) = true := decide_eq_true (by omega)
    clear h HD
    have cgR0 := cell_at B_gR 0 rfl
    have cgR1 := cell_at B_gR 1 rfl
    have cgR2 := cell_at B_gR 2 rfl
    have cgR3 := cell_at B_gR 3 rfl
    have cgR4 := cell_at B_gR 4 rfl
    have cgR5 := cell_at B_gR 5 rfl
    have cgR6 := cell_at B_gR 6 rfl
    have cgR7 := cell_at B_gR 7 rfl
    have zgR := froz_at B_gR
    have lgR := hid_lt B_gR
    go_wp2_with fail
    refine post_gen (fun W hW => ?_)
    obtain ⟨hB, hf⟩ := setE8 hW B_gR
    replace HN := hid_own HN hf (fun i hi e => by have h1 : i = gR := e; have h2 := G_gR.out; omega)
    clear hW hf cgR0 cgR1 cgR2 cgR3 cgR4 cgR5 cgR6 cgR7 zgR lgR
    replace B_gR := hB
    clear hB
    have cgR0 := cell_at B_gR 0 rfl
    have cgR1 := cell_at B_gR 1 rfl
    have cgR2 := cell_at B_gR 2 rfl
    have cgR3 := cell_at B_gR 3 rfl
    have cgR4 := cell_at B_gR 4 rfl
    have cgR5 := cell_at B_gR 5 rfl
    have cgR6 := cell_at B_gR 6 rfl
    have cgR7 := cell_at B_gR 7 rfl
    have zgR := froz_at B_gR
    have lgR := hid_lt B_gR
    refine bodyPost_ret (v := .tuple #[ipZ, str [], .int .i64 3]) (by simp only [results, Tryz.results28, ipZ]; go_simp) rfl ⟨rfl, HN.out⟩
  by_cases e2 : all < own
  · have d0 : decide ((own : Int) < 20) = false := decide_eq_false (by omega)
    have d1 : decide ((l.length : Int) < (own : Int)) = false := decide_eq_false (by omega)
    have d2 : decide ((all : Int) < (own : Int)) = true := decide_eq_true (by omega)
    clear h HD
    have cgR0 := cell_at B_gR 0 rfl
    have cgR1 := cell_at B_gR 1 rfl
    have cgR2 := cell_at B_gR 2 rfl
    have cgR3 := cell_at B_gR 3 rfl
    have cgR4 := cell_at B_gR 4 rfl
    have cgR5 := cell_at B_gR 5 rfl
    have cgR6 := cell_at B_gR 6 rfl
    have cgR7 := cell_at B_gR 7 rfl
    have zgR := froz_at B_gR
    have lgR := hid_lt B_gR
    go_wp2_with fail
    refine post_gen (fun W hW => ?_)
    obtain ⟨hB, hf⟩ := setE8 hW B_gR
    replace HN := hid_own HN hf (fun i hi e => by have h1 : i = gR := e; have h2 := G_gR.out; omega)
    clear hW hf cgR0 cgR1 cgR2 cgR3 cgR4 cgR5 cgR6 cgR7 zgR lgR
    replace B_gR := hB
    clear hB
    have cgR0 := cell_at B_gR 0 rfl
    have cgR1 := cell_at B_gR 1 rfl
    have cgR2 := cell_at B_gR 2 rfl
    have cgR3 := cell_at B_gR 3 rfl
    have cgR4 := cell_at B_gR 4 rfl
    have cgR5 := cell_at B_gR 5 rfl
    have cgR6 := cell_at B_gR 6 rfl
    have cgR7 := cell_at B_gR 7 rfl
    have zgR := froz_at B_gR
    have lgR := hid_lt B_gR
    refine bodyPost_ret (v := .tuple #[ipZ, str [], .int .i64 3]) (by simp only [results, Tryz.results28, ipZ]; go_simp) rfl ⟨rfl, HN.out⟩
  by_cases e3 : l.length < all
  · have d0 : decide ((own : Int) < 20) = false := decide_eq_false (by omega)
    have d1 : decide ((l.length : Int) < (own : Int)) = false := decide_eq_false (by omega)
    have d2 : decide ((all : Int) < (own : Int)) = false := decide_eq_false (by omega)
    have d3 : decide ((l.length : Int) < (all : Int)) = true := decide_eq_true (by omega)
    clear h HD
    have cgR0 := cell_at B_gR 0 rfl
    have cgR1 := cell_at B_gR 1 rfl
    have cgR2 := cell_at B_gR 2 rfl
    have cgR3 := cell_at B_gR 3 rfl
    have cgR4 := cell_at B_gR 4 rfl
    have cgR5 := cell_at B_gR 5 rfl
    have cgR6 := cell_at B_gR 6 rfl
    have cgR7 := cell_at B_gR 7 rfl
    have zgR := froz_at B_gR
    have lgR := hid_lt B_gR
    go_wp2_with fail
    refine post_gen (fun W hW => ?_)
    obtain ⟨hB, hf⟩ := setE8 hW B_gR
    replace HN := hid_own HN hf (fun i hi e => by have h1 : i = gR := e; have h2 := G_gR.out; omega)
    clear hW hf cgR0 cgR1 cgR2 cgR3 cgR4 cgR5 cgR6 cgR7 zgR lgR
    replace B_gR := hB
    clear hB
    have cgR0 := cell_at B_gR 0 rfl
    have cgR1 := cell_at B_gR 1 rfl
    have cgR2 := cell_at B_gR 2 rfl
    have cgR3 := cell_at B_gR 3 rfl
    have cgR4 := cell_at B_gR 4 rfl
    have cgR5 := cell_at B_gR 5 rfl
    have cgR6 := cell_at B_gR 6 rfl
    have cgR7 := cell_at B_gR 7 rfl
    have zgR := froz_at B_gR
    have lgR := hid_lt B_gR
    refine bodyPost_ret (v := .tuple #[ipZ, str [], .int .i64 3]) (by simp only [results, Tryz.results28, ipZ]; go_simp) rfl ⟨rfl, HN.out⟩
  have e4 : 2048 < all := by have := HD.out; omega
  clear HD
  have d0 : decide ((own : Int) < 20) = false := decide_eq_false (by omega)
  have d1 : decide ((l.length : Int) < (own : Int)) = false := decide_eq_false (by omega)
  have d2 : decide ((all : Int) < (own : Int)) = false := decide_eq_false (by omega)
  have d3 : decide ((l.length : Int) < (all : Int)) = false := decide_eq_false (by omega)
  have d4 : decide ((2048 : Int) < (all : Int)) = true := decide_eq_true (by omega)
  clear h
  have cgR0 := cell_at B_gR 0 rfl
  have cgR1 := cell_at B_gR 1 rfl
  have cgR2 := cell_at B_gR 2 rfl
  have cgR3 := cell_at B_gR 3 rfl
  have cgR4 := cell_at B_gR 4 rfl
  have cgR5 := cell_at B_gR 5 rfl
  have cgR6 := cell_at B_gR 6 rfl
  have cgR7 := cell_at B_gR 7 rfl
  have zgR := froz_at B_gR
  have lgR := hid_lt B_gR
  go_wp2_with fail
  refine post_gen (fun W hW => ?_)
  obtain ⟨hB, hf⟩ := setE8 hW B_gR
  replace HN := hid_own HN hf (fun i hi e => by have h1 : i = gR := e; have h2 := G_gR.out; omega)
  clear hW hf cgR0 cgR1 cgR2 cgR3 cgR4 cgR5 cgR6 cgR7 zgR lgR
  replace B_gR := hB
  clear hB
  have cgR0 := cell_at B_gR 0 rfl
  have cgR1 := cell_at B_gR 1 rfl
  have cgR2 := cell_at B_gR 2 rfl
  have cgR3 := cell_at B_gR 3 rfl
  have cgR4 := cell_at B_gR 4 rfl
  have cgR5 := cell_at B_gR 5 rfl
  have cgR6 := cell_at B_gR 6 rfl
  have cgR7 := cell_at B_gR 7 rfl
  have zgR := froz_at B_gR
  have lgR := hid_lt B_gR
  refine bodyPost_ret (v := .tuple #[ipZ, str [], .int .i64 3]) (by simp only [results, Tryz.results28, ipZ]; go_simp) rfl ⟨rfl, HN.out⟩
set_option maxHeartbeats 4000000 in
set_option maxRecDepth 100000 in
theorem r04_sum (l : List UInt8) (own all a : Nat) (ha0 : byt l 0 = a) (h : 20 ≤ l.length) (hl : l.length ≤ 1000000) (hv : a / 16 = 4) (ho : a % 16 * 4 = own) (ha : g16 l 2 = all) (h1 : 20 ≤ own) (h2 : own ≤ all) (h3 : all ≤ l.length) (h5 : all ≤ 2048) (hs : csum [l.take own] ≠ 0) (w : World) : Calls Tryz.prog 28 #[str l] w (Ret1 (.tuple #[ipZ, str [], .int .i64 4]) w) := by
  have x0 := run_byte l (i := 0) (z := 0) rfl (by omega)
  have b0 := byt_lt l 0
  have bA := g16_lt l 2
  have KN := Lib.hid (fun W => r04_number l 2 hl (by omega) W)
  rw [ha0] at x0 b0
  rw [ha] at KN bA
  have ca : (a : Int) / 16 = 4 := by omega
  obtain ⟨m, hm⟩ : ∃ m, m = a % 16 := ⟨_, rfl⟩
  have c0 : (a : Int) % 16 = (m : Int) := by omega
  have c0' : (a : Int).tmod 16 = (m : Int) := by rw [Int.tmod_eq_emod_of_nonneg (by omega)]; omega
  have c1 : IntKind.i64.wrap (m : Int) = (m : Int) := IntWalk.i64_in _ (by omega)
  have c2 : IntKind.i64.wrap ((m : Int) * 4) = (own : Int) := (IntWalk.i64_in _ (by omega)).trans (by omega)
  have c2' : ((m : Int) * 4) = (own : Int) := by omega
  have ho60 : own ≤ 60 := by omega
  clear hm
  have d0 : decide ((own : Int) < 20) = false := decide_eq_false (by omega)
  have d1 : decide ((l.length : Int) < (own : Int)) = false := decide_eq_false (by omega)
  have d2 : decide ((all : Int) < (own : Int)) = false := decide_eq_false (by omega)
  have d3 : decide ((l.length : Int) < (all : Int)) = false := decide_eq_false (by omega)
  have d4 : decide ((2048 : Int) < (all : Int)) = false := decide_eq_false (by omega)
  have s0 := run_cutTo l (j := own) rfl (by omega)
  have KH := Lib.hid (fun g c W T fr hb => @r02_holds g c [l.take own] (by simp; omega) (by simp) W T fr hb)
  rw [decide_eq_false hs] at KH
  go_enter Tryz.func28, Tryz.ntmps28
  go_upto_region 5 with fail
  have HN := Lib.hid (Fp.refl (fun _ => False) w)
  refine wp_gen (fun x1 hW => ?_)
  have hp := new_now hW
  have hB := new_blk hW
  clear hW
  have hGe := hid_ge HN
  replace HN := hid_now HN hp
  obtain ⟨gR, hgR⟩ : ∃ gR, gR = w.heap.size := ⟨_, rfl⟩
  have G_gR := Lib.hid (Nat.le_trans hGe (Nat.le_of_eq hgR.symm))
  rw [← hgR] at hB ⊢
  have B_gR := hB
  clear hB hGe hgR
  clear hp
  (refine wp_region_quiet_below (by kernel_rfl) (by kernel_rfl) ?_; (repeat (quiet_step (exact low_call _ (fun W _ => KN.out W) _ _))); refine wpQuiet_nil ?_; intro wq hw'; have hlow := low_of hw'; clear hw')
  skip
  replace HN := hid_now HN hlow
  replace B_gR := hid_blk B_gR hlow
  clear hlow KN
  go_wp2_with fail
  refine calls_gen (fun x2 hW => ?_)
  have l2gR := hid_lt B_gR
  have hp := new_now hW
  have hB := new_blk hW
  clear hW
  have hGe := hid_ge HN
  replace HN := hid_now HN hp
  replace B_gR := hid_blk B_gR hp
  obtain ⟨gS, hgS⟩ : ∃ gS, gS = wq.heap.size := ⟨_, rfl⟩
  have G_gS := Lib.hid (Nat.le_trans hGe (Nat.le_of_eq hgS.symm))
  have n_gR_gS : ¬ gR = gS := by omega
  have n_gS_gR : ¬ gS = gR := by omega
  clear l2gR
  rw [← hgS] at hB ⊢
  have B_gS := hB
  clear hB hGe hgS
  clear hp
  refine (show Calls _ _ _ _ _ from KH.out gS _ _ _ _ B_gS.out).mono ?_
  rintro e x3 ⟨rfl, hp⟩
  replace HN := hid_now HN hp
  replace B_gR := hid_blk B_gR hp
  replace B_gS := hid_blk B_gS hp
  clear hp
  clear KH B_gS G_gS
  have cgR0 := cell_at B_gR 0 rfl
  have cgR1 := cell_at B_gR 1 rfl
  have cgR2 := cell_at B_gR 2 rfl
  have cgR3 := cell_at B_gR 3 rfl
  have cgR4 := cell_at B_gR 4 rfl
  have cgR5 := cell_at B_gR 5 rfl
  have cgR6 := cell_at B_gR 6 rfl
  have cgR7 := cell_at B_gR 7 rfl
  have zgR := froz_at B_gR
  have lgR := hid_lt B_gR
  go_wp2_with fail
  refine post_gen (fun W hW => ?_)
  obtain ⟨hB, hf⟩ := setE8 hW B_gR
  replace HN := hid_own HN hf (fun i hi e => by have h1 : i = gR := e; have h2 := G_gR.out; omega)
  clear hW hf cgR0 cgR1 cgR2 cgR3 cgR4 cgR5 cgR6 cgR7 zgR lgR
  replace B_gR := hB
  clear hB
  have cgR0 := cell_at B_gR 0 rfl
  have cgR1 := cell_at B_gR 1 rfl
  have cgR2 := cell_at B_gR 2 rfl
  have cgR3 := cell_at B_gR 3 rfl
  have cgR4 := cell_at B_gR 4 rfl
  have cgR5 := cell_at B_gR 5 rfl
  have cgR6 := cell_at B_gR 6 rfl
  have cgR7 := cell_at B_gR 7 rfl
  have zgR := froz_at B_gR
  have lgR := hid_lt B_gR
  refine bodyPost_ret (v := .tuple #[ipZ, str [], .int .i64 4]) (by simp only [results, Tryz.results28, ipZ]; go_simp) rfl ⟨rfl, HN.out⟩
set_option maxHeartbeats 4000000 in
set_option maxRecDepth 100000 in
theorem r04_frag (l : List UInt8) (own all a : Nat) (ha0 : byt l 0 = a) (h : 20 ≤ l.length) (hl : l.length ≤ 1000000) (hv : a / 16 = 4) (ho : a % 16 * 4 = own) (ha : g16 l 2 = all) (h1 : 20 ≤ own) (h2 : own ≤ all) (h3 : all ≤ l.length) (h5 : all ≤ 2048) (hs : csum [l.take own] = 0) (fr : Nat) (hfr : g16 l 6 = fr) (q0 : fr ≠ 0) (q1 : fr ≠ 16384) (w : World) : Calls Tryz.prog 28 #[str l] w (Ret1 (.tuple #[ipZ, str [], .int .i64 5]) w) := by
  have x0 := run_byte l (i := 0) (z := 0) rfl (by omega)
  have b0 := byt_lt l 0
  have bA := g16_lt l 2
  have KN := Lib.hid (fun W => r04_number l 2 hl (by omega) W)
  rw [ha0] at x0 b0
  rw [ha] at KN bA
  have ca : (a : Int) / 16 = 4 := by omega
  obtain ⟨m, hm⟩ : ∃ m, m = a % 16 := ⟨_, rfl⟩
  have c0 : (a : Int) % 16 = (m : Int) := by omega
  have c0' : (a : Int).tmod 16 = (m : Int) := by rw [Int.tmod_eq_emod_of_nonneg (by omega)]; omega
  have c1 : IntKind.i64.wrap (m : Int) = (m : Int) := IntWalk.i64_in _ (by omega)
  have c2 : IntKind.i64.wrap ((m : Int) * 4) = (own : Int) := (IntWalk.i64_in _ (by omega)).trans (by omega)
  have c2' : ((m : Int) * 4) = (own : Int) := by omega
  have ho60 : own ≤ 60 := by omega
  clear hm
  have d0 : decide ((own : Int) < 20) = false := decide_eq_false (by omega)
  have d1 : decide ((l.length : Int) < (own : Int)) = false := decide_eq_false (by omega)
  have d2 : decide ((all : Int) < (own : Int)) = false := decide_eq_false (by omega)
  have d3 : decide ((l.length : Int) < (all : Int)) = false := decide_eq_false (by omega)
  have d4 : decide ((2048 : Int) < (all : Int)) = false := decide_eq_false (by omega)
  have s0 := run_cutTo l (j := own) rfl (by omega)
  have KH := Lib.hid (fun g c W T fr hb => @r02_holds g c [l.take own] (by simp; omega) (by simp) W T fr hb)
  rw [decide_eq_true hs] at KH
  have K6 := Lib.hid (fun W => r04_number l 6 hl (by omega) W)
  rw [hfr] at K6
  have p0 : ((fr : Int) != 0) = true := by simp [bne]; omega
  have p1 : ((fr : Int) != 16384) = true := by simp [bne]; omega
  go_enter Tryz.func28, Tryz.ntmps28
  go_upto_region 5 with fail
  have HN := Lib.hid (Fp.refl (fun _ => False) w)
  refine wp_gen (fun x1 hW => ?_)
  have hp := new_now hW
  have hB := new_blk hW
  clear hW
  have hGe := hid_ge HN
  replace HN := hid_now HN hp
  obtain ⟨gR, hgR⟩ : ∃ gR, gR = w.heap.size := ⟨_, rfl⟩
  have G_gR := Lib.hid (Nat.le_trans hGe (Nat.le_of_eq hgR.symm))
  rw [← hgR] at hB ⊢
  have B_gR := hB
  clear hB hGe hgR
  clear hp
  (refine wp_region_quiet_below (by kernel_rfl) (by kernel_rfl) ?_; (repeat (quiet_step (exact low_call _ (fun W _ => KN.out W) _ _))); refine wpQuiet_nil ?_; intro wq hw'; have hlow := low_of hw'; clear hw')
  skip
  replace HN := hid_now HN hlow
  replace B_gR := hid_blk B_gR hlow
  clear hlow KN
  go_wp2_with fail
  refine calls_gen (fun x2 hW => ?_)
  have l2gR := hid_lt B_gR
  have hp := new_now hW
  have hB := new_blk hW
  clear hW
  have hGe := hid_ge HN
  replace HN := hid_now HN hp
  replace B_gR := hid_blk B_gR hp
  obtain ⟨gS, hgS⟩ : ∃ gS, gS = wq.heap.size := ⟨_, rfl⟩
  have G_gS := Lib.hid (Nat.le_trans hGe (Nat.le_of_eq hgS.symm))
  have n_gR_gS : ¬ gR = gS := by omega
  have n_gS_gR : ¬ gS = gR := by omega
  clear l2gR
  rw [← hgS] at hB ⊢
  have B_gS := hB
  clear hB hGe hgS
  clear hp
  refine (show Calls _ _ _ _ _ from KH.out gS _ _ _ _ B_gS.out).mono ?_
  rintro e x3 ⟨rfl, hp⟩
  replace HN := hid_now HN hp
  replace B_gR := hid_blk B_gR hp
  replace B_gS := hid_blk B_gS hp
  clear hp
  clear KH B_gS G_gS
  go_wp2_with fail
  refine (show Calls _ _ _ _ _ from K6.out _).mono ?_
  rintro e x4 ⟨rfl, hp⟩
  replace HN := hid_now HN hp
  replace B_gR := hid_blk B_gR hp
  clear hp
  have cgR0 := cell_at B_gR 0 rfl
  have cgR1 := cell_at B_gR 1 rfl
  have cgR2 := cell_at B_gR 2 rfl
  have cgR3 := cell_at B_gR 3 rfl
  have cgR4 := cell_at B_gR 4 rfl
  have cgR5 := cell_at B_gR 5 rfl
  have cgR6 := cell_at B_gR 6 rfl
  have cgR7 := cell_at B_gR 7 rfl
  have zgR := froz_at B_gR
  have lgR := hid_lt B_gR
  go_wp2_with fail
  refine post_gen (fun W hW => ?_)
  obtain ⟨hB, hf⟩ := setE8 hW B_gR
  replace HN := hid_own HN hf (fun i hi e => by have h1 : i = gR := e; have h2 := G_gR.out; omega)
  clear hW hf cgR0 cgR1 cgR2 cgR3 cgR4 cgR5 cgR6 cgR7 zgR lgR
  replace B_gR := hB
  clear hB
  have cgR0 := cell_at B_gR 0 rfl
  have cgR1 := cell_at B_gR 1 rfl
  have cgR2 := cell_at B_gR 2 rfl
  have cgR3 := cell_at B_gR 3 rfl
  have cgR4 := cell_at B_gR 4 rfl
  have cgR5 := cell_at B_gR 5 rfl
  have cgR6 := cell_at B_gR 6 rfl
  have cgR7 := cell_at B_gR 7 rfl
  have zgR := froz_at B_gR
  have lgR := hid_lt B_gR
  refine bodyPost_ret (v := .tuple #[ipZ, str [], .int .i64 5]) (by simp only [results, Tryz.results28, ipZ]; go_simp) rfl ⟨rfl, HN.out⟩
set_option maxHeartbeats 4000000 in
set_option maxRecDepth 100000 in
theorem r04_ok0 (l : List UInt8) (own all a : Nat) (ha0 : byt l 0 = a) (h : 20 ≤ l.length) (hl : l.length ≤ 1000000) (hv : a / 16 = 4) (ho : a % 16 * 4 = own) (ha : g16 l 2 = all) (h1 : 20 ≤ own) (h2 : own ≤ all) (h3 : all ≤ l.length) (h5 : all ≤ 2048) (hs : csum [l.take own] = 0) (fr : Nat) (fl : Bool) (hfr : g16 l 6 = fr) (p0 : ((fr : Int) != 0) = false) (hfl : decide (0 < fr) = fl) (w : World) : Calls Tryz.prog 28 #[str l] w (Ret1 (.tuple #[.agg #[.int .u8 (byt l 1 : Nat), .int .u16 (g16 l 4 : Nat), .bool fl, .int .u8 (byt l 8 : Nat), .int .u8 (byt l 9 : Nat), .int .u32 (g32 l 12 : Nat), .int .u32 (g32 l 16 : Nat), str ((l.take own).drop 20)], str ((l.take all).drop own), .int .i64 0]) w) := by
  have x0 := run_byte l (i := 0) (z := 0) rfl (by omega)
  have b0 := byt_lt l 0
  have bA := g16_lt l 2
  have KN := Lib.hid (fun W => r04_number l 2 hl (by omega) W)
  rw [ha0] at x0 b0
  rw [ha] at KN bA
  have ca : (a : Int) / 16 = 4 := by omega
  obtain ⟨m, hm⟩ : ∃ m, m = a % 16 := ⟨_, rfl⟩
  have c0 : (a : Int) % 16 = (m : Int) := by omega
  have c0' : (a : Int).tmod 16 = (m : Int) := by rw [Int.tmod_eq_emod_of_nonneg (by omega)]; omega
  have c1 : IntKind.i64.wrap (m : Int) = (m : Int) := IntWalk.i64_in _ (by omega)
  have c2 : IntKind.i64.wrap ((m : Int) * 4) = (own : Int) := (IntWalk.i64_in _ (by omega)).trans (by omega)
  have c2' : ((m : Int) * 4) = (own : Int) := by omega
  have ho60 : own ≤ 60 := by omega
  clear hm
  have d0 : decide ((own : Int) < 20) = false := decide_eq_false (by omega)
  have d1 : decide ((l.length : Int) < (own : Int)) = false := decide_eq_false (by omega)
  have d2 : decide ((all : Int) < (own : Int)) = false := decide_eq_false (by omega)
  have d3 : decide ((l.length : Int) < (all : Int)) = false := decide_eq_false (by omega)
  have d4 : decide ((2048 : Int) < (all : Int)) = false := decide_eq_false (by omega)
  have s0 := run_cutTo l (j := own) rfl (by omega)
  have KH := Lib.hid (fun g c W T fr hb => @r02_holds g c [l.take own] (by simp; omega) (by simp) W T fr hb)
  rw [decide_eq_true hs] at KH
  have K6 := Lib.hid (fun W => r04_number l 6 hl (by omega) W)
  rw [hfr] at K6
  have bfr : fr < 65536 := by rw [← hfr]; exact g16_lt l 6
  have K4 := Lib.hid (fun W => r04_number l 4 hl (by omega) W)
  have K12 := Lib.hid (fun W => r04_addr l 12 hl (by omega) W)
  have K16 := Lib.hid (fun W => r04_addr l 16 hl (by omega) W)
  have x1 := run_byte l (i := 1) (z := 1) rfl (by omega)
  have x8 := run_byte l (i := 8) (z := 8) rfl (by omega)
  have x9 := run_byte l (i := 9) (z := 9) rfl (by omega)
  have s1 := run_cut l (i := 20) (j := own) rfl rfl h1 (by omega)
  have s2 := run_cut l (i := own) (j := all) rfl rfl h2 h3
  have g4 := g16_lt l 4
  have c4 : IntKind.u16.wrap (g16 l 4 : Nat) = (g16 l 4 : Nat) := IntWalk.u16_in _ (by omega)
  have i20 : (20 : Int) ≤ (own : Int) := by omega
  have i21 : (own : Int) ≤ (l.length : Int) := by omega
  have ex1 := ext_cut l 20 own
  have i22 : (own : Int) ≤ (all : Int) := by omega
  have i23 : (all : Int) ≤ (l.length : Int) := by omega
  have ex2 := ext_cut l own all
  go_enter Tryz.func28, Tryz.ntmps28
  go_upto_region 5 with fail
  have HN := Lib.hid (Fp.refl (fun _ => False) w)
  refine wp_gen (fun x1 hW => ?_)
  have hp := new_now hW
  have hB := new_blk hW
  clear hW
  have hGe := hid_ge HN
  replace HN := hid_now HN hp
  obtain ⟨gR, hgR⟩ : ∃ gR, gR = w.heap.size := ⟨_, rfl⟩
  have G_gR := Lib.hid (Nat.le_trans hGe (Nat.le_of_eq hgR.symm))
  rw [← hgR] at hB ⊢
  have B_gR := hB
  clear hB hGe hgR
  clear hp
  (refine wp_region_quiet_below (by kernel_rfl) (by kernel_rfl) ?_; (repeat (quiet_step (exact low_call _ (fun W _ => KN.out W) _ _))); refine wpQuiet_nil ?_; intro wq hw'; have hlow := low_of hw'; clear hw')
  skip
  replace HN := hid_now HN hlow
  replace B_gR := hid_blk B_gR hlow
  clear hlow KN
  go_wp2_with fail
  refine calls_gen (fun x2 hW => ?_)
  have l2gR := hid_lt B_gR
  have hp := new_now hW
  have hB := new_blk hW
  clear hW
  have hGe := hid_ge HN
  replace HN := hid_now HN hp
  replace B_gR := hid_blk B_gR hp
  obtain ⟨gS, hgS⟩ : ∃ gS, gS = wq.heap.size := ⟨_, rfl⟩
  have G_gS := Lib.hid (Nat.le_trans hGe (Nat.le_of_eq hgS.symm))
  have n_gR_gS : ¬ gR = gS := by omega
  have n_gS_gR : ¬ gS = gR := by omega
  clear l2gR
  rw [← hgS] at hB ⊢
  have B_gS := hB
  clear hB hGe hgS
  clear hp
  refine (show Calls _ _ _ _ _ from KH.out gS _ _ _ _ B_gS.out).mono ?_
  rintro e x3 ⟨rfl, hp⟩
  replace HN := hid_now HN hp
  replace B_gR := hid_blk B_gR hp
  replace B_gS := hid_blk B_gS hp
  clear hp
  clear KH B_gS G_gS
  go_wp2_with fail
  refine (show Calls _ _ _ _ _ from K6.out _).mono ?_
  rintro e x4 ⟨rfl, hp⟩
  replace HN := hid_now HN hp
  replace B_gR := hid_blk B_gR hp
  clear hp
  go_upto_region 13 with fail
  go_cut [8] (fun s8 wx => ∃ g8, s8 = .pointer (some ⟨g8, 0, none⟩) ∧ wx.heap[g8]? = some (.cells #[.int .u8 (byt l 1 : Nat), .int .u16 (g16 l 4 : Nat), .bool fl, .int .u8 (byt l 8 : Nat), .int .u8 (byt l 9 : Nat), .int .u32 (g32 l 12 : Nat), .int .u32 (g32 l 16 : Nat), str ((l.take own).drop 20)] 67) ∧ x4.heap.size ≤ g8 ∧ NoW x4 wx)
  case first =>
      refine wp_region_held_drew (S := fun wx => NoW x4 wx) (by kernel_rfl) (Fp.drew (Fp.refl _ _)) (fun hHeld0 => ?_)
      refine any_eq hHeld0 (fun y1 hW hHeld => ?_)
      clear hHeld0
      clear hW
      (refine take_at 0 (some 65) rfl rfl (by kernel_rfl) (by kernel_rfl) (by kernel_rfl) (fun _ _ _ h => h) (v := ?_) (by kernel_rfl) ?_ (by assumption) ?_; rotate_left; (focus (intro wS hSw; skip; go_simp; try with_reducible rfl)); (try simp only [Act.put, List.setIfInBounds_toArray, List.set_cons_zero, List.set_cons_succ]))
      (refine take_at 1 (some 66) rfl rfl (by kernel_rfl) (by kernel_rfl) (by kernel_rfl) (fun _ _ _ h => h) (v := ?_) (by kernel_rfl) ?_ (by assumption) ?_; rotate_left; (focus (intro wS hSw; have hX := fun b o (h : b < _) => hSw.cell (p := ⟨b, o, none⟩) h id; go_simp; try with_reducible rfl)); (try simp only [Act.put, List.setIfInBounds_toArray, List.set_cons_zero, List.set_cons_succ]))
      (refine take_at 2 (some 67) rfl rfl (by kernel_rfl) (by kernel_rfl) (by kernel_rfl) (fun _ _ _ h => h) (v := ?_) (by kernel_rfl) ?_ (by assumption) ?_; rotate_left; (focus (intro wS hSw; skip; go_simp; try with_reducible rfl)); (try simp only [Act.put, List.setIfInBounds_toArray, List.set_cons_zero, List.set_cons_succ]))
      (refine take_at 5 (some 70) rfl rfl (by kernel_rfl) (by kernel_rfl) (by kernel_rfl) (fun _ _ _ h => h) (v := ?_) (by kernel_rfl) ?_ (by assumption) ?_; rotate_left; (focus (intro wS hSw; skip; go_simp; try with_reducible rfl)); (try simp only [Act.put, List.setIfInBounds_toArray, List.set_cons_zero, List.set_cons_succ]))
      (refine take_at 6 (some 71) rfl rfl (by kernel_rfl) (by kernel_rfl) (by kernel_rfl) (fun _ _ _ h => h) (v := ?_) (by kernel_rfl) ?_ (by assumption) ?_; rotate_left; (focus (intro wS hSw; skip; go_simp; try with_reducible rfl)); (try simp only [Act.put, List.setIfInBounds_toArray, List.set_cons_zero, List.set_cons_succ]))
      (refine take_at 7 (some 72) rfl rfl (by kernel_rfl) (by kernel_rfl) (by kernel_rfl) (fun _ _ _ h => h) (v := ?_) (by kernel_rfl) ?_ (by assumption) ?_; rotate_left; (focus (intro wS hSw; skip; go_simp; try with_reducible rfl)); (try simp only [Act.put, List.setIfInBounds_toArray, List.set_cons_zero, List.set_cons_succ]))
      (refine take_at 8 (some 73) rfl rfl (by kernel_rfl) (by kernel_rfl) (by kernel_rfl) (fun _ _ _ h => h) (v := ?_) (by kernel_rfl) ?_ (by assumption) ?_; rotate_left; (focus (intro wS hSw; have hX := fun b o (h : b < _) => hSw.cell (p := ⟨b, o, none⟩) h id; go_simp; try with_reducible rfl)); (try simp only [Act.put, List.setIfInBounds_toArray, List.set_cons_zero, List.set_cons_succ]))
      (refine take_at 9 (some 74) rfl rfl (by kernel_rfl) (by kernel_rfl) (by kernel_rfl) (fun _ _ _ h => h) (v := ?_) (by kernel_rfl) ?_ (by assumption) ?_; rotate_left; (focus (intro wS hSw; skip; go_simp; try with_reducible rfl)); (try simp only [Act.put, List.setIfInBounds_toArray, List.set_cons_zero, List.set_cons_succ]))
      (refine take_at 10 (some 75) rfl rfl (by kernel_rfl) (by kernel_rfl) (by kernel_rfl) (fun _ _ _ h => h) (v := ?_) (by kernel_rfl) ?_ (by assumption) ?_; rotate_left; (focus (intro wS hSw; have hX := fun b o (h : b < _) => hSw.cell (p := ⟨b, o, none⟩) h id; go_simp; try with_reducible rfl)); (try simp only [Act.put, List.setIfInBounds_toArray, List.set_cons_zero, List.set_cons_succ]))
      (refine take_at 11 (some 76) rfl rfl (by kernel_rfl) (by kernel_rfl) (by kernel_rfl) (fun _ _ _ h => h) (v := ?_) (by kernel_rfl) ?_ (by assumption) ?_; rotate_left; (focus (intro wS hSw; skip; go_simp; try with_reducible rfl)); (try simp only [Act.put, List.setIfInBounds_toArray, List.set_cons_zero, List.set_cons_succ]))
      (refine take_at 13 (some 78) rfl rfl (by kernel_rfl) (by kernel_rfl) (by kernel_rfl) (fun _ _ _ h => h) (v := ?_) (by kernel_rfl) ?_ (by assumption) ?_; rotate_left; (focus (intro wS hSw; skip; go_simp; try with_reducible rfl)); (try simp only [Act.put, List.setIfInBounds_toArray, List.set_cons_zero, List.set_cons_succ]))
      (refine take_at 15 (some 80) rfl rfl (by kernel_rfl) (by kernel_rfl) (by kernel_rfl) (fun _ _ _ h => h) (v := ?_) (by kernel_rfl) ?_ (by assumption) ?_; rotate_left; (focus (intro wS hSw; skip; go_simp; try with_reducible rfl)); (try simp only [Act.put, List.setIfInBounds_toArray, List.set_cons_zero, List.set_cons_succ]))
      (refine take_at 16 (some 81) rfl rfl (by kernel_rfl) (by kernel_rfl) (by kernel_rfl) (fun _ _ _ h => h) (v := ?_) (by kernel_rfl) ?_ (by assumption) ?_; rotate_left; (focus (intro wS hSw; skip; go_simp; try with_reducible rfl)); (try simp only [Act.put, List.setIfInBounds_toArray, List.set_cons_zero, List.set_cons_succ]))
      (refine take_at 17 (some 82) rfl rfl (by kernel_rfl) (by kernel_rfl) (by kernel_rfl) (fun _ _ _ h => h) (v := ?_) (by kernel_rfl) ?_ (by assumption) ?_; rotate_left; (focus (intro wS hSw; skip; go_simp; try with_reducible rfl)); (try simp only [Act.put, List.setIfInBounds_toArray, List.set_cons_zero, List.set_cons_succ]))
      refine wpAnyH_ready (rs := [3, 19]) (by kernel_rfl) (by simp) ?_
      refine AllReadyH.cons rfl (fun K hK => ?_) (AllReadyH.cons rfl (fun K hK => ?_) AllReadyH.nil)
      · go_simp
        go_at_call 59
        refine (show Calls _ _ _ _ _ from K4.out _).mono ?_
        rintro e y2 ⟨rfl, hp⟩
        have hn := Fp.trans hHeld hp (fun _ _ h => h.elim)
        refine k_now hK hn ?_
        clear hK K hp hHeld
        have hHeld := hn
        clear hn
        try simp only [Act.put, List.setIfInBounds_toArray, List.set_cons_zero, List.set_cons_succ]
        (refine take_at 4 (some 69) rfl rfl (by kernel_rfl) (by kernel_rfl) (by kernel_rfl) (fun _ _ _ h => h) (v := ?_) (by kernel_rfl) ?_ (by assumption) ?_; rotate_left; (focus (intro wS hSw; skip; go_simp; try with_reducible rfl)); (try simp only [Act.put, List.setIfInBounds_toArray, List.set_cons_zero, List.set_cons_succ]))
        refine wpAnyH_ready (rs := [12, 19]) (by kernel_rfl) (by simp) ?_
        refine AllReadyH.cons rfl (fun K hK => ?_) (AllReadyH.cons rfl (fun K hK => ?_) AllReadyH.nil)
        · go_simp
          go_at_call 61
          refine (show Calls _ _ _ _ _ from K12.out _).mono ?_
          rintro e y3 ⟨rfl, hp⟩
          have hn := Fp.trans hHeld hp (fun _ _ h => h.elim)
          refine k_now hK hn ?_
          clear hK K hp hHeld
          have hHeld := hn
          clear hn
          try simp only [Act.put, List.setIfInBounds_toArray, List.set_cons_zero, List.set_cons_succ]
          refine wpAnyH_ready (rs := [14, 19]) (by kernel_rfl) (by simp) ?_
          refine AllReadyH.cons rfl (fun K hK => ?_) (AllReadyH.cons rfl (fun K hK => ?_) AllReadyH.nil)
          · go_simp
            go_at_call 61
            refine (show Calls _ _ _ _ _ from K16.out _).mono ?_
            rintro e y4 ⟨rfl, hp⟩
            have hn := Fp.trans hHeld hp (fun _ _ h => h.elim)
            refine k_now hK hn ?_
            clear hK K hp hHeld
            have hHeld := hn
            clear hn
            try simp only [Act.put, List.setIfInBounds_toArray, List.set_cons_zero, List.set_cons_succ]
            (refine take_at 18 (some 83) rfl rfl (by kernel_rfl) (by kernel_rfl) (by kernel_rfl) (fun _ _ _ h => h) (v := ?_) (by kernel_rfl) ?_ (by assumption) ?_; rotate_left; (focus (intro wS hSw; skip; go_simp; try with_reducible rfl)); (try simp only [Act.put, List.setIfInBounds_toArray, List.set_cons_zero, List.set_cons_succ]))
            refine wpAnyH_ready (rs := [19]) (by kernel_rfl) (by simp) ?_
            refine AllReadyH.cons rfl (fun K hK => ?_) AllReadyH.nil
            go_simp
            refine k_gen hK (fun y5 hW => ?_)
            have hp := new_now hW
            have hB := new_blk hW
            have hGe := Fp.size hHeld
            clear hW
            refine ⟨Fp.trans hHeld hp (fun _ _ h => h.elim), ?_⟩
            replace hHeld := Fp.trans hHeld hp (fun _ _ h => h.elim)
            clear hK K
            try simp only [Act.put, List.setIfInBounds_toArray, List.set_cons_zero, List.set_cons_succ]
            obtain ⟨gN, hgN⟩ : ∃ gN, gN = y4.heap.size := ⟨_, rfl⟩
            have R_gN := Lib.hid (Nat.le_trans hGe (Nat.le_of_eq hgN.symm))
            rw [← hgN] at hB ⊢
            have B_gN := hB
            clear hB hgN hp hGe
            refine wpAnyH_ready (rs := [20]) (by kernel_rfl) (by simp) ?_
            refine AllReadyH.cons rfl (fun K hK => ?_) AllReadyH.nil
            have cgN0 := cell_at B_gN 0 rfl
            have cgN1 := cell_at B_gN 1 rfl
            have cgN2 := cell_at B_gN 2 rfl
            have cgN3 := cell_at B_gN 3 rfl
            have cgN4 := cell_at B_gN 4 rfl
            have cgN5 := cell_at B_gN 5 rfl
            have cgN6 := cell_at B_gN 6 rfl
            have cgN7 := cell_at B_gN 7 rfl
            have zgN := froz_at B_gN
            have lgN := hid_lt B_gN
            go_simp
            refine k_gen hK (fun y6 hW => ?_)
            obtain ⟨hB, hf⟩ := setE8 hW B_gN
            clear hW zgN lgN cgN0 cgN1 cgN2 cgN3 cgN4 cgN5 cgN6 cgN7
            have hn := Fp.trans hHeld hf (fun i hi e => by have h1 : i = gN := e; have h2 := R_gN.out; omega)
            refine ⟨hn, ?_⟩
            clear hK K hHeld
            have hHeld := hn
            clear hn
            try simp only [Act.put, List.setIfInBounds_toArray, List.set_cons_zero, List.set_cons_succ]
            replace B_gN := hB
            clear hB hf
            refine wpAnyH_done (by kernel_rfl) ?_ _
            go_wp2_with fail
            go_meet
            exact ⟨gN, rfl, B_gN.out, R_gN.out, hHeld⟩
          · go_simp
            refine k_gen hK (fun y7 hW => ?_)
            have hp := new_now hW
            have hB := new_blk hW
            have hGe := Fp.size hHeld
            clear hW
            refine ⟨Fp.trans hHeld hp (fun _ _ h => h.elim), ?_⟩
            replace hHeld := Fp.trans hHeld hp (fun _ _ h => h.elim)
            clear hK K
            try simp only [Act.put, List.setIfInBounds_toArray, List.set_cons_zero, List.set_cons_succ]
            obtain ⟨gN, hgN⟩ : ∃ gN, gN = y3.heap.size := ⟨_, rfl⟩
            have R_gN := Lib.hid (Nat.le_trans hGe (Nat.le_of_eq hgN.symm))
            rw [← hgN] at hB ⊢
            have B_gN := hB
            clear hB hgN hp hGe
            refine wpAnyH_ready (rs := [14]) (by kernel_rfl) (by simp) ?_
            refine AllReadyH.cons rfl (fun K hK => ?_) AllReadyH.nil
            go_simp
            go_at_call 61
            refine (show Calls _ _ _ _ _ from K16.out _).mono ?_
            rintro e y8 ⟨rfl, hp⟩
            have hn := Fp.trans hHeld hp (fun _ _ h => h.elim)
            replace B_gN := hid_blk B_gN hp
            refine k_now hK hn ?_
            clear hK K hp hHeld
            have hHeld := hn
            clear hn
            try simp only [Act.put, List.setIfInBounds_toArray, List.set_cons_zero, List.set_cons_succ]
            (refine take_at 18 (some 83) rfl rfl (by kernel_rfl) (by kernel_rfl) (by kernel_rfl) (fun _ _ _ h => h) (v := ?_) (by kernel_rfl) ?_ (by assumption) ?_; rotate_left; (focus (intro wS hSw; skip; go_simp; try with_reducible rfl)); (try simp only [Act.put, List.setIfInBounds_toArray, List.set_cons_zero, List.set_cons_succ]))
            refine wpAnyH_ready (rs := [20]) (by kernel_rfl) (by simp) ?_
            refine AllReadyH.cons rfl (fun K hK => ?_) AllReadyH.nil
            have cgN0 := cell_at B_gN 0 rfl
            have cgN1 := cell_at B_gN 1 rfl
            have cgN2 := cell_at B_gN 2 rfl
            have cgN3 := cell_at B_gN 3 rfl
            have cgN4 := cell_at B_gN 4 rfl
            have cgN5 := cell_at B_gN 5 rfl
            have cgN6 := cell_at B_gN 6 rfl
            have cgN7 := cell_at B_gN 7 rfl
            have zgN := froz_at B_gN
            have lgN := hid_lt B_gN
            go_simp
            refine k_gen hK (fun y9 hW => ?_)
            obtain ⟨hB, hf⟩ := setE8 hW B_gN
            clear hW zgN lgN cgN0 cgN1 cgN2 cgN3 cgN4 cgN5 cgN6 cgN7
            have hn := Fp.trans hHeld hf (fun i hi e => by have h1 : i = gN := e; have h2 := R_gN.out; omega)
            refine ⟨hn, ?_⟩
            clear hK K hHeld
            have hHeld := hn
            clear hn
            try simp only [Act.put, List.setIfInBounds_toArray, List.set_cons_zero, List.set_cons_succ]
            replace B_gN := hB
            clear hB hf
            refine wpAnyH_done (by kernel_rfl) ?_ _
            go_wp2_with fail
            go_meet
            exact ⟨gN, rfl, B_gN.out, R_gN.out, hHeld⟩
        · go_simp
          refine k_gen hK (fun y10 hW => ?_)
          have hp := new_now hW
          have hB := new_blk hW
          have hGe := Fp.size hHeld
          clear hW
          refine ⟨Fp.trans hHeld hp (fun _ _ h => h.elim), ?_⟩
          replace hHeld := Fp.trans hHeld hp (fun _ _ h => h.elim)
          clear hK K
          try simp only [Act.put, List.setIfInBounds_toArray, List.set_cons_zero, List.set_cons_succ]
          obtain ⟨gN, hgN⟩ : ∃ gN, gN = y2.heap.size := ⟨_, rfl⟩
          have R_gN := Lib.hid (Nat.le_trans hGe (Nat.le_of_eq hgN.symm))
          rw [← hgN] at hB ⊢
          have B_gN := hB
          clear hB hgN hp hGe
          refine wpAnyH_ready (rs := [12]) (by kernel_rfl) (by simp) ?_
          refine AllReadyH.cons rfl (fun K hK => ?_) AllReadyH.nil
          go_simp
          go_at_call 61
          refine (show Calls _ _ _ _ _ from K12.out _).mono ?_
          rintro e y11 ⟨rfl, hp⟩
          have hn := Fp.trans hHeld hp (fun _ _ h => h.elim)
          replace B_gN := hid_blk B_gN hp
          refine k_now hK hn ?_
          clear hK K hp hHeld
          have hHeld := hn
          clear hn
          try simp only [Act.put, List.setIfInBounds_toArray, List.set_cons_zero, List.set_cons_succ]
          refine wpAnyH_ready (rs := [14]) (by kernel_rfl) (by simp) ?_
          refine AllReadyH.cons rfl (fun K hK => ?_) AllReadyH.nil
          go_simp
          go_at_call 61
          refine (show Calls _ _ _ _ _ from K16.out _).mono ?_
          rintro e y12 ⟨rfl, hp⟩
          have hn := Fp.trans hHeld hp (fun _ _ h => h.elim)
          replace B_gN := hid_blk B_gN hp
          refine k_now hK hn ?_
          clear hK K hp hHeld
          have hHeld := hn
          clear hn
          try simp only [Act.put, List.setIfInBounds_toArray, List.set_cons_zero, List.set_cons_succ]
          (refine take_at 18 (some 83) rfl rfl (by kernel_rfl) (by kernel_rfl) (by kernel_rfl) (fun _ _ _ h => h) (v := ?_) (by kernel_rfl) ?_ (by assumption) ?_; rotate_left; (focus (intro wS hSw; skip; go_simp; try with_reducible rfl)); (try simp only [Act.put, List.setIfInBounds_toArray, List.set_cons_zero, List.set_cons_succ]))
          refine wpAnyH_ready (rs := [20]) (by kernel_rfl) (by simp) ?_
          refine AllReadyH.cons rfl (fun K hK => ?_) AllReadyH.nil
          have cgN0 := cell_at B_gN 0 rfl
          have cgN1 := cell_at B_gN 1 rfl
          have cgN2 := cell_at B_gN 2 rfl
          have cgN3 := cell_at B_gN 3 rfl
          have cgN4 := cell_at B_gN 4 rfl
          have cgN5 := cell_at B_gN 5 rfl
          have cgN6 := cell_at B_gN 6 rfl
          have cgN7 := cell_at B_gN 7 rfl
          have zgN := froz_at B_gN
          have lgN := hid_lt B_gN
          go_simp
          refine k_gen hK (fun y13 hW => ?_)
          obtain ⟨hB, hf⟩ := setE8 hW B_gN
          clear hW zgN lgN cgN0 cgN1 cgN2 cgN3 cgN4 cgN5 cgN6 cgN7
          have hn := Fp.trans hHeld hf (fun i hi e => by have h1 : i = gN := e; have h2 := R_gN.out; omega)
          refine ⟨hn, ?_⟩
          clear hK K hHeld
          have hHeld := hn
          clear hn
          try simp only [Act.put, List.setIfInBounds_toArray, List.set_cons_zero, List.set_cons_succ]
          replace B_gN := hB
          clear hB hf
          refine wpAnyH_done (by kernel_rfl) ?_ _
          go_wp2_with fail
          go_meet
          exact ⟨gN, rfl, B_gN.out, R_gN.out, hHeld⟩
      · go_simp
        refine k_gen hK (fun y14 hW => ?_)
        have hp := new_now hW
        have hB := new_blk hW
        have hGe := Fp.size hHeld
        clear hW
        refine ⟨Fp.trans hHeld hp (fun _ _ h => h.elim), ?_⟩
        replace hHeld := Fp.trans hHeld hp (fun _ _ h => h.elim)
        clear hK K
        try simp only [Act.put, List.setIfInBounds_toArray, List.set_cons_zero, List.set_cons_succ]
        obtain ⟨gN, hgN⟩ : ∃ gN, gN = y1.heap.size := ⟨_, rfl⟩
        have R_gN := Lib.hid (Nat.le_trans hGe (Nat.le_of_eq hgN.symm))
        rw [← hgN] at hB ⊢
        have B_gN := hB
        clear hB hgN hp hGe
        refine wpAnyH_ready (rs := [3]) (by kernel_rfl) (by simp) ?_
        refine AllReadyH.cons rfl (fun K hK => ?_) AllReadyH.nil
        go_simp
        go_at_call 59
        refine (show Calls _ _ _ _ _ from K4.out _).mono ?_
        rintro e y15 ⟨rfl, hp⟩
        have hn := Fp.trans hHeld hp (fun _ _ h => h.elim)
        replace B_gN := hid_blk B_gN hp
        refine k_now hK hn ?_
        clear hK K hp hHeld
        have hHeld := hn
        clear hn
        try simp only [Act.put, List.setIfInBounds_toArray, List.set_cons_zero, List.set_cons_succ]
        (refine take_at 4 (some 69) rfl rfl (by kernel_rfl) (by kernel_rfl) (by kernel_rfl) (fun _ _ _ h => h) (v := ?_) (by kernel_rfl) ?_ (by assumption) ?_; rotate_left; (focus (intro wS hSw; skip; go_simp; try with_reducible rfl)); (try simp only [Act.put, List.setIfInBounds_toArray, List.set_cons_zero, List.set_cons_succ]))
        refine wpAnyH_ready (rs := [12]) (by kernel_rfl) (by simp) ?_
        refine AllReadyH.cons rfl (fun K hK => ?_) AllReadyH.nil
        go_simp
        go_at_call 61
        refine (show Calls _ _ _ _ _ from K12.out _).mono ?_
        rintro e y16 ⟨rfl, hp⟩
        have hn := Fp.trans hHeld hp (fun _ _ h => h.elim)
        replace B_gN := hid_blk B_gN hp
        refine k_now hK hn ?_
        clear hK K hp hHeld
        have hHeld := hn
        clear hn
        try simp only [Act.put, List.setIfInBounds_toArray, List.set_cons_zero, List.set_cons_succ]
        refine wpAnyH_ready (rs := [14]) (by kernel_rfl) (by simp) ?_
        refine AllReadyH.cons rfl (fun K hK => ?_) AllReadyH.nil
        go_simp
        go_at_call 61
        refine (show Calls _ _ _ _ _ from K16.out _).mono ?_
        rintro e y17 ⟨rfl, hp⟩
        have hn := Fp.trans hHeld hp (fun _ _ h => h.elim)
        replace B_gN := hid_blk B_gN hp
        refine k_now hK hn ?_
        clear hK K hp hHeld
        have hHeld := hn
        clear hn
        try simp only [Act.put, List.setIfInBounds_toArray, List.set_cons_zero, List.set_cons_succ]
        (refine take_at 18 (some 83) rfl rfl (by kernel_rfl) (by kernel_rfl) (by kernel_rfl) (fun _ _ _ h => h) (v := ?_) (by kernel_rfl) ?_ (by assumption) ?_; rotate_left; (focus (intro wS hSw; skip; go_simp; try with_reducible rfl)); (try simp only [Act.put, List.setIfInBounds_toArray, List.set_cons_zero, List.set_cons_succ]))
        refine wpAnyH_ready (rs := [20]) (by kernel_rfl) (by simp) ?_
        refine AllReadyH.cons rfl (fun K hK => ?_) AllReadyH.nil
        have cgN0 := cell_at B_gN 0 rfl
        have cgN1 := cell_at B_gN 1 rfl
        have cgN2 := cell_at B_gN 2 rfl
        have cgN3 := cell_at B_gN 3 rfl
        have cgN4 := cell_at B_gN 4 rfl
        have cgN5 := cell_at B_gN 5 rfl
        have cgN6 := cell_at B_gN 6 rfl
        have cgN7 := cell_at B_gN 7 rfl
        have zgN := froz_at B_gN
        have lgN := hid_lt B_gN
        go_simp
        refine k_gen hK (fun y18 hW => ?_)
        obtain ⟨hB, hf⟩ := setE8 hW B_gN
        clear hW zgN lgN cgN0 cgN1 cgN2 cgN3 cgN4 cgN5 cgN6 cgN7
        have hn := Fp.trans hHeld hf (fun i hi e => by have h1 : i = gN := e; have h2 := R_gN.out; omega)
        refine ⟨hn, ?_⟩
        clear hK K hHeld
        have hHeld := hn
        clear hn
        try simp only [Act.put, List.setIfInBounds_toArray, List.set_cons_zero, List.set_cons_succ]
        replace B_gN := hB
        clear hB hf
        refine wpAnyH_done (by kernel_rfl) ?_ _
        go_wp2_with fail
        go_meet
        exact ⟨gN, rfl, B_gN.out, R_gN.out, hHeld⟩
  case rest =>
    obtain ⟨g8, rfl, hb8, hg8, hn8⟩ := hcut
    generalize wc = w3 at *
    have n_g8_gR : ¬ g8 = gR := by have h1 := hid_lt B_gR; omega
    have n_gR_g8 : ¬ gR = g8 := by omega
    replace HN := hid_now HN hn8
    replace B_gR := hid_blk B_gR hn8
    have B_g8 := Lib.hid hb8
    clear hb8 hn8 hg8
    clear K4 K6 K12 K16 x1 x8 x9 c4 p0 
    have cg80 := cell_at B_g8 0 rfl
    have cg81 := cell_at B_g8 1 rfl
    have cg82 := cell_at B_g8 2 rfl
    have cg83 := cell_at B_g8 3 rfl
    have cg84 := cell_at B_g8 4 rfl
    have cg85 := cell_at B_g8 5 rfl
    have cg86 := cell_at B_g8 6 rfl
    have cg87 := cell_at B_g8 7 rfl
    have zg8 := froz_at B_g8
    have lg8 := hid_lt B_g8
    go_upto_region 14 with fail
    refine wp_region_held_drew (S := fun wx => Fp (fun b => b = gR) w3 wx) (by kernel_rfl) (Fp.drew (Fp.refl _ _)) (fun hHeld0 => ?_)
    refine any_eq hHeld0 (fun z5 hW hHeld => ?_)
    clear hHeld0
    replace B_gR := hid_blk B_gR (noW_drew hW)
    replace B_g8 := hid_blk B_g8 (noW_drew hW)
    clear hW
    (refine take_at 0 (some 84) rfl rfl (by kernel_rfl) (by kernel_rfl) (by kernel_rfl) (fun _ _ _ h => h) (v := ?_) (by kernel_rfl) ?_ (by assumption) ?_; rotate_left; (focus (intro wS hSw; have hX := fun b o h hn => hSw.cell (p := ⟨b, o, none⟩) h hn; go_simp; try with_reducible rfl)); (try simp only [Act.put, List.setIfInBounds_toArray, List.set_cons_zero, List.set_cons_succ]))
    (refine take_at 1 (some 85) rfl rfl (by kernel_rfl) (by kernel_rfl) (by kernel_rfl) (fun _ _ _ h => h) (v := ?_) (by kernel_rfl) ?_ (by assumption) ?_; rotate_left; (focus (intro wS hSw; skip; go_simp; try with_reducible rfl)); (try simp only [Act.put, List.setIfInBounds_toArray, List.set_cons_zero, List.set_cons_succ]))
    (refine take_at 2 (some 86) rfl rfl (by kernel_rfl) (by kernel_rfl) (by kernel_rfl) (fun _ _ _ h => h) (v := ?_) (by kernel_rfl) ?_ (by assumption) ?_; rotate_left; (focus (intro wS hSw; skip; go_simp; try with_reducible rfl)); (try simp only [Act.put, List.setIfInBounds_toArray, List.set_cons_zero, List.set_cons_succ]))
    (refine take_at 3 (some 87) rfl rfl (by kernel_rfl) (by kernel_rfl) (by kernel_rfl) (fun _ _ _ h => h) (v := ?_) (by kernel_rfl) ?_ (by assumption) ?_; rotate_left; (focus (intro wS hSw; skip; go_simp; try with_reducible rfl)); (try simp only [Act.put, List.setIfInBounds_toArray, List.set_cons_zero, List.set_cons_succ]))
    (refine take_at 4 (some 88) rfl rfl (by kernel_rfl) (by kernel_rfl) (by kernel_rfl) (fun _ _ _ h => h) (v := ?_) (by kernel_rfl) ?_ (by assumption) ?_; rotate_left; (focus (intro wS hSw; skip; go_simp; try with_reducible rfl)); (try simp only [Act.put, List.setIfInBounds_toArray, List.set_cons_zero, List.set_cons_succ]))
    refine wpAnyH_ready (rs := [5]) (by kernel_rfl) (by simp) ?_
    refine AllReadyH.cons rfl (fun K hK => ?_) AllReadyH.nil
    have cgR0 := cell_at B_gR 0 rfl
    have cgR1 := cell_at B_gR 1 rfl
    have cgR2 := cell_at B_gR 2 rfl
    have cgR3 := cell_at B_gR 3 rfl
    have cgR4 := cell_at B_gR 4 rfl
    have cgR5 := cell_at B_gR 5 rfl
    have cgR6 := cell_at B_gR 6 rfl
    have cgR7 := cell_at B_gR 7 rfl
    have zgR := froz_at B_gR
    have lgR := hid_lt B_gR
    go_simp
    refine k_gen hK (fun z6 hW => ?_)
    obtain ⟨hB, hf⟩ := setE8 hW B_gR
    clear hW zgR lgR cgR0 cgR1 cgR2 cgR3 cgR4 cgR5 cgR6 cgR7
    have hn := Fp.trans hHeld hf (fun i _ e => e)
    refine ⟨hn, ?_⟩
    clear hK K hHeld
    have hHeld := hn
    clear hn
    try simp only [Act.put, List.setIfInBounds_toArray, List.set_cons_zero, List.set_cons_succ]
    replace B_g8 := hid_blkS B_g8 hf n_g8_gR
    replace B_gR := hB
    clear hB hf
    (refine take_at 6 (some 3) rfl rfl (by kernel_rfl) (by kernel_rfl) (by kernel_rfl) (fun _ _ _ h => h) (v := ?_) (by kernel_rfl) ?_ (by assumption) ?_; rotate_left; (focus (intro wS hSw; skip; go_simp; try with_reducible rfl)); (try simp only [Act.put, List.setIfInBounds_toArray, List.set_cons_zero, List.set_cons_succ]))
    (refine take_at 7 (some 4) rfl rfl (by kernel_rfl) (by kernel_rfl) (by kernel_rfl) (fun _ _ _ h => h) (v := ?_) (by kernel_rfl) ?_ (by assumption) ?_; rotate_left; (focus (intro wS hSw; skip; go_simp; try with_reducible rfl)); (try simp only [Act.put, List.setIfInBounds_toArray, List.set_cons_zero, List.set_cons_succ]))
    refine wpAnyH_done (by kernel_rfl) ?_ _
    clear cg80 cg81 cg82 cg83 cg84 cg85 cg86 cg87 zg8 lg8
    have hGe := hid_ge HN
    replace HN := hid_own HN hHeld (fun i hi e => by have h1 : i = gR := e; have h2 := G_gR.out; omega)
    clear hHeld hGe
    go_wp2_with fail
    have cgR0 := cell_at B_gR 0 rfl
    have cgR1 := cell_at B_gR 1 rfl
    have cgR2 := cell_at B_gR 2 rfl
    have cgR3 := cell_at B_gR 3 rfl
    have cgR4 := cell_at B_gR 4 rfl
    have cgR5 := cell_at B_gR 5 rfl
    have cgR6 := cell_at B_gR 6 rfl
    have cgR7 := cell_at B_gR 7 rfl
    have zgR := froz_at B_gR
    have lgR := hid_lt B_gR
    refine bodyPost_ret (v := .tuple #[.agg #[.int .u8 (byt l 1 : Nat), .int .u16 (g16 l 4 : Nat), .bool fl, .int .u8 (byt l 8 : Nat), .int .u8 (byt l 9 : Nat), .int .u32 (g32 l 12 : Nat), .int .u32 (g32 l 16 : Nat), str ((l.take own).drop 20)], str ((l.take all).drop own), .int .i64 0]) (by simp only [results, Tryz.results28]; go_simp) rfl ⟨rfl, HN.out⟩
set_option maxHeartbeats 4000000 in
set_option maxRecDepth 100000 in
theorem r04_ok1 (l : List UInt8) (own all a : Nat) (ha0 : byt l 0 = a) (h : 20 ≤ l.length) (hl : l.length ≤ 1000000) (hv : a / 16 = 4) (ho : a % 16 * 4 = own) (ha : g16 l 2 = all) (h1 : 20 ≤ own) (h2 : own ≤ all) (h3 : all ≤ l.length) (h5 : all ≤ 2048) (hs : csum [l.take own] = 0) (fr : Nat) (fl : Bool) (hfr : g16 l 6 = fr) (p0 : ((fr : Int) != 0) = true) (p1 : ((fr : Int) != 16384) = false) (hfl : decide (0 < fr) = fl) (w : World) : Calls Tryz.prog 28 #[str l] w (Ret1 (.tuple #[.agg #[.int .u8 (byt l 1 : Nat), .int .u16 (g16 l 4 : Nat), .bool fl, .int .u8 (byt l 8 : Nat), .int .u8 (byt l 9 : Nat), .int .u32 (g32 l 12 : Nat), .int .u32 (g32 l 16 : Nat), str ((l.take own).drop 20)], str ((l.take all).drop own), .int .i64 0]) w) := by
  have x0 := run_byte l (i := 0) (z := 0) rfl (by omega)
  have b0 := byt_lt l 0
  have bA := g16_lt l 2
  have KN := Lib.hid (fun W => r04_number l 2 hl (by omega) W)
  rw [ha0] at x0 b0
  rw [ha] at KN bA
  have ca : (a : Int) / 16 = 4 := by omega
  obtain ⟨m, hm⟩ : ∃ m, m = a % 16 := ⟨_, rfl⟩
  have c0 : (a : Int) % 16 = (m : Int) := by omega
  have c0' : (a : Int).tmod 16 = (m : Int) := by rw [Int.tmod_eq_emod_of_nonneg (by omega)]; omega
  have c1 : IntKind.i64.wrap (m : Int) = (m : Int) := IntWalk.i64_in _ (by omega)
  have c2 : IntKind.i64.wrap ((m : Int) * 4) = (own : Int) := (IntWalk.i64_in _ (by omega)).trans (by omega)
  have c2' : ((m : Int) * 4) = (own : Int) := by omega
  have ho60 : own ≤ 60 := by omega
  clear hm
  have d0 : decide ((own : Int) < 20) = false := decide_eq_false (by omega)
  have d1 : decide ((l.length : Int) < (own : Int)) = false := decide_eq_false (by omega)
  have d2 : decide ((all : Int) < (own : Int)) = false := decide_eq_false (by omega)
  have d3 : decide ((l.length : Int) < (all : Int)) = false := decide_eq_false (by omega)
  have d4 : decide ((2048 : Int) < (all : Int)) = false := decide_eq_false (by omega)
  have s0 := run_cutTo l (j := own) rfl (by omega)
  have KH := Lib.hid (fun g c W T fr hb => @r02_holds g c [l.take own] (by simp; omega) (by simp) W T fr hb)
  rw [decide_eq_true hs] at KH
  have K6 := Lib.hid (fun W => r04_number l 6 hl (by omega) W)
  rw [hfr] at K6
  have bfr : fr < 65536 := by rw [← hfr]; exact g16_lt l 6
  have K4 := Lib.hid (fun W => r04_number l 4 hl (by omega) W)
  have K12 := Lib.hid (fun W => r04_addr l 12 hl (by omega) W)
  have K16 := Lib.hid (fun W => r04_addr l 16 hl (by omega) W)
  have x1 := run_byte l (i := 1) (z := 1) rfl (by omega)
  have x8 := run_byte l (i := 8) (z := 8) rfl (by omega)
  have x9 := run_byte l (i := 9) (z := 9) rfl (by omega)
  have s1 := run_cut l (i := 20) (j := own) rfl rfl h1 (by omega)
  have s2 := run_cut l (i := own) (j := all) rfl rfl h2 h3
  have g4 := g16_lt l 4
  have c4 : IntKind.u16.wrap (g16 l 4 : Nat) = (g16 l 4 : Nat) := IntWalk.u16_in _ (by omega)
  have i20 : (20 : Int) ≤ (own : Int) := by omega
  have i21 : (own : Int) ≤ (l.length : Int) := by omega
  have ex1 := ext_cut l 20 own
  have i22 : (own : Int) ≤ (all : Int) := by omega
  have i23 : (all : Int) ≤ (l.length : Int) := by omega
  have ex2 := ext_cut l own all
  go_enter Tryz.func28, Tryz.ntmps28
  go_upto_region 5 with fail
  have HN := Lib.hid (Fp.refl (fun _ => False) w)
  refine wp_gen (fun x1 hW => ?_)
  have hp := new_now hW
  have hB := new_blk hW
  clear hW
  have hGe := hid_ge HN
  replace HN := hid_now HN hp
  obtain ⟨gR, hgR⟩ : ∃ gR, gR = w.heap.size := ⟨_, rfl⟩
  have G_gR := Lib.hid (Nat.le_trans hGe (Nat.le_of_eq hgR.symm))
  rw [← hgR] at hB ⊢
  have B_gR := hB
  clear hB hGe hgR
  clear hp
  (refine wp_region_quiet_below (by kernel_rfl) (by kernel_rfl) ?_; (repeat (quiet_step (exact low_call _ (fun W _ => KN.out W) _ _))); refine wpQuiet_nil ?_; intro wq hw'; have hlow := low_of hw'; clear hw')
  skip
  replace HN := hid_now HN hlow
  replace B_gR := hid_blk B_gR hlow
  clear hlow KN
  go_wp2_with fail
  refine calls_gen (fun x2 hW => ?_)
  have l2gR := hid_lt B_gR
  have hp := new_now hW
  have hB := new_blk hW
  clear hW
  have hGe := hid_ge HN
  replace HN := hid_now HN hp
  replace B_gR := hid_blk B_gR hp
  obtain ⟨gS, hgS⟩ : ∃ gS, gS = wq.heap.size := ⟨_, rfl⟩
  have G_gS := Lib.hid (Nat.le_trans hGe (Nat.le_of_eq hgS.symm))
  have n_gR_gS : ¬ gR = gS := by omega
  have n_gS_gR : ¬ gS = gR := by omega
  clear l2gR
  rw [← hgS] at hB ⊢
  have B_gS := hB
  clear hB hGe hgS
  clear hp
  refine (show Calls _ _ _ _ _ from KH.out gS _ _ _ _ B_gS.out).mono ?_
  rintro e x3 ⟨rfl, hp⟩
  replace HN := hid_now HN hp
  replace B_gR := hid_blk B_gR hp
  replace B_gS := hid_blk B_gS hp
  clear hp
  clear KH B_gS G_gS
  go_wp2_with fail
  refine (show Calls _ _ _ _ _ from K6.out _).mono ?_
  rintro e x4 ⟨rfl, hp⟩
  replace HN := hid_now HN hp
  replace B_gR := hid_blk B_gR hp
  clear hp
  go_upto_region 13 with fail
  go_cut [8] (fun s8 wx => ∃ g8, s8 = .pointer (some ⟨g8, 0, none⟩) ∧ wx.heap[g8]? = some (.cells #[.int .u8 (byt l 1 : Nat), .int .u16 (g16 l 4 : Nat), .bool fl, .int .u8 (byt l 8 : Nat), .int .u8 (byt l 9 : Nat), .int .u32 (g32 l 12 : Nat), .int .u32 (g32 l 16 : Nat), str ((l.take own).drop 20)] 67) ∧ x4.heap.size ≤ g8 ∧ NoW x4 wx)
  case first =>
      refine wp_region_held_drew (S := fun wx => NoW x4 wx) (by kernel_rfl) (Fp.drew (Fp.refl _ _)) (fun hHeld0 => ?_)
      refine any_eq hHeld0 (fun y1 hW hHeld => ?_)
      clear hHeld0
      clear hW
      (refine take_at 0 (some 65) rfl rfl (by kernel_rfl) (by kernel_rfl) (by kernel_rfl) (fun _ _ _ h => h) (v := ?_) (by kernel_rfl) ?_ (by assumption) ?_; rotate_left; (focus (intro wS hSw; skip; go_simp; try with_reducible rfl)); (try simp only [Act.put, List.setIfInBounds_toArray, List.set_cons_zero, List.set_cons_succ]))
      (refine take_at 1 (some 66) rfl rfl (by kernel_rfl) (by kernel_rfl) (by kernel_rfl) (fun _ _ _ h => h) (v := ?_) (by kernel_rfl) ?_ (by assumption) ?_; rotate_left; (focus (intro wS hSw; have hX := fun b o (h : b < _) => hSw.cell (p := ⟨b, o, none⟩) h id; go_simp; try with_reducible rfl)); (try simp only [Act.put, List.setIfInBounds_toArray, List.set_cons_zero, List.set_cons_succ]))
      (refine take_at 2 (some 67) rfl rfl (by kernel_rfl) (by kernel_rfl) (by kernel_rfl) (fun _ _ _ h => h) (v := ?_) (by kernel_rfl) ?_ (by assumption) ?_; rotate_left; (focus (intro wS hSw; skip; go_simp; try with_reducible rfl)); (try simp only [Act.put, List.setIfInBounds_toArray, List.set_cons_zero, List.set_cons_succ]))
      (refine take_at 5 (some 70) rfl rfl (by kernel_rfl) (by kernel_rfl) (by kernel_rfl) (fun _ _ _ h => h) (v := ?_) (by kernel_rfl) ?_ (by assumption) ?_; rotate_left; (focus (intro wS hSw; skip; go_simp; try with_reducible rfl)); (try simp only [Act.put, List.setIfInBounds_toArray, List.set_cons_zero, List.set_cons_succ]))
      (refine take_at 6 (some 71) rfl rfl (by kernel_rfl) (by kernel_rfl) (by kernel_rfl) (fun _ _ _ h => h) (v := ?_) (by kernel_rfl) ?_ (by assumption) ?_; rotate_left; (focus (intro wS hSw; skip; go_simp; try with_reducible rfl)); (try simp only [Act.put, List.setIfInBounds_toArray, List.set_cons_zero, List.set_cons_succ]))
      (refine take_at 7 (some 72) rfl rfl (by kernel_rfl) (by kernel_rfl) (by kernel_rfl) (fun _ _ _ h => h) (v := ?_) (by kernel_rfl) ?_ (by assumption) ?_; rotate_left; (focus (intro wS hSw; skip; go_simp; try with_reducible rfl)); (try simp only [Act.put, List.setIfInBounds_toArray, List.set_cons_zero, List.set_cons_succ]))
      (refine take_at 8 (some 73) rfl rfl (by kernel_rfl) (by kernel_rfl) (by kernel_rfl) (fun _ _ _ h => h) (v := ?_) (by kernel_rfl) ?_ (by assumption) ?_; rotate_left; (focus (intro wS hSw; have hX := fun b o (h : b < _) => hSw.cell (p := ⟨b, o, none⟩) h id; go_simp; try with_reducible rfl)); (try simp only [Act.put, List.setIfInBounds_toArray, List.set_cons_zero, List.set_cons_succ]))
      (refine take_at 9 (some 74) rfl rfl (by kernel_rfl) (by kernel_rfl) (by kernel_rfl) (fun _ _ _ h => h) (v := ?_) (by kernel_rfl) ?_ (by assumption) ?_; rotate_left; (focus (intro wS hSw; skip; go_simp; try with_reducible rfl)); (try simp only [Act.put, List.setIfInBounds_toArray, List.set_cons_zero, List.set_cons_succ]))
      (refine take_at 10 (some 75) rfl rfl (by kernel_rfl) (by kernel_rfl) (by kernel_rfl) (fun _ _ _ h => h) (v := ?_) (by kernel_rfl) ?_ (by assumption) ?_; rotate_left; (focus (intro wS hSw; have hX := fun b o (h : b < _) => hSw.cell (p := ⟨b, o, none⟩) h id; go_simp; try with_reducible rfl)); (try simp only [Act.put, List.setIfInBounds_toArray, List.set_cons_zero, List.set_cons_succ]))
      (refine take_at 11 (some 76) rfl rfl (by kernel_rfl) (by kernel_rfl) (by kernel_rfl) (fun _ _ _ h => h) (v := ?_) (by kernel_rfl) ?_ (by assumption) ?_; rotate_left; (focus (intro wS hSw; skip; go_simp; try with_reducible rfl)); (try simp only [Act.put, List.setIfInBounds_toArray, List.set_cons_zero, List.set_cons_succ]))
      (refine take_at 13 (some 78) rfl rfl (by kernel_rfl) (by kernel_rfl) (by kernel_rfl) (fun _ _ _ h => h) (v := ?_) (by kernel_rfl) ?_ (by assumption) ?_; rotate_left; (focus (intro wS hSw; skip; go_simp; try with_reducible rfl)); (try simp only [Act.put, List.setIfInBounds_toArray, List.set_cons_zero, List.set_cons_succ]))
      (refine take_at 15 (some 80) rfl rfl (by kernel_rfl) (by kernel_rfl) (by kernel_rfl) (fun _ _ _ h => h) (v := ?_) (by kernel_rfl) ?_ (by assumption) ?_; rotate_left; (focus (intro wS hSw; skip; go_simp; try with_reducible rfl)); (try simp only [Act.put, List.setIfInBounds_toArray, List.set_cons_zero, List.set_cons_succ]))
      (refine take_at 16 (some 81) rfl rfl (by kernel_rfl) (by kernel_rfl) (by kernel_rfl) (fun _ _ _ h => h) (v := ?_) (by kernel_rfl) ?_ (by assumption) ?_; rotate_left; (focus (intro wS hSw; skip; go_simp; try with_reducible rfl)); (try simp only [Act.put, List.setIfInBounds_toArray, List.set_cons_zero, List.set_cons_succ]))
      (refine take_at 17 (some 82) rfl rfl (by kernel_rfl) (by kernel_rfl) (by kernel_rfl) (fun _ _ _ h => h) (v := ?_) (by kernel_rfl) ?_ (by assumption) ?_; rotate_left; (focus (intro wS hSw; skip; go_simp; try with_reducible rfl)); (try simp only [Act.put, List.setIfInBounds_toArray, List.set_cons_zero, List.set_cons_succ]))
      refine wpAnyH_ready (rs := [3, 19]) (by kernel_rfl) (by simp) ?_
      refine AllReadyH.cons rfl (fun K hK => ?_) (AllReadyH.cons rfl (fun K hK => ?_) AllReadyH.nil)
      · go_simp
        go_at_call 59
        refine (show Calls _ _ _ _ _ from K4.out _).mono ?_
        rintro e y2 ⟨rfl, hp⟩
        have hn := Fp.trans hHeld hp (fun _ _ h => h.elim)
        refine k_now hK hn ?_
        clear hK K hp hHeld
        have hHeld := hn
        clear hn
        try simp only [Act.put, List.setIfInBounds_toArray, List.set_cons_zero, List.set_cons_succ]
        (refine take_at 4 (some 69) rfl rfl (by kernel_rfl) (by kernel_rfl) (by kernel_rfl) (fun _ _ _ h => h) (v := ?_) (by kernel_rfl) ?_ (by assumption) ?_; rotate_left; (focus (intro wS hSw; skip; go_simp; try with_reducible rfl)); (try simp only [Act.put, List.setIfInBounds_toArray, List.set_cons_zero, List.set_cons_succ]))
        refine wpAnyH_ready (rs := [12, 19]) (by kernel_rfl) (by simp) ?_
        refine AllReadyH.cons rfl (fun K hK => ?_) (AllReadyH.cons rfl (fun K hK => ?_) AllReadyH.nil)
        · go_simp
          go_at_call 61
          refine (show Calls _ _ _ _ _ from K12.out _).mono ?_
          rintro e y3 ⟨rfl, hp⟩
          have hn := Fp.trans hHeld hp (fun _ _ h => h.elim)
          refine k_now hK hn ?_
          clear hK K hp hHeld
          have hHeld := hn
          clear hn
          try simp only [Act.put, List.setIfInBounds_toArray, List.set_cons_zero, List.set_cons_succ]
          refine wpAnyH_ready (rs := [14, 19]) (by kernel_rfl) (by simp) ?_
          refine AllReadyH.cons rfl (fun K hK => ?_) (AllReadyH.cons rfl (fun K hK => ?_) AllReadyH.nil)
          · go_simp
            go_at_call 61
            refine (show Calls _ _ _ _ _ from K16.out _).mono ?_
            rintro e y4 ⟨rfl, hp⟩
            have hn := Fp.trans hHeld hp (fun _ _ h => h.elim)
            refine k_now hK hn ?_
            clear hK K hp hHeld
            have hHeld := hn
            clear hn
            try simp only [Act.put, List.setIfInBounds_toArray, List.set_cons_zero, List.set_cons_succ]
            (refine take_at 18 (some 83) rfl rfl (by kernel_rfl) (by kernel_rfl) (by kernel_rfl) (fun _ _ _ h => h) (v := ?_) (by kernel_rfl) ?_ (by assumption) ?_; rotate_left; (focus (intro wS hSw; skip; go_simp; try with_reducible rfl)); (try simp only [Act.put, List.setIfInBounds_toArray, List.set_cons_zero, List.set_cons_succ]))
            refine wpAnyH_ready (rs := [19]) (by kernel_rfl) (by simp) ?_
            refine AllReadyH.cons rfl (fun K hK => ?_) AllReadyH.nil
            go_simp
            refine k_gen hK (fun y5 hW => ?_)
            have hp := new_now hW
            have hB := new_blk hW
            have hGe := Fp.size hHeld
            clear hW
            refine ⟨Fp.trans hHeld hp (fun _ _ h => h.elim), ?_⟩
            replace hHeld := Fp.trans hHeld hp (fun _ _ h => h.elim)
            clear hK K
            try simp only [Act.put, List.setIfInBounds_toArray, List.set_cons_zero, List.set_cons_succ]
            obtain ⟨gN, hgN⟩ : ∃ gN, gN = y4.heap.size := ⟨_, rfl⟩
            have R_gN := Lib.hid (Nat.le_trans hGe (Nat.le_of_eq hgN.symm))
            rw [← hgN] at hB ⊢
            have B_gN := hB
            clear hB hgN hp hGe
            refine wpAnyH_ready (rs := [20]) (by kernel_rfl) (by simp) ?_
            refine AllReadyH.cons rfl (fun K hK => ?_) AllReadyH.nil
            have cgN0 := cell_at B_gN 0 rfl
            have cgN1 := cell_at B_gN 1 rfl
            have cgN2 := cell_at B_gN 2 rfl
            have cgN3 := cell_at B_gN 3 rfl
            have cgN4 := cell_at B_gN 4 rfl
            have cgN5 := cell_at B_gN 5 rfl
            have cgN6 := cell_at B_gN 6 rfl
            have cgN7 := cell_at B_gN 7 rfl
            have zgN := froz_at B_gN
            have lgN := hid_lt B_gN
            go_simp
            refine k_gen hK (fun y6 hW => ?_)
            obtain ⟨hB, hf⟩ := setE8 hW B_gN
            clear hW zgN lgN cgN0 cgN1 cgN2 cgN3 cgN4 cgN5 cgN6 cgN7
            have hn := Fp.trans hHeld hf (fun i hi e => by have h1 : i = gN := e; have h2 := R_gN.out; omega)
            refine ⟨hn, ?_⟩
            clear hK K hHeld
            have hHeld := hn
            clear hn
            try simp only [Act.put, List.setIfInBounds_toArray, List.set_cons_zero, List.set_cons_succ]
            replace B_gN := hB
            clear hB hf
            refine wpAnyH_done (by kernel_rfl) ?_ _
            go_wp2_with fail
            go_meet
            exact ⟨gN, rfl, B_gN.out, R_gN.out, hHeld⟩
          · go_simp
            refine k_gen hK (fun y7 hW => ?_)
            have hp := new_now hW
            have hB := new_blk hW
            have hGe := Fp.size hHeld
            clear hW
            refine ⟨Fp.trans hHeld hp (fun _ _ h => h.elim), ?_⟩
            replace hHeld := Fp.trans hHeld hp (fun _ _ h => h.elim)
            clear hK K
            try simp only [Act.put, List.setIfInBounds_toArray, List.set_cons_zero, List.set_cons_succ]
            obtain ⟨gN, hgN⟩ : ∃ gN, gN = y3.heap.size := ⟨_, rfl⟩
            have R_gN := Lib.hid (Nat.le_trans hGe (Nat.le_of_eq hgN.symm))
            rw [← hgN] at hB ⊢
            have B_gN := hB
            clear hB hgN hp hGe
            refine wpAnyH_ready (rs := [14]) (by kernel_rfl) (by simp) ?_
            refine AllReadyH.cons rfl (fun K hK => ?_) AllReadyH.nil
            go_simp
            go_at_call 61
            refine (show Calls _ _ _ _ _ from K16.out _).mono ?_
            rintro e y8 ⟨rfl, hp⟩
            have hn := Fp.trans hHeld hp (fun _ _ h => h.elim)
            replace B_gN := hid_blk B_gN hp
            refine k_now hK hn ?_
            clear hK K hp hHeld
            have hHeld := hn
            clear hn
            try simp only [Act.put, List.setIfInBounds_toArray, List.set_cons_zero, List.set_cons_succ]
            (refine take_at 18 (some 83) rfl rfl (by kernel_rfl) (by kernel_rfl) (by kernel_rfl) (fun _ _ _ h => h) (v := ?_) (by kernel_rfl) ?_ (by assumption) ?_; rotate_left; (focus (intro wS hSw; skip; go_simp; try with_reducible rfl)); (try simp only [Act.put, List.setIfInBounds_toArray, List.set_cons_zero, List.set_cons_succ]))
            refine wpAnyH_ready (rs := [20]) (by kernel_rfl) (by simp) ?_
            refine AllReadyH.cons rfl (fun K hK => ?_) AllReadyH.nil
            have cgN0 := cell_at B_gN 0 rfl
            have cgN1 := cell_at B_gN 1 rfl
            have cgN2 := cell_at B_gN 2 rfl
            have cgN3 := cell_at B_gN 3 rfl
            have cgN4 := cell_at B_gN 4 rfl
            have cgN5 := cell_at B_gN 5 rfl
            have cgN6 := cell_at B_gN 6 rfl
            have cgN7 := cell_at B_gN 7 rfl
            have zgN := froz_at B_gN
            have lgN := hid_lt B_gN
            go_simp
            refine k_gen hK (fun y9 hW => ?_)
            obtain ⟨hB, hf⟩ := setE8 hW B_gN
            clear hW zgN lgN cgN0 cgN1 cgN2 cgN3 cgN4 cgN5 cgN6 cgN7
            have hn := Fp.trans hHeld hf (fun i hi e => by have h1 : i = gN := e; have h2 := R_gN.out; omega)
            refine ⟨hn, ?_⟩
            clear hK K hHeld
            have hHeld := hn
            clear hn
            try simp only [Act.put, List.setIfInBounds_toArray, List.set_cons_zero, List.set_cons_succ]
            replace B_gN := hB
            clear hB hf
            refine wpAnyH_done (by kernel_rfl) ?_ _
            go_wp2_with fail
            go_meet
            exact ⟨gN, rfl, B_gN.out, R_gN.out, hHeld⟩
        · go_simp
          refine k_gen hK (fun y10 hW => ?_)
          have hp := new_now hW
          have hB := new_blk hW
          have hGe := Fp.size hHeld
          clear hW
          refine ⟨Fp.trans hHeld hp (fun _ _ h => h.elim), ?_⟩
          replace hHeld := Fp.trans hHeld hp (fun _ _ h => h.elim)
          clear hK K
          try simp only [Act.put, List.setIfInBounds_toArray, List.set_cons_zero, List.set_cons_succ]
          obtain ⟨gN, hgN⟩ : ∃ gN, gN = y2.heap.size := ⟨_, rfl⟩
          have R_gN := Lib.hid (Nat.le_trans hGe (Nat.le_of_eq hgN.symm))
          rw [← hgN] at hB ⊢
          have B_gN := hB
          clear hB hgN hp hGe
          refine wpAnyH_ready (rs := [12]) (by kernel_rfl) (by simp) ?_
          refine AllReadyH.cons rfl (fun K hK => ?_) AllReadyH.nil
          go_simp
          go_at_call 61
          refine (show Calls _ _ _ _ _ from K12.out _).mono ?_
          rintro e y11 ⟨rfl, hp⟩
          have hn := Fp.trans hHeld hp (fun _ _ h => h.elim)
          replace B_gN := hid_blk B_gN hp
          refine k_now hK hn ?_
          clear hK K hp hHeld
          have hHeld := hn
          clear hn
          try simp only [Act.put, List.setIfInBounds_toArray, List.set_cons_zero, List.set_cons_succ]
          refine wpAnyH_ready (rs := [14]) (by kernel_rfl) (by simp) ?_
          refine AllReadyH.cons rfl (fun K hK => ?_) AllReadyH.nil
          go_simp
          go_at_call 61
          refine (show Calls _ _ _ _ _ from K16.out _).mono ?_
          rintro e y12 ⟨rfl, hp⟩
          have hn := Fp.trans hHeld hp (fun _ _ h => h.elim)
          replace B_gN := hid_blk B_gN hp
          refine k_now hK hn ?_
          clear hK K hp hHeld
          have hHeld := hn
          clear hn
          try simp only [Act.put, List.setIfInBounds_toArray, List.set_cons_zero, List.set_cons_succ]
          (refine take_at 18 (some 83) rfl rfl (by kernel_rfl) (by kernel_rfl) (by kernel_rfl) (fun _ _ _ h => h) (v := ?_) (by kernel_rfl) ?_ (by assumption) ?_; rotate_left; (focus (intro wS hSw; skip; go_simp; try with_reducible rfl)); (try simp only [Act.put, List.setIfInBounds_toArray, List.set_cons_zero, List.set_cons_succ]))
          refine wpAnyH_ready (rs := [20]) (by kernel_rfl) (by simp) ?_
          refine AllReadyH.cons rfl (fun K hK => ?_) AllReadyH.nil
          have cgN0 := cell_at B_gN 0 rfl
          have cgN1 := cell_at B_gN 1 rfl
          have cgN2 := cell_at B_gN 2 rfl
          have cgN3 := cell_at B_gN 3 rfl
          have cgN4 := cell_at B_gN 4 rfl
          have cgN5 := cell_at B_gN 5 rfl
          have cgN6 := cell_at B_gN 6 rfl
          have cgN7 := cell_at B_gN 7 rfl
          have zgN := froz_at B_gN
          have lgN := hid_lt B_gN
          go_simp
          refine k_gen hK (fun y13 hW => ?_)
          obtain ⟨hB, hf⟩ := setE8 hW B_gN
          clear hW zgN lgN cgN0 cgN1 cgN2 cgN3 cgN4 cgN5 cgN6 cgN7
          have hn := Fp.trans hHeld hf (fun i hi e => by have h1 : i = gN := e; have h2 := R_gN.out; omega)
          refine ⟨hn, ?_⟩
          clear hK K hHeld
          have hHeld := hn
          clear hn
          try simp only [Act.put, List.setIfInBounds_toArray, List.set_cons_zero, List.set_cons_succ]
          replace B_gN := hB
          clear hB hf
          refine wpAnyH_done (by kernel_rfl) ?_ _
          go_wp2_with fail
          go_meet
          exact ⟨gN, rfl, B_gN.out, R_gN.out, hHeld⟩
      · go_simp
        refine k_gen hK (fun y14 hW => ?_)
        have hp := new_now hW
        have hB := new_blk hW
        have hGe := Fp.size hHeld
        clear hW
        refine ⟨Fp.trans hHeld hp (fun _ _ h => h.elim), ?_⟩
        replace hHeld := Fp.trans hHeld hp (fun _ _ h => h.elim)
        clear hK K
        try simp only [Act.put, List.setIfInBounds_toArray, List.set_cons_zero, List.set_cons_succ]
        obtain ⟨gN, hgN⟩ : ∃ gN, gN = y1.heap.size := ⟨_, rfl⟩
        have R_gN := Lib.hid (Nat.le_trans hGe (Nat.le_of_eq hgN.symm))
        rw [← hgN] at hB ⊢
        have B_gN := hB
        clear hB hgN hp hGe
        refine wpAnyH_ready (rs := [3]) (by kernel_rfl) (by simp) ?_
        refine AllReadyH.cons rfl (fun K hK => ?_) AllReadyH.nil
        go_simp
        go_at_call 59
        refine (show Calls _ _ _ _ _ from K4.out _).mono ?_
        rintro e y15 ⟨rfl, hp⟩
        have hn := Fp.trans hHeld hp (fun _ _ h => h.elim)
        replace B_gN := hid_blk B_gN hp
        refine k_now hK hn ?_
        clear hK K hp hHeld
        have hHeld := hn
        clear hn
        try simp only [Act.put, List.setIfInBounds_toArray, List.set_cons_zero, List.set_cons_succ]
        (refine take_at 4 (some 69) rfl rfl (by kernel_rfl) (by kernel_rfl) (by kernel_rfl) (fun _ _ _ h => h) (v := ?_) (by kernel_rfl) ?_ (by assumption) ?_; rotate_left; (focus (intro wS hSw; skip; go_simp; try with_reducible rfl)); (try simp only [Act.put, List.setIfInBounds_toArray, List.set_cons_zero, List.set_cons_succ]))
        refine wpAnyH_ready (rs := [12]) (by kernel_rfl) (by simp) ?_
        refine AllReadyH.cons rfl (fun K hK => ?_) AllReadyH.nil
        go_simp
        go_at_call 61
        refine (show Calls _ _ _ _ _ from K12.out _).mono ?_
        rintro e y16 ⟨rfl, hp⟩
        have hn := Fp.trans hHeld hp (fun _ _ h => h.elim)
        replace B_gN := hid_blk B_gN hp
        refine k_now hK hn ?_
        clear hK K hp hHeld
        have hHeld := hn
        clear hn
        try simp only [Act.put, List.setIfInBounds_toArray, List.set_cons_zero, List.set_cons_succ]
        refine wpAnyH_ready (rs := [14]) (by kernel_rfl) (by simp) ?_
        refine AllReadyH.cons rfl (fun K hK => ?_) AllReadyH.nil
        go_simp
        go_at_call 61
        refine (show Calls _ _ _ _ _ from K16.out _).mono ?_
        rintro e y17 ⟨rfl, hp⟩
        have hn := Fp.trans hHeld hp (fun _ _ h => h.elim)
        replace B_gN := hid_blk B_gN hp
        refine k_now hK hn ?_
        clear hK K hp hHeld
        have hHeld := hn
        clear hn
        try simp only [Act.put, List.setIfInBounds_toArray, List.set_cons_zero, List.set_cons_succ]
        (refine take_at 18 (some 83) rfl rfl (by kernel_rfl) (by kernel_rfl) (by kernel_rfl) (fun _ _ _ h => h) (v := ?_) (by kernel_rfl) ?_ (by assumption) ?_; rotate_left; (focus (intro wS hSw; skip; go_simp; try with_reducible rfl)); (try simp only [Act.put, List.setIfInBounds_toArray, List.set_cons_zero, List.set_cons_succ]))
        refine wpAnyH_ready (rs := [20]) (by kernel_rfl) (by simp) ?_
        refine AllReadyH.cons rfl (fun K hK => ?_) AllReadyH.nil
        have cgN0 := cell_at B_gN 0 rfl
        have cgN1 := cell_at B_gN 1 rfl
        have cgN2 := cell_at B_gN 2 rfl
        have cgN3 := cell_at B_gN 3 rfl
        have cgN4 := cell_at B_gN 4 rfl
        have cgN5 := cell_at B_gN 5 rfl
        have cgN6 := cell_at B_gN 6 rfl
        have cgN7 := cell_at B_gN 7 rfl
        have zgN := froz_at B_gN
        have lgN := hid_lt B_gN
        go_simp
        refine k_gen hK (fun y18 hW => ?_)
        obtain ⟨hB, hf⟩ := setE8 hW B_gN
        clear hW zgN lgN cgN0 cgN1 cgN2 cgN3 cgN4 cgN5 cgN6 cgN7
        have hn := Fp.trans hHeld hf (fun i hi e => by have h1 : i = gN := e; have h2 := R_gN.out; omega)
        refine ⟨hn, ?_⟩
        clear hK K hHeld
        have hHeld := hn
        clear hn
        try simp only [Act.put, List.setIfInBounds_toArray, List.set_cons_zero, List.set_cons_succ]
        replace B_gN := hB
        clear hB hf
        refine wpAnyH_done (by kernel_rfl) ?_ _
        go_wp2_with fail
        go_meet
        exact ⟨gN, rfl, B_gN.out, R_gN.out, hHeld⟩
  case rest =>
    obtain ⟨g8, rfl, hb8, hg8, hn8⟩ := hcut
    generalize wc = w3 at *
    have n_g8_gR : ¬ g8 = gR := by have h1 := hid_lt B_gR; omega
    have n_gR_g8 : ¬ gR = g8 := by omega
    replace HN := hid_now HN hn8
    replace B_gR := hid_blk B_gR hn8
    have B_g8 := Lib.hid hb8
    clear hb8 hn8 hg8
    clear K4 K6 K12 K16 x1 x8 x9 c4 p0 
    have cg80 := cell_at B_g8 0 rfl
    have cg81 := cell_at B_g8 1 rfl
    have cg82 := cell_at B_g8 2 rfl
    have cg83 := cell_at B_g8 3 rfl
    have cg84 := cell_at B_g8 4 rfl
    have cg85 := cell_at B_g8 5 rfl
    have cg86 := cell_at B_g8 6 rfl
    have cg87 := cell_at B_g8 7 rfl
    have zg8 := froz_at B_g8
    have lg8 := hid_lt B_g8
    go_upto_region 14 with fail
    refine wp_region_held_drew (S := fun wx => Fp (fun b => b = gR) w3 wx) (by kernel_rfl) (Fp.drew (Fp.refl _ _)) (fun hHeld0 => ?_)
    refine any_eq hHeld0 (fun z5 hW hHeld => ?_)
    clear hHeld0
    replace B_gR := hid_blk B_gR (noW_drew hW)
    replace B_g8 := hid_blk B_g8 (noW_drew hW)
    clear hW
    (refine take_at 0 (some 84) rfl rfl (by kernel_rfl) (by kernel_rfl) (by kernel_rfl) (fun _ _ _ h => h) (v := ?_) (by kernel_rfl) ?_ (by assumption) ?_; rotate_left; (focus (intro wS hSw; have hX := fun b o h hn => hSw.cell (p := ⟨b, o, none⟩) h hn; go_simp; try with_reducible rfl)); (try simp only [Act.put, List.setIfInBounds_toArray, List.set_cons_zero, List.set_cons_succ]))
    (refine take_at 1 (some 85) rfl rfl (by kernel_rfl) (by kernel_rfl) (by kernel_rfl) (fun _ _ _ h => h) (v := ?_) (by kernel_rfl) ?_ (by assumption) ?_; rotate_left; (focus (intro wS hSw; skip; go_simp; try with_reducible rfl)); (try simp only [Act.put, List.setIfInBounds_toArray, List.set_cons_zero, List.set_cons_succ]))
    (refine take_at 2 (some 86) rfl rfl (by kernel_rfl) (by kernel_rfl) (by kernel_rfl) (fun _ _ _ h => h) (v := ?_) (by kernel_rfl) ?_ (by assumption) ?_; rotate_left; (focus (intro wS hSw; skip; go_simp; try with_reducible rfl)); (try simp only [Act.put, List.setIfInBounds_toArray, List.set_cons_zero, List.set_cons_succ]))
    (refine take_at 3 (some 87) rfl rfl (by kernel_rfl) (by kernel_rfl) (by kernel_rfl) (fun _ _ _ h => h) (v := ?_) (by kernel_rfl) ?_ (by assumption) ?_; rotate_left; (focus (intro wS hSw; skip; go_simp; try with_reducible rfl)); (try simp only [Act.put, List.setIfInBounds_toArray, List.set_cons_zero, List.set_cons_succ]))
    (refine take_at 4 (some 88) rfl rfl (by kernel_rfl) (by kernel_rfl) (by kernel_rfl) (fun _ _ _ h => h) (v := ?_) (by kernel_rfl) ?_ (by assumption) ?_; rotate_left; (focus (intro wS hSw; skip; go_simp; try with_reducible rfl)); (try simp only [Act.put, List.setIfInBounds_toArray, List.set_cons_zero, List.set_cons_succ]))
    refine wpAnyH_ready (rs := [5]) (by kernel_rfl) (by simp) ?_
    refine AllReadyH.cons rfl (fun K hK => ?_) AllReadyH.nil
    have cgR0 := cell_at B_gR 0 rfl
    have cgR1 := cell_at B_gR 1 rfl
    have cgR2 := cell_at B_gR 2 rfl
    have cgR3 := cell_at B_gR 3 rfl
    have cgR4 := cell_at B_gR 4 rfl
    have cgR5 := cell_at B_gR 5 rfl
    have cgR6 := cell_at B_gR 6 rfl
    have cgR7 := cell_at B_gR 7 rfl
    have zgR := froz_at B_gR
    have lgR := hid_lt B_gR
    go_simp
    refine k_gen hK (fun z6 hW => ?_)
    obtain ⟨hB, hf⟩ := setE8 hW B_gR
    clear hW zgR lgR cgR0 cgR1 cgR2 cgR3 cgR4 cgR5 cgR6 cgR7
    have hn := Fp.trans hHeld hf (fun i _ e => e)
    refine ⟨hn, ?_⟩
    clear hK K hHeld
    have hHeld := hn
    clear hn
    try simp only [Act.put, List.setIfInBounds_toArray, List.set_cons_zero, List.set_cons_succ]
    replace B_g8 := hid_blkS B_g8 hf n_g8_gR
    replace B_gR := hB
    clear hB hf
    (refine take_at 6 (some 3) rfl rfl (by kernel_rfl) (by kernel_rfl) (by kernel_rfl) (fun _ _ _ h => h) (v := ?_) (by kernel_rfl) ?_ (by assumption) ?_; rotate_left; (focus (intro wS hSw; skip; go_simp; try with_reducible rfl)); (try simp only [Act.put, List.setIfInBounds_toArray, List.set_cons_zero, List.set_cons_succ]))
    (refine take_at 7 (some 4) rfl rfl (by kernel_rfl) (by kernel_rfl) (by kernel_rfl) (fun _ _ _ h => h) (v := ?_) (by kernel_rfl) ?_ (by assumption) ?_; rotate_left; (focus (intro wS hSw; skip; go_simp; try with_reducible rfl)); (try simp only [Act.put, List.setIfInBounds_toArray, List.set_cons_zero, List.set_cons_succ]))
    refine wpAnyH_done (by kernel_rfl) ?_ _
    clear cg80 cg81 cg82 cg83 cg84 cg85 cg86 cg87 zg8 lg8
    have hGe := hid_ge HN
    replace HN := hid_own HN hHeld (fun i hi e => by have h1 : i = gR := e; have h2 := G_gR.out; omega)
    clear hHeld hGe
    go_wp2_with fail
    have cgR0 := cell_at B_gR 0 rfl
    have cgR1 := cell_at B_gR 1 rfl
    have cgR2 := cell_at B_gR 2 rfl
    have cgR3 := cell_at B_gR 3 rfl
    have cgR4 := cell_at B_gR 4 rfl
    have cgR5 := cell_at B_gR 5 rfl
    have cgR6 := cell_at B_gR 6 rfl
    have cgR7 := cell_at B_gR 7 rfl
    have zgR := froz_at B_gR
    have lgR := hid_lt B_gR
    refine bodyPost_ret (v := .tuple #[.agg #[.int .u8 (byt l 1 : Nat), .int .u16 (g16 l 4 : Nat), .bool fl, .int .u8 (byt l 8 : Nat), .int .u8 (byt l 9 : Nat), .int .u32 (g32 l 12 : Nat), .int .u32 (g32 l 16 : Nat), str ((l.take own).drop 20)], str ((l.take all).drop own), .int .i64 0]) (by simp only [results, Tryz.results28]; go_simp) rfl ⟨rfl, HN.out⟩
theorem r04_parse (l : List UInt8) (hl : l.length ≤ 1000000) (w : World) : Calls Tryz.prog 28 #[str l] w (Ret1 (ipV l) w) := by
  by_cases h0 : l.length < 20
  · rw [ipV_no (k := 1) (by unfold ipWhy; rw [if_pos h0]) (by omega)]
    exact r04_short l h0 w
  by_cases h1 : byt l 0 / 16 ≠ 4
  · rw [ipV_no (k := 2) (by unfold ipWhy; rw [if_neg h0, if_pos h1]) (by omega)]
    exact r04_ver l (by omega) h1 w
  have h1' : byt l 0 / 16 = 4 := by omega
  by_cases h2 : 20 ≤ byt l 0 % 16 * 4 ∧ byt l 0 % 16 * 4 ≤ g16 l 2 ∧ g16 l 2 ≤ l.length ∧ g16 l 2 ≤ 2048
  · have k1 : 20 ≤ ipOwn l := h2.1
    have k2 : ipOwn l ≤ g16 l 2 := h2.2.1
    by_cases h3 : csum [l.take (ipOwn l)] ≠ 0
    · rw [ipV_no (k := 4) (by unfold ipWhy; rw [if_neg h0, if_neg h1, if_neg (fun h => h h2), if_pos (show csum [l.take (byt l 0 % 16 * 4)] ≠ 0 from h3)]) (by omega)]
      exact r04_sum l (ipOwn l) _ _ rfl (by omega) hl h1' rfl rfl k1 k2 h2.2.2.1 h2.2.2.2 h3 w
    · have h3' : csum [l.take (ipOwn l)] = 0 := by omega
      have hw : ipWhy l = if g16 l 6 ≠ 0 ∧ g16 l 6 ≠ 16384 then 5 else 0 := by unfold ipWhy; rw [if_neg h0, if_neg h1, if_neg (fun h => h h2), if_neg (show ¬ csum [l.take (byt l 0 % 16 * 4)] ≠ 0 from h3)]
      by_cases q0 : g16 l 6 = 0
      · have hz : ipWhy l = 0 := by rw [hw, if_neg (by omega)]
        have hv : ipV l = .tuple #[ipH l false, str (ipLoad l), .int .i64 0] := by unfold ipV; rw [if_pos hz, q0]; rfl
        rw [hv]
        exact r04_ok0 l (ipOwn l) _ _ rfl (by omega) hl h1' rfl rfl k1 k2 h2.2.2.1 h2.2.2.2 h3' _ false q0 rfl rfl w
      · by_cases q1 : g16 l 6 = 16384
        · have hz : ipWhy l = 0 := by rw [hw, if_neg (by omega)]
          have hv : ipV l = .tuple #[ipH l true, str (ipLoad l), .int .i64 0] := by unfold ipV; rw [if_pos hz, q1]; rfl
          rw [hv]
          exact r04_ok1 l (ipOwn l) _ _ rfl (by omega) hl h1' rfl rfl k1 k2 h2.2.2.1 h2.2.2.2 h3' _ true q1 rfl rfl rfl w
        · rw [ipV_no (k := 5) (by rw [hw, if_pos ⟨q0, q1⟩]) (by omega)]
          exact r04_frag l (ipOwn l) _ _ rfl (by omega) hl h1' rfl rfl k1 k2 h2.2.2.1 h2.2.2.2 h3' _ rfl q0 q1 w
  · rw [ipV_no (k := 3) (by unfold ipWhy; rw [if_neg h0, if_neg h1, if_pos h2]) (by omega)]
    exact r04_len l _ _ _ rfl (by omega) hl h1' rfl rfl h2 w
end Go.Proofs.YtmghjaoodnkjlaaGreatDoor
