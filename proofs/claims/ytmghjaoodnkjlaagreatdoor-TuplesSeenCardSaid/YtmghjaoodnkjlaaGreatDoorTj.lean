/- Chapter 08: tcp.halves, tcp.Parse (written by gen8j.py). -/
import Derived.Test.YtmghjaoodnkjlaaGreatDoorTf
namespace Go.Proofs.YtmghjaoodnkjlaaGreatDoor
set_option linter.unusedVariables false
set_option linter.unusedSimpArgs false
open Go.RowKit Go.Lib Go.Sort

set_option maxHeartbeats 2000000 in
set_option maxRecDepth 100000 in
theorem halves2_ok (l : List UInt8) (hl : l.length ≤ 1000000) (gS cS gH : Nat) (T : TypeId) (z0 z1 z2 z3 z4 z5 z6 z7 z8 z9 : Value) (w : World) (hH : w.heap[gH]? = some (.cells #[z0, z1, z2, z3, z4, z5, z6, z7, z8, z9] T (0, 0))) (hs0 : w.cell? ⟨gS, 0, none⟩ = some (.pointer (some ⟨gH, 0, none⟩))) (hs1 : w.cell? ⟨gS, 1, none⟩ = some (.pointer (some ⟨gH, 1, none⟩))) (hne : ¬ gS = gH) :
    Calls Tryz.prog 125 #[str l, .int .i64 0, .slice (some ⟨gS, 0, none⟩) 2 cS] w fun e w' => (∃ v, e = .returned v) ∧ w'.heap[gH]? = some (.cells #[.int .u16 (g16 l 0 : Nat), .int .u16 (g16 l 2 : Nat), z2, z3, z4, z5, z6, z7, z8, z9] T (0, 0)) ∧ Fp (fun b => b = gH) w w' := by
  have K0 := Lib.hid (fun W => get16_ok l 0 hl (by omega) W)
  have K1 := Lib.hid (fun W => get16_ok l 2 hl (by omega) W)
  have lS := cell_lt hs0
  have B0 := Lib.hid hH
  have N0 := Lib.hid (Fp.refl (fun b => b = gH) w)
  have S0 := Lib.hid hs0
  have S1 := Lib.hid hs1
  go_enter Tryz.func125, Tryz.ntmps125
  go_wp2_with fail
  refine wp_loop_rounds 3 ?_
  clear hH hs0 hs1
  have p0 : w.cell? ⟨gS, 0, none⟩ = some (.pointer (some ⟨gH, 0, none⟩)) := (N0.out.cell (p := ⟨gS, 0, none⟩) lS hne).trans S0.out
  rw [rounds_succ]
  go_wp2_with fail
  refine (K0.out _).mono ?_
  rintro e x0 ⟨rfl, hp⟩
  have hb := (hp.block _ (Array.getElem?_eq_some_iff.1 B0.out).1 id).trans B0.out
  have hn := N0.out.trans hp (fun _ _ h => absurd h id)
  have y0 : x0.cell? ⟨gH, 0, none⟩ = some z0 := by simp [World.cell?, hb]
  have yz0 : x0.frozen? ⟨gH, 0, none⟩ = false := by simp [World.frozen?, hb]
  clear hp
  have HB := Lib.hid hb
  clear hb
  go_wp2_with fail
  have hb := heap_set x0 gH 0 _ _ (.int .u16 (g16 l 0 : Nat)) HB.out
  simp only [List.setIfInBounds_toArray, List.set_cons_zero, List.set_cons_succ] at hb
  have hn2 := hn.setCell (p := ⟨gH, 0, none⟩) (Or.inr rfl) (.int .u16 (g16 l 0 : Nat))
  generalize x0.setCell ⟨gH, 0, none⟩ (.int .u16 (g16 l 0 : Nat)) = w1 at *
  have B1 := Lib.hid hb
  have N1 := Lib.hid hn2
  clear hb hn hn2 HB y0 yz0 B0 N0 K0 p0
  have p1 : w1.cell? ⟨gS, 1, none⟩ = some (.pointer (some ⟨gH, 1, none⟩)) := (N1.out.cell (p := ⟨gS, 1, none⟩) lS hne).trans S1.out
  rw [rounds_succ]
  go_wp2_with fail
  refine (K1.out _).mono ?_
  rintro e x1 ⟨rfl, hp⟩
  have hb := (hp.block _ (Array.getElem?_eq_some_iff.1 B1.out).1 id).trans B1.out
  have hn := N1.out.trans hp (fun _ _ h => absurd h id)
  have y0 : x1.cell? ⟨gH, 1, none⟩ = some z1 := by simp [World.cell?, hb]
  have yz0 : x1.frozen? ⟨gH, 1, none⟩ = false := by simp [World.frozen?, hb]
  clear hp
  have HB := Lib.hid hb
  clear hb
  go_wp2_with fail
  have hb := heap_set x1 gH 1 _ _ (.int .u16 (g16 l 2 : Nat)) HB.out
  simp only [List.setIfInBounds_toArray, List.set_cons_zero, List.set_cons_succ] at hb
  have hn2 := hn.setCell (p := ⟨gH, 1, none⟩) (Or.inr rfl) (.int .u16 (g16 l 2 : Nat))
  generalize x1.setCell ⟨gH, 1, none⟩ (.int .u16 (g16 l 2 : Nat)) = w2 at *
  have B2 := Lib.hid hb
  have N2 := Lib.hid hn2
  clear hb hn hn2 HB y0 yz0 B1 N1 K1 p1
  rw [rounds_succ]
  go_wp2_with fail
  go_end0
  exact ⟨⟨_, rfl⟩, B2.out, N2.out⟩

set_option maxHeartbeats 2000000 in
set_option maxRecDepth 100000 in
theorem halves3_ok (l : List UInt8) (hl : l.length ≤ 1000000) (gS cS gH : Nat) (T : TypeId) (z0 z1 z2 z3 z4 z5 z6 z7 z8 z9 : Value) (w : World) (hH : w.heap[gH]? = some (.cells #[z0, z1, z2, z3, z4, z5, z6, z7, z8, z9] T (0, 0))) (hs0 : w.cell? ⟨gS, 0, none⟩ = some (.pointer (some ⟨gH, 6, none⟩))) (hs1 : w.cell? ⟨gS, 1, none⟩ = some (.pointer (some ⟨gH, 7, none⟩))) (hs2 : w.cell? ⟨gS, 2, none⟩ = some (.pointer (some ⟨gH, 8, none⟩))) (hne : ¬ gS = gH) :
    Calls Tryz.prog 125 #[str l, .int .i64 14, .slice (some ⟨gS, 0, none⟩) 3 cS] w fun e w' => (∃ v, e = .returned v) ∧ w'.heap[gH]? = some (.cells #[z0, z1, z2, z3, z4, z5, .int .u16 (g16 l 14 : Nat), .int .u16 (g16 l 16 : Nat), .int .u16 (g16 l 18 : Nat), z9] T (0, 0)) ∧ Fp (fun b => b = gH) w w' := by
  have K0 := Lib.hid (fun W => get16_ok l 14 hl (by omega) W)
  have K1 := Lib.hid (fun W => get16_ok l 16 hl (by omega) W)
  have K2 := Lib.hid (fun W => get16_ok l 18 hl (by omega) W)
  have lS := cell_lt hs0
  have B0 := Lib.hid hH
  have N0 := Lib.hid (Fp.refl (fun b => b = gH) w)
  have S0 := Lib.hid hs0
  have S1 := Lib.hid hs1
  have S2 := Lib.hid hs2
  go_enter Tryz.func125, Tryz.ntmps125
  go_wp2_with fail
  refine wp_loop_rounds 4 ?_
  clear hH hs0 hs1 hs2
  have p0 : w.cell? ⟨gS, 0, none⟩ = some (.pointer (some ⟨gH, 6, none⟩)) := (N0.out.cell (p := ⟨gS, 0, none⟩) lS hne).trans S0.out
  rw [rounds_succ]
  go_wp2_with fail
  refine (K0.out _).mono ?_
  rintro e x0 ⟨rfl, hp⟩
  have hb := (hp.block _ (Array.getElem?_eq_some_iff.1 B0.out).1 id).trans B0.out
  have hn := N0.out.trans hp (fun _ _ h => absurd h id)
  have y0 : x0.cell? ⟨gH, 6, none⟩ = some z6 := by simp [World.cell?, hb]
  have yz0 : x0.frozen? ⟨gH, 6, none⟩ = false := by simp [World.frozen?, hb]
  clear hp
  have HB := Lib.hid hb
  clear hb
  go_wp2_with fail
  have hb := heap_set x0 gH 6 _ _ (.int .u16 (g16 l 14 : Nat)) HB.out
  simp only [List.setIfInBounds_toArray, List.set_cons_zero, List.set_cons_succ] at hb
  have hn2 := hn.setCell (p := ⟨gH, 6, none⟩) (Or.inr rfl) (.int .u16 (g16 l 14 : Nat))
  generalize x0.setCell ⟨gH, 6, none⟩ (.int .u16 (g16 l 14 : Nat)) = w1 at *
  have B1 := Lib.hid hb
  have N1 := Lib.hid hn2
  clear hb hn hn2 HB y0 yz0 B0 N0 K0 p0
  have p1 : w1.cell? ⟨gS, 1, none⟩ = some (.pointer (some ⟨gH, 7, none⟩)) := (N1.out.cell (p := ⟨gS, 1, none⟩) lS hne).trans S1.out
  rw [rounds_succ]
  go_wp2_with fail
  refine (K1.out _).mono ?_
  rintro e x1 ⟨rfl, hp⟩
  have hb := (hp.block _ (Array.getElem?_eq_some_iff.1 B1.out).1 id).trans B1.out
  have hn := N1.out.trans hp (fun _ _ h => absurd h id)
  have y0 : x1.cell? ⟨gH, 7, none⟩ = some z7 := by simp [World.cell?, hb]
  have yz0 : x1.frozen? ⟨gH, 7, none⟩ = false := by simp [World.frozen?, hb]
  clear hp
  have HB := Lib.hid hb
  clear hb
  go_wp2_with fail
  have hb := heap_set x1 gH 7 _ _ (.int .u16 (g16 l 16 : Nat)) HB.out
  simp only [List.setIfInBounds_toArray, List.set_cons_zero, List.set_cons_succ] at hb
  have hn2 := hn.setCell (p := ⟨gH, 7, none⟩) (Or.inr rfl) (.int .u16 (g16 l 16 : Nat))
  generalize x1.setCell ⟨gH, 7, none⟩ (.int .u16 (g16 l 16 : Nat)) = w2 at *
  have B2 := Lib.hid hb
  have N2 := Lib.hid hn2
  clear hb hn hn2 HB y0 yz0 B1 N1 K1 p1
  have p2 : w2.cell? ⟨gS, 2, none⟩ = some (.pointer (some ⟨gH, 8, none⟩)) := (N2.out.cell (p := ⟨gS, 2, none⟩) lS hne).trans S2.out
  rw [rounds_succ]
  go_wp2_with fail
  refine (K2.out _).mono ?_
  rintro e x2 ⟨rfl, hp⟩
  have hb := (hp.block _ (Array.getElem?_eq_some_iff.1 B2.out).1 id).trans B2.out
  have hn := N2.out.trans hp (fun _ _ h => absurd h id)
  have y0 : x2.cell? ⟨gH, 8, none⟩ = some z8 := by simp [World.cell?, hb]
  have yz0 : x2.frozen? ⟨gH, 8, none⟩ = false := by simp [World.frozen?, hb]
  clear hp
  have HB := Lib.hid hb
  clear hb
  go_wp2_with fail
  have hb := heap_set x2 gH 8 _ _ (.int .u16 (g16 l 18 : Nat)) HB.out
  simp only [List.setIfInBounds_toArray, List.set_cons_zero, List.set_cons_succ] at hb
  have hn2 := hn.setCell (p := ⟨gH, 8, none⟩) (Or.inr rfl) (.int .u16 (g16 l 18 : Nat))
  generalize x2.setCell ⟨gH, 8, none⟩ (.int .u16 (g16 l 18 : Nat)) = w3 at *
  have B3 := Lib.hid hb
  have N3 := Lib.hid hn2
  clear hb hn hn2 HB y0 yz0 B2 N2 K2 p2
  rw [rounds_succ]
  go_wp2_with fail
  go_end0
  exact ⟨⟨_, rfl⟩, B3.out, N3.out⟩

def tcZ : Value := .agg #[.int .u16 0, .int .u16 0, .int .u32 0, .int .u32 0, .int .u8 0, .int .u8 0, .int .u16 0, .int .u16 0, .int .u16 0, .string ⟨#[]⟩]
theorem tcp_short (l : List UInt8) (h : l.length < 20) (w : World) : Calls Tryz.prog 96 #[str l] w (Ret1 (.tuple #[tcZ, str [], .bool false]) w) := by
  go_enter Tryz.func96, Tryz.ntmps96
  go_wp2_with fail
  refine bodyPost_ret (v := .tuple #[tcZ, str [], .bool false]) (by simp only [results, Tryz.results96, tcZ]; go_simp) rfl ⟨rfl, (Fp.refl _ _).alloc _⟩

set_option maxHeartbeats 1000000 in
set_option maxRecDepth 100000 in
theorem tcp_bad (l : List UInt8) (own : Nat) (h : 20 ≤ l.length) (hl : l.length ≤ 1000000) (ho : own = byt l 12 / 16 * 4) (hb : own < 20 ∨ l.length < own) (w : World) : Calls Tryz.prog 96 #[str l] w (Ret1 (.tuple #[tcZ, str [], .bool false]) w) := by
  have x12 := run_byte l (i := 12) (z := 12) rfl (by omega)
  have b0 := byt_lt l 12
  have c1 : (byt l 12 : Int) / 16 = ((byt l 12 / 16 : Nat) : Int) := by omega
  obtain ⟨q, hq⟩ : ∃ q, q = byt l 12 / 16 := ⟨_, rfl⟩
  rw [← hq] at c1
  have hq16 : q < 16 := by omega
  have c2 : IntKind.i64.wrap (q : Int) = (q : Int) := IntWalk.i64_in _ (by omega)
  have c3 : IntKind.i64.wrap ((q : Int) * 4) = (own : Int) := (IntWalk.i64_in _ (by omega)).trans (by omega)
  clear hq
  clear ho b0
  generalize byt l 12 = a at *
  by_cases h20 : own < 20
  · clear hb
    go_enter Tryz.func96, Tryz.ntmps96
    go_wp2_with fail
    refine bodyPost_ret (v := .tuple #[tcZ, str [], .bool false]) (by simp only [results, Tryz.results96, tcZ]; go_simp) rfl ⟨rfl, (Fp.refl _ _).alloc _⟩
  · have hlo : (l.length : Int) < (own : Int) := by omega
    have hlo2 : l.length < own := by omega
    have h20' : 20 ≤ own := by omega
    clear hb h20
    go_enter Tryz.func96, Tryz.ntmps96
    go_wp2_with fail
    refine bodyPost_ret (v := .tuple #[tcZ, str [], .bool false]) (by simp only [results, Tryz.results96, tcZ]; go_simp) rfl ⟨rfl, (Fp.refl _ _).alloc _⟩

set_option maxHeartbeats 8000000 in
set_option maxRecDepth 100000 in
theorem tcp_good (l : List UInt8) (own m : Nat) (hm : m = byt l 12 % 16) (h : 20 ≤ l.length) (hl : l.length ≤ 1000000) (ho : own = byt l 12 / 16 * 4) (h20 : 20 ≤ own) (ho2 : own ≤ l.length) (w : World) : Calls Tryz.prog 96 #[str l] w (Ret1 (.tuple #[.agg #[.int .u16 (g16 l 0 : Nat), .int .u16 (g16 l 2 : Nat), .int .u32 (g32 l 4 : Nat), .int .u32 (g32 l 8 : Nat), .int .u8 (m : Nat), .int .u8 (byt l 13 : Nat), .int .u16 (g16 l 14 : Nat), .int .u16 (g16 l 16 : Nat), .int .u16 (g16 l 18 : Nat), str ((l.take own).drop 20)], str (l.drop own), .bool true]) w) := by
  have x12 := run_byte l (i := 12) (z := 12) rfl (by omega)
  have b0 := byt_lt l 12
  have c1 : (byt l 12 : Int) / 16 = ((byt l 12 / 16 : Nat) : Int) := by omega
  obtain ⟨q, hq⟩ : ∃ q, q = byt l 12 / 16 := ⟨_, rfl⟩
  rw [← hq] at c1
  have hq16 : q < 16 := by omega
  have c2 : IntKind.i64.wrap (q : Int) = (q : Int) := IntWalk.i64_in _ (by omega)
  have c3 : IntKind.i64.wrap ((q : Int) * 4) = (own : Int) := (IntWalk.i64_in _ (by omega)).trans (by omega)
  clear hq
  have x13 := run_byte l (i := 13) (z := 13) rfl (by omega)
  have c15 : bits .and .u8 (byt l 12 : Int) 15 = ((m : Nat) : Int) := by
    have h := u8_and_nat (byt l 12) 15 b0 (by omega)
    rw [show byt l 12 &&& 15 = byt l 12 % 16 from Nat.and_two_pow_sub_one_eq_mod (byt l 12) 4, ← hm] at h
    exact h
  have hn20 : 20 ≤ own := h20
  have hno : own ≤ l.length := ho2
  have i20 : (20 : Int) ≤ (own : Int) := by omega
  have io : (own : Int) ≤ (l.length : Int) := by omega
  have ex1 := ext_cut l 20 own
  have ex2 : (⟨l.toArray⟩ : ByteArray).extract own l.length = ⟨(l.drop own).toArray⟩ := by rw [ext_cut, List.take_length]
  have K4 := Lib.hid (fun W => get32_ok l 4 hl (by omega) W)
  have K8 := Lib.hid (fun W => get32_ok l 8 hl (by omega) W)
  clear ho b0 hm
  go_enter Tryz.func96, Tryz.ntmps96
  go_upto_region 6 with fail
  have hb0 := heap_alloc_new w (.cells #[.int .u16 0, .int .u16 0, .int .u32 0, .int .u32 0, .int .u8 0, .int .u8 0, .int .u16 0, .int .u16 0, .int .u16 0, .string ⟨#[]⟩] 51)
  have hn0 : NoW w (w.alloc (.cells #[.int .u16 0, .int .u16 0, .int .u32 0, .int .u32 0, .int .u8 0, .int .u8 0, .int .u16 0, .int .u16 0, .int .u16 0, .string ⟨#[]⟩] 51)) := (Fp.refl _ _).alloc _
  generalize w.alloc (.cells #[.int .u16 0, .int .u16 0, .int .u32 0, .int .u32 0, .int .u8 0, .int .u8 0, .int .u16 0, .int .u16 0, .int .u16 0, .string ⟨#[]⟩] 51) = w0 at *
  obtain ⟨gR, hgR⟩ : ∃ gR, gR = w.heap.size := ⟨_, rfl⟩
  rw [← hgR] at hb0 ⊢
  have HgR := Lib.hid (show w.heap.size ≤ gR by omega)
  have B0 := Lib.hid hb0
  have N0 := Lib.hid hn0
  clear hb0 hn0 hgR
  go_cut [6] (fun s6 wx => ∃ gH, s6 = .pointer (some ⟨gH, 0, none⟩) ∧ wx.heap[gH]? = some (.cells #[.int .u16 0, .int .u16 0, .int .u32 0, .int .u32 0, .int .u8 (m : Nat), .int .u8 (byt l 13 : Nat), .int .u16 0, .int .u16 0, .int .u16 0, str ((l.take own).drop 20)] 51) ∧ w0.heap.size ≤ gH ∧ NoW w0 wx)
  case first =>
    refine wp_region_held_drew (S := fun wx => NoW w0 wx) (by kernel_rfl) (Fp.drew (Fp.refl _ _)) (fun hHeld => ?_)
    (refine take_at 0 (some 25) rfl rfl (by kernel_rfl) (by kernel_rfl) (by kernel_rfl) (fun _ _ _ h => h) (v := ?_) (by kernel_rfl) ?_ (by assumption) ?_; rotate_left; (focus (intro wS hSw; skip; go_simp; try with_reducible rfl)); (try simp only [Act.put, List.setIfInBounds_toArray, List.set_cons_zero, List.set_cons_succ]))
    (refine take_at 1 (some 26) rfl rfl (by kernel_rfl) (by kernel_rfl) (by kernel_rfl) (fun _ _ _ h => h) (v := ?_) (by kernel_rfl) ?_ (by assumption) ?_; rotate_left; (focus (intro wS hSw; skip; go_simp; try with_reducible rfl)); (try simp only [Act.put, List.setIfInBounds_toArray, List.set_cons_zero, List.set_cons_succ]))
    (refine take_at 2 (some 27) rfl rfl (by kernel_rfl) (by kernel_rfl) (by kernel_rfl) (fun _ _ _ h => h) (v := ?_) (by kernel_rfl) ?_ (by assumption) ?_; rotate_left; (focus (intro wS hSw; skip; go_simp; try with_reducible rfl)); (try simp only [Act.put, List.setIfInBounds_toArray, List.set_cons_zero, List.set_cons_succ]))
    (refine take_at 3 (some 28) rfl rfl (by kernel_rfl) (by kernel_rfl) (by kernel_rfl) (fun _ _ _ h => h) (v := ?_) (by kernel_rfl) ?_ (by assumption) ?_; rotate_left; (focus (intro wS hSw; skip; go_simp; try with_reducible rfl)); (try simp only [Act.put, List.setIfInBounds_toArray, List.set_cons_zero, List.set_cons_succ]))
    (refine take_at 4 (some 29) rfl rfl (by kernel_rfl) (by kernel_rfl) (by kernel_rfl) (fun _ _ _ h => h) (v := ?_) (by kernel_rfl) ?_ (by assumption) ?_; rotate_left; (focus (intro wS hSw; skip; go_simp; try with_reducible rfl)); (try simp only [Act.put, List.setIfInBounds_toArray, List.set_cons_zero, List.set_cons_succ]))
    (refine take_at 5 (some 30) rfl rfl (by kernel_rfl) (by kernel_rfl) (by kernel_rfl) (fun _ _ _ h => h) (v := ?_) (by kernel_rfl) ?_ (by assumption) ?_; rotate_left; (focus (intro wS hSw; skip; go_simp; try with_reducible rfl)); (try simp only [Act.put, List.setIfInBounds_toArray, List.set_cons_zero, List.set_cons_succ]))
    (refine take_at 6 (some 31) rfl rfl (by kernel_rfl) (by kernel_rfl) (by kernel_rfl) (fun _ _ _ h => h) (v := ?_) (by kernel_rfl) ?_ (by assumption) ?_; rotate_left; (focus (intro wS hSw; skip; go_simp; try with_reducible rfl)); (try simp only [Act.put, List.setIfInBounds_toArray, List.set_cons_zero, List.set_cons_succ]))
    (refine take_at 7 (some 32) rfl rfl (by kernel_rfl) (by kernel_rfl) (by kernel_rfl) (fun _ _ _ h => h) (v := ?_) (by kernel_rfl) ?_ (by assumption) ?_; rotate_left; (focus (intro wS hSw; skip; go_simp; try with_reducible rfl)); (try simp only [Act.put, List.setIfInBounds_toArray, List.set_cons_zero, List.set_cons_succ]))
    (refine take_at 8 (some 33) rfl rfl (by kernel_rfl) (by kernel_rfl) (by kernel_rfl) (fun _ _ _ h => h) (v := ?_) (by kernel_rfl) ?_ (by assumption) ?_; rotate_left; (focus (intro wS hSw; skip; go_simp; try with_reducible rfl)); (try simp only [Act.put, List.setIfInBounds_toArray, List.set_cons_zero, List.set_cons_succ]))
    refine wpAnyH_ready (rs := [9]) (by kernel_rfl) (by simp) ?_
    refine AllReadyH.cons rfl (fun K hK => ?_) AllReadyH.nil
    go_simp
    have hbN0 := heap_alloc_new w0 (.cells #[.int .u16 0, .int .u16 0, .int .u32 0, .int .u32 0, .int .u8 0, .int .u8 0, .int .u16 0, .int .u16 0, .int .u16 0, .string ⟨#[]⟩] 51)
    have hbN : (w0.alloc (.cells #[.int .u16 0, .int .u16 0, .int .u32 0, .int .u32 0, .int .u8 0, .int .u8 0, .int .u16 0, .int .u16 0, .int .u16 0, .string ⟨#[]⟩] 51)).drew.heap[w0.heap.size]? = some (.cells #[.int .u16 0, .int .u16 0, .int .u32 0, .int .u32 0, .int .u8 0, .int .u8 0, .int .u16 0, .int .u16 0, .int .u16 0, .string ⟨#[]⟩] 51) := hbN0
    clear hbN0
    refine hK.out _ _ (show NoW w0 ((w0.alloc (.cells #[.int .u16 0, .int .u16 0, .int .u32 0, .int .u32 0, .int .u8 0, .int .u8 0, .int .u16 0, .int .u16 0, .int .u16 0, .string ⟨#[]⟩] 51)).drew) from Fp.drew ((Fp.refl _ _).alloc _)) (fun hHeld2 => ?_)
    clear hK K hHeld
    try simp only [Act.put, List.setIfInBounds_toArray, List.set_cons_zero, List.set_cons_succ]
    generalize (w0.alloc (.cells #[.int .u16 0, .int .u16 0, .int .u32 0, .int .u32 0, .int .u8 0, .int .u8 0, .int .u16 0, .int .u16 0, .int .u16 0, .string ⟨#[]⟩] 51)).drew = z1 at *
    obtain ⟨gN, hgN⟩ : ∃ gN, gN = w0.heap.size := ⟨_, rfl⟩
    rw [← hgN] at hbN ⊢
    have hge : w0.heap.size ≤ gN := by omega
    have HGgN := Lib.hid hge
    have BgN := Lib.hid hbN
    clear hgN hge hbN
    have hHeld := hHeld2
    clear hHeld2
    have n0 : z1.cell? ⟨gN, 0, none⟩ = some (.int .u16 0) := by simp [World.cell?, BgN.out]
    have zn0 : z1.frozen? ⟨gN, 0, none⟩ = false := by simp [World.frozen?, BgN.out]
    have n1 : z1.cell? ⟨gN, 1, none⟩ = some (.int .u16 0) := by simp [World.cell?, BgN.out]
    have zn1 : z1.frozen? ⟨gN, 1, none⟩ = false := by simp [World.frozen?, BgN.out]
    have n2 : z1.cell? ⟨gN, 2, none⟩ = some (.int .u32 0) := by simp [World.cell?, BgN.out]
    have zn2 : z1.frozen? ⟨gN, 2, none⟩ = false := by simp [World.frozen?, BgN.out]
    have n3 : z1.cell? ⟨gN, 3, none⟩ = some (.int .u32 0) := by simp [World.cell?, BgN.out]
    have zn3 : z1.frozen? ⟨gN, 3, none⟩ = false := by simp [World.frozen?, BgN.out]
    have n4 : z1.cell? ⟨gN, 4, none⟩ = some (.int .u8 0) := by simp [World.cell?, BgN.out]
    have zn4 : z1.frozen? ⟨gN, 4, none⟩ = false := by simp [World.frozen?, BgN.out]
    have n5 : z1.cell? ⟨gN, 5, none⟩ = some (.int .u8 0) := by simp [World.cell?, BgN.out]
    have zn5 : z1.frozen? ⟨gN, 5, none⟩ = false := by simp [World.frozen?, BgN.out]
    have n6 : z1.cell? ⟨gN, 6, none⟩ = some (.int .u16 0) := by simp [World.cell?, BgN.out]
    have zn6 : z1.frozen? ⟨gN, 6, none⟩ = false := by simp [World.frozen?, BgN.out]
    have n7 : z1.cell? ⟨gN, 7, none⟩ = some (.int .u16 0) := by simp [World.cell?, BgN.out]
    have zn7 : z1.frozen? ⟨gN, 7, none⟩ = false := by simp [World.frozen?, BgN.out]
    have n8 : z1.cell? ⟨gN, 8, none⟩ = some (.int .u16 0) := by simp [World.cell?, BgN.out]
    have zn8 : z1.frozen? ⟨gN, 8, none⟩ = false := by simp [World.frozen?, BgN.out]
    have n9 : z1.cell? ⟨gN, 9, none⟩ = some (.string ⟨#[]⟩) := by simp [World.cell?, BgN.out]
    have zn9 : z1.frozen? ⟨gN, 9, none⟩ = false := by simp [World.frozen?, BgN.out]
    have lN := cell_lt n0
    refine wpAnyH_ready (rs := [10]) (by kernel_rfl) (by simp) ?_
    refine AllReadyH.cons rfl (fun K hK => ?_) AllReadyH.nil
    go_simp
    obtain ⟨W, hW, hb2, hf2⟩ := set10 z1 gN 51 (.int .u16 0) (.int .u16 0) (.int .u32 0) (.int .u32 0) (.int .u8 0) (.int .u8 0) (.int .u16 0) (.int .u16 0) (.int .u16 0) (.string ⟨#[]⟩) BgN.out (.int .u16 0) (.int .u16 0) (.int .u32 0) (.int .u32 0) (.int .u8 (m : Nat)) (.int .u8 (byt l 13 : Nat)) (.int .u16 0) (.int .u16 0) (.int .u16 0) (str ((l.take own).drop 20))
    rw [← hW]
    clear hW
    have hSW : NoW w0 W := hHeld.trans hf2 (fun i hi e => by have h1 : i = gN := e; have h2 := HGgN.out; omega)
    refine hK.out _ _ hSW (fun hHeld3 => ?_)
    clear hK K hf2 lN n0 zn0 n1 zn1 n2 zn2 n3 zn3 n4 zn4 n5 zn5 n6 zn6 n7 zn7 n8 zn8 n9 zn9 hHeld
    try simp only [Act.put, List.setIfInBounds_toArray, List.set_cons_zero, List.set_cons_succ]
    have hHeld := hHeld3
    refine wpAnyH_done (by kernel_rfl) ?_ _
    have HSW := Lib.hid hSW
    have HB2 := Lib.hid hb2
    clear hHeld hHeld3 hSW hb2 BgN
    go_wp2_with fail
    go_meet
    exact ⟨gN, rfl, HB2.out, HGgN.out, HSW.out⟩
  case rest =>
    obtain ⟨gH, rfl, hbH, hgH, hnH⟩ := hcut
    generalize wc = w1 at *
    have hRH : gR < gH := Nat.lt_of_lt_of_le (Array.getElem?_eq_some_iff.1 B0.out).1 hgH
    have HwH := Lib.hid (show w.heap.size ≤ gH by have := HgR.out; omega)
    have B1 := Lib.hid ((hnH.block _ (Array.getElem?_eq_some_iff.1 B0.out).1 id).trans B0.out)
    have N1 := Lib.hid (N0.out.trans hnH (fun _ _ h => h))
    have H1 := Lib.hid hbH
    clear hbH hgH hnH B0 N0 x12 x13 c15 c1 c2 c3
    go_upto_region 7 with fail
    go_wp2_with fail
    have hbS := heap_alloc_new w1 (.cells #[.pointer (some ⟨gH, 0, none⟩), .pointer (some ⟨gH, 1, none⟩)] 180)
    have hnS : NoW w1 (w1.alloc (.cells #[.pointer (some ⟨gH, 0, none⟩), .pointer (some ⟨gH, 1, none⟩)] 180)) := (Fp.refl _ _).alloc _
    generalize w1.alloc (.cells #[.pointer (some ⟨gH, 0, none⟩), .pointer (some ⟨gH, 1, none⟩)] 180) = wS at *
    obtain ⟨gS, hgS⟩ : ∃ gS, gS = w1.heap.size := ⟨_, rfl⟩
    rw [← hgS] at hbS ⊢
    have hSH : gH < gS := by rw [hgS]; exact (Array.getElem?_eq_some_iff.1 H1.out).1
    have HH := (hnS.block _ (Array.getElem?_eq_some_iff.1 H1.out).1 id).trans H1.out
    have hs0 : wS.cell? ⟨gS, 0, none⟩ = some (.pointer (some ⟨gH, 0, none⟩)) := by simp [World.cell?, hbS]
    have hs1 : wS.cell? ⟨gS, 1, none⟩ = some (.pointer (some ⟨gH, 1, none⟩)) := by simp [World.cell?, hbS]
    refine (halves2_ok l hl gS _ gH 51 (.int .u16 0) (.int .u16 0) (.int .u32 0) (.int .u32 0) (.int .u8 (m : Nat)) (.int .u8 (byt l 13 : Nat)) (.int .u16 0) (.int .u16 0) (.int .u16 0) (str ((l.take own).drop 20)) wS HH hs0 hs1 (by omega)).mono ?_
    rintro e w2 ⟨⟨ve, rfl⟩, hH2, hf2⟩
    have H2 := Lib.hid hH2
    have hRS := (hnS.block _ (Array.getElem?_eq_some_iff.1 B1.out).1 id).trans B1.out
    have B2 := Lib.hid ((hf2.block gR (Array.getElem?_eq_some_iff.1 hRS).1 (by omega)).trans hRS)
    have N2 := Lib.hid ((N1.out.trans hnS (fun _ _ h => h)).trans hf2 (fun i hi e => by have h1 : i = gH := e; have h2 := HwH.out; omega))
    clear hbS hnS hgS hSH HH hs0 hs1 hH2 hf2 hRS B1 N1 H1
    go_upto_region 8 with fail
    go_wp2_with fail
    refine (K4.out _).mono ?_
    rintro e wk ⟨rfl, hp⟩
    have HK := (hp.block _ (Array.getElem?_eq_some_iff.1 H2.out).1 id).trans H2.out
    have BK := (hp.block _ (Array.getElem?_eq_some_iff.1 B2.out).1 id).trans B2.out
    have NK := N2.out.trans hp (fun _ _ h => h)
    have y0 : wk.cell? ⟨gH, 2, none⟩ = some (.int .u32 0) := by simp [World.cell?, HK]
    have yz0 : wk.frozen? ⟨gH, 2, none⟩ = false := by simp [World.frozen?, HK]
    have HHK := Lib.hid HK
    have BBK := Lib.hid BK
    have NNK := Lib.hid NK
    clear HK BK NK hp H2 B2 N2
    go_upto_region 9 with fail
    have hb := heap_set wk gH 2 _ _ (.int .u32 (g32 l 4 : Nat)) HHK.out
    simp only [List.setIfInBounds_toArray, List.set_cons_zero, List.set_cons_succ] at hb
    have hR2 := (heap_set_other wk gH gR 2 (.int .u32 (g32 l 4 : Nat)) (by omega)).trans BBK.out
    have hn2 := NNK.out.setCell (p := ⟨gH, 2, none⟩) (Or.inl HwH.out) (.int .u32 (g32 l 4 : Nat))
    generalize wk.setCell ⟨gH, 2, none⟩ (.int .u32 (g32 l 4 : Nat)) = w3 at *
    have H3 := Lib.hid hb
    have B3 := Lib.hid hR2
    have N3 := Lib.hid hn2
    clear hb hR2 hn2 HHK BBK NNK y0 yz0
    go_wp2_with fail
    refine (K8.out _).mono ?_
    rintro e wk ⟨rfl, hp⟩
    have HK := (hp.block _ (Array.getElem?_eq_some_iff.1 H3.out).1 id).trans H3.out
    have BK := (hp.block _ (Array.getElem?_eq_some_iff.1 B3.out).1 id).trans B3.out
    have NK := N3.out.trans hp (fun _ _ h => h)
    have y0 : wk.cell? ⟨gH, 3, none⟩ = some (.int .u32 0) := by simp [World.cell?, HK]
    have yz0 : wk.frozen? ⟨gH, 3, none⟩ = false := by simp [World.frozen?, HK]
    have HHK := Lib.hid HK
    have BBK := Lib.hid BK
    have NNK := Lib.hid NK
    clear HK BK NK hp H3 B3 N3
    go_upto_region 10 with fail
    have hb := heap_set wk gH 3 _ _ (.int .u32 (g32 l 8 : Nat)) HHK.out
    simp only [List.setIfInBounds_toArray, List.set_cons_zero, List.set_cons_succ] at hb
    have hR2 := (heap_set_other wk gH gR 3 (.int .u32 (g32 l 8 : Nat)) (by omega)).trans BBK.out
    have hn2 := NNK.out.setCell (p := ⟨gH, 3, none⟩) (Or.inl HwH.out) (.int .u32 (g32 l 8 : Nat))
    generalize wk.setCell ⟨gH, 3, none⟩ (.int .u32 (g32 l 8 : Nat)) = w4 at *
    have H4 := Lib.hid hb
    have B4 := Lib.hid hR2
    have N4 := Lib.hid hn2
    clear hb hR2 hn2 HHK BBK NNK y0 yz0
    go_wp2_with fail
    have hbS := heap_alloc_new w4 (.cells #[.pointer (some ⟨gH, 6, none⟩), .pointer (some ⟨gH, 7, none⟩), .pointer (some ⟨gH, 8, none⟩)] 180)
    have hnS : NoW w4 (w4.alloc (.cells #[.pointer (some ⟨gH, 6, none⟩), .pointer (some ⟨gH, 7, none⟩), .pointer (some ⟨gH, 8, none⟩)] 180)) := (Fp.refl _ _).alloc _
    generalize w4.alloc (.cells #[.pointer (some ⟨gH, 6, none⟩), .pointer (some ⟨gH, 7, none⟩), .pointer (some ⟨gH, 8, none⟩)] 180) = wS at *
    obtain ⟨gS, hgS⟩ : ∃ gS, gS = w4.heap.size := ⟨_, rfl⟩
    rw [← hgS] at hbS ⊢
    have hSH : gH < gS := by rw [hgS]; exact (Array.getElem?_eq_some_iff.1 H4.out).1
    have HH := (hnS.block _ (Array.getElem?_eq_some_iff.1 H4.out).1 id).trans H4.out
    have hs0 : wS.cell? ⟨gS, 0, none⟩ = some (.pointer (some ⟨gH, 6, none⟩)) := by simp [World.cell?, hbS]
    have hs1 : wS.cell? ⟨gS, 1, none⟩ = some (.pointer (some ⟨gH, 7, none⟩)) := by simp [World.cell?, hbS]
    have hs2 : wS.cell? ⟨gS, 2, none⟩ = some (.pointer (some ⟨gH, 8, none⟩)) := by simp [World.cell?, hbS]
    refine (halves3_ok l hl gS _ gH 51 (.int .u16 (g16 l 0 : Nat)) (.int .u16 (g16 l 2 : Nat)) (.int .u32 (g32 l 4 : Nat)) (.int .u32 (g32 l 8 : Nat)) (.int .u8 (m : Nat)) (.int .u8 (byt l 13 : Nat)) (.int .u16 0) (.int .u16 0) (.int .u16 0) (str ((l.take own).drop 20)) wS HH hs0 hs1 hs2 (by omega)).mono ?_
    rintro e w5 ⟨⟨ve, rfl⟩, hH2, hf2⟩
    have H5 := Lib.hid hH2
    have hRS := (hnS.block _ (Array.getElem?_eq_some_iff.1 B4.out).1 id).trans B4.out
    have B5 := Lib.hid ((hf2.block gR (Array.getElem?_eq_some_iff.1 hRS).1 (by omega)).trans hRS)
    have N5 := Lib.hid ((N4.out.trans hnS (fun _ _ h => h)).trans hf2 (fun i hi e => by have h1 : i = gH := e; have h2 := HwH.out; omega))
    clear hbS hnS hgS hSH HH hs0 hs1 hs2 hH2 hf2 hRS B4 N4 H4
    go_upto_region 11 with fail
    have f0 : w5.cell? ⟨gH, 0, none⟩ = some (.int .u16 (g16 l 0 : Nat)) := by simp [World.cell?, H5.out]
    have f1 : w5.cell? ⟨gH, 1, none⟩ = some (.int .u16 (g16 l 2 : Nat)) := by simp [World.cell?, H5.out]
    have f2 : w5.cell? ⟨gH, 2, none⟩ = some (.int .u32 (g32 l 4 : Nat)) := by simp [World.cell?, H5.out]
    have f3 : w5.cell? ⟨gH, 3, none⟩ = some (.int .u32 (g32 l 8 : Nat)) := by simp [World.cell?, H5.out]
    have f4 : w5.cell? ⟨gH, 4, none⟩ = some (.int .u8 (m : Nat)) := by simp [World.cell?, H5.out]
    have f5 : w5.cell? ⟨gH, 5, none⟩ = some (.int .u8 (byt l 13 : Nat)) := by simp [World.cell?, H5.out]
    have f6 : w5.cell? ⟨gH, 6, none⟩ = some (.int .u16 (g16 l 14 : Nat)) := by simp [World.cell?, H5.out]
    have f7 : w5.cell? ⟨gH, 7, none⟩ = some (.int .u16 (g16 l 16 : Nat)) := by simp [World.cell?, H5.out]
    have f8 : w5.cell? ⟨gH, 8, none⟩ = some (.int .u16 (g16 l 18 : Nat)) := by simp [World.cell?, H5.out]
    have f9 : w5.cell? ⟨gH, 9, none⟩ = some (str ((l.take own).drop 20)) := by simp [World.cell?, H5.out]
    have l8 := cell_lt f0
    have n8 : ¬ gH = gR := by omega
    refine wp_region_held_drew (S := fun wx => Fp (fun b => b = gR) w5 wx) (by kernel_rfl) (Fp.drew (Fp.refl _ _)) (fun hHeld => ?_)
    (refine take_at 0 (some 57) rfl rfl (by kernel_rfl) (by kernel_rfl) (by kernel_rfl) (fun _ _ _ h => h) (v := ?_) (by kernel_rfl) ?_ (by assumption) ?_; rotate_left; (focus (intro wS hSw; (have qt0 := (hSw.cell (p := ⟨gH, 0, none⟩) l8 n8).trans f0); (have qt1 := (hSw.cell (p := ⟨gH, 1, none⟩) l8 n8).trans f1); (have qt2 := (hSw.cell (p := ⟨gH, 2, none⟩) l8 n8).trans f2); (have qt3 := (hSw.cell (p := ⟨gH, 3, none⟩) l8 n8).trans f3); (have qt4 := (hSw.cell (p := ⟨gH, 4, none⟩) l8 n8).trans f4); (have qt5 := (hSw.cell (p := ⟨gH, 5, none⟩) l8 n8).trans f5); (have qt6 := (hSw.cell (p := ⟨gH, 6, none⟩) l8 n8).trans f6); (have qt7 := (hSw.cell (p := ⟨gH, 7, none⟩) l8 n8).trans f7); (have qt8 := (hSw.cell (p := ⟨gH, 8, none⟩) l8 n8).trans f8); (have qt9 := (hSw.cell (p := ⟨gH, 9, none⟩) l8 n8).trans f9); go_simp; try with_reducible rfl)); (try simp only [Act.put, List.setIfInBounds_toArray, List.set_cons_zero, List.set_cons_succ]))
    (refine take_at 1 (some 58) rfl rfl (by kernel_rfl) (by kernel_rfl) (by kernel_rfl) (fun _ _ _ h => h) (v := ?_) (by kernel_rfl) ?_ (by assumption) ?_; rotate_left; (focus (intro wS hSw; skip; go_simp; try with_reducible rfl)); (try simp only [Act.put, List.setIfInBounds_toArray, List.set_cons_zero, List.set_cons_succ]))
    (refine take_at 2 (some 59) rfl rfl (by kernel_rfl) (by kernel_rfl) (by kernel_rfl) (fun _ _ _ h => h) (v := ?_) (by kernel_rfl) ?_ (by assumption) ?_; rotate_left; (focus (intro wS hSw; skip; go_simp; try with_reducible rfl)); (try simp only [Act.put, List.setIfInBounds_toArray, List.set_cons_zero, List.set_cons_succ]))
    (refine take_at 3 (some 60) rfl rfl (by kernel_rfl) (by kernel_rfl) (by kernel_rfl) (fun _ _ _ h => h) (v := ?_) (by kernel_rfl) ?_ (by assumption) ?_; rotate_left; (focus (intro wS hSw; skip; go_simp; try with_reducible rfl)); (try simp only [Act.put, List.setIfInBounds_toArray, List.set_cons_zero, List.set_cons_succ]))
    generalize hwd : w5.drew = wd at *
    have Bd : wd.heap[gR]? = some (.cells #[.int .u16 0, .int .u16 0, .int .u32 0, .int .u32 0, .int .u8 0, .int .u8 0, .int .u16 0, .int .u16 0, .int .u16 0, .string ⟨#[]⟩] 51) := by rw [← hwd]; exact B5.out
    have yr0 : wd.cell? ⟨gR, 0, none⟩ = some (.int .u16 0) := by simp [World.cell?, Bd]
    have zyr0 : wd.frozen? ⟨gR, 0, none⟩ = false := by simp [World.frozen?, Bd]
    have yr1 : wd.cell? ⟨gR, 1, none⟩ = some (.int .u16 0) := by simp [World.cell?, Bd]
    have zyr1 : wd.frozen? ⟨gR, 1, none⟩ = false := by simp [World.frozen?, Bd]
    have yr2 : wd.cell? ⟨gR, 2, none⟩ = some (.int .u32 0) := by simp [World.cell?, Bd]
    have zyr2 : wd.frozen? ⟨gR, 2, none⟩ = false := by simp [World.frozen?, Bd]
    have yr3 : wd.cell? ⟨gR, 3, none⟩ = some (.int .u32 0) := by simp [World.cell?, Bd]
    have zyr3 : wd.frozen? ⟨gR, 3, none⟩ = false := by simp [World.frozen?, Bd]
    have yr4 : wd.cell? ⟨gR, 4, none⟩ = some (.int .u8 0) := by simp [World.cell?, Bd]
    have zyr4 : wd.frozen? ⟨gR, 4, none⟩ = false := by simp [World.frozen?, Bd]
    have yr5 : wd.cell? ⟨gR, 5, none⟩ = some (.int .u8 0) := by simp [World.cell?, Bd]
    have zyr5 : wd.frozen? ⟨gR, 5, none⟩ = false := by simp [World.frozen?, Bd]
    have yr6 : wd.cell? ⟨gR, 6, none⟩ = some (.int .u16 0) := by simp [World.cell?, Bd]
    have zyr6 : wd.frozen? ⟨gR, 6, none⟩ = false := by simp [World.frozen?, Bd]
    have yr7 : wd.cell? ⟨gR, 7, none⟩ = some (.int .u16 0) := by simp [World.cell?, Bd]
    have zyr7 : wd.frozen? ⟨gR, 7, none⟩ = false := by simp [World.frozen?, Bd]
    have yr8 : wd.cell? ⟨gR, 8, none⟩ = some (.int .u16 0) := by simp [World.cell?, Bd]
    have zyr8 : wd.frozen? ⟨gR, 8, none⟩ = false := by simp [World.frozen?, Bd]
    have yr9 : wd.cell? ⟨gR, 9, none⟩ = some (.string ⟨#[]⟩) := by simp [World.cell?, Bd]
    have zyr9 : wd.frozen? ⟨gR, 9, none⟩ = false := by simp [World.frozen?, Bd]
    have lR := cell_lt yr0
    refine wpAnyH_ready (rs := [4]) (by kernel_rfl) (by simp) ?_
    refine AllReadyH.cons rfl (fun K hK => ?_) AllReadyH.nil
    go_simp
    obtain ⟨W, hW, hb2, hf2⟩ := set10 wd gR 51 (.int .u16 0) (.int .u16 0) (.int .u32 0) (.int .u32 0) (.int .u8 0) (.int .u8 0) (.int .u16 0) (.int .u16 0) (.int .u16 0) (.string ⟨#[]⟩) Bd (.int .u16 (g16 l 0 : Nat)) (.int .u16 (g16 l 2 : Nat)) (.int .u32 (g32 l 4 : Nat)) (.int .u32 (g32 l 8 : Nat)) (.int .u8 (m : Nat)) (.int .u8 (byt l 13 : Nat)) (.int .u16 (g16 l 14 : Nat)) (.int .u16 (g16 l 16 : Nat)) (.int .u16 (g16 l 18 : Nat)) (str ((l.take own).drop 20))
    rw [← hW]
    clear hW lR yr0 zyr0 yr1 zyr1 yr2 zyr2 yr3 zyr3 yr4 zyr4 yr5 zyr5 yr6 zyr6 yr7 zyr7 yr8 zyr8 yr9 zyr9
    have hSW : Fp (fun b => b = gR) w5 W := hHeld.trans hf2 (fun _ _ h => h)
    refine hK.out _ _ hSW (fun hHeld3 => ?_)
    clear hK K hHeld hHeld3
    try simp only [Act.put, List.setIfInBounds_toArray, List.set_cons_zero, List.set_cons_succ]
    have hHeld := hSW
    (refine take_at 5 (some 3) rfl rfl (by kernel_rfl) (by kernel_rfl) (by kernel_rfl) (fun _ _ _ h => h) (v := ?_) (by kernel_rfl) ?_ (by assumption) ?_; rotate_left; (focus (intro wS hSw; skip; go_simp; try with_reducible rfl)); (try simp only [Act.put, List.setIfInBounds_toArray, List.set_cons_zero, List.set_cons_succ]))
    (refine take_at 6 (some 4) rfl rfl (by kernel_rfl) (by kernel_rfl) (by kernel_rfl) (fun _ _ _ h => h) (v := ?_) (by kernel_rfl) ?_ (by assumption) ?_; rotate_left; (focus (intro wS hSw; skip; go_simp; try with_reducible rfl)); (try simp only [Act.put, List.setIfInBounds_toArray, List.set_cons_zero, List.set_cons_succ]))
    refine wpAnyH_done (by kernel_rfl) ?_ _
    have yr0 : W.cell? ⟨gR, 0, none⟩ = some (.int .u16 (g16 l 0 : Nat)) := by simp [World.cell?, hb2]
    have yr1 : W.cell? ⟨gR, 1, none⟩ = some (.int .u16 (g16 l 2 : Nat)) := by simp [World.cell?, hb2]
    have yr2 : W.cell? ⟨gR, 2, none⟩ = some (.int .u32 (g32 l 4 : Nat)) := by simp [World.cell?, hb2]
    have yr3 : W.cell? ⟨gR, 3, none⟩ = some (.int .u32 (g32 l 8 : Nat)) := by simp [World.cell?, hb2]
    have yr4 : W.cell? ⟨gR, 4, none⟩ = some (.int .u8 (m : Nat)) := by simp [World.cell?, hb2]
    have yr5 : W.cell? ⟨gR, 5, none⟩ = some (.int .u8 (byt l 13 : Nat)) := by simp [World.cell?, hb2]
    have yr6 : W.cell? ⟨gR, 6, none⟩ = some (.int .u16 (g16 l 14 : Nat)) := by simp [World.cell?, hb2]
    have yr7 : W.cell? ⟨gR, 7, none⟩ = some (.int .u16 (g16 l 16 : Nat)) := by simp [World.cell?, hb2]
    have yr8 : W.cell? ⟨gR, 8, none⟩ = some (.int .u16 (g16 l 18 : Nat)) := by simp [World.cell?, hb2]
    have yr9 : W.cell? ⟨gR, 9, none⟩ = some (str ((l.take own).drop 20)) := by simp [World.cell?, hb2]
    have lR : gR < W.heap.size := cell_lt yr0
    have HF := Lib.hid (N5.out.trans hSW (fun i hi e => by have h1 : i = gR := e; have h2 := HgR.out; omega))
    clear hf2 hb2 hSW hHeld
    go_wp2_with fail
    refine bodyPost_ret (v := .tuple #[.agg #[.int .u16 (g16 l 0 : Nat), .int .u16 (g16 l 2 : Nat), .int .u32 (g32 l 4 : Nat), .int .u32 (g32 l 8 : Nat), .int .u8 (m : Nat), .int .u8 (byt l 13 : Nat), .int .u16 (g16 l 14 : Nat), .int .u16 (g16 l 16 : Nat), .int .u16 (g16 l 18 : Nat), str ((l.take own).drop 20)], str (l.drop own), .bool true]) (by simp only [results, Tryz.results96]; go_simp) rfl ⟨rfl, HF.out⟩

def tcV (l : List UInt8) : Value := if tcpOk l = true then .tuple #[.agg #[.int .u16 (g16 l 0 : Nat), .int .u16 (g16 l 2 : Nat), .int .u32 (g32 l 4 : Nat), .int .u32 (g32 l 8 : Nat), .int .u8 (byt l 12 % 16 : Nat), .int .u8 (byt l 13 : Nat), .int .u16 (g16 l 14 : Nat), .int .u16 (g16 l 16 : Nat), .int .u16 (g16 l 18 : Nat), str ((l.take (byt l 12 / 16 * 4)).drop 20)], str (l.drop (byt l 12 / 16 * 4)), .bool true] else .tuple #[tcZ, str [], .bool false]
theorem tcp_ok (l : List UInt8) (hl : l.length ≤ 1000000) (w : World) : Calls Tryz.prog 96 #[str l] w (Ret1 (tcV l) w) := by
  by_cases h : 20 ≤ l.length
  · by_cases h2 : 20 ≤ byt l 12 / 16 * 4 ∧ byt l 12 / 16 * 4 ≤ l.length
    · rw [show tcV l = .tuple #[.agg #[.int .u16 (g16 l 0 : Nat), .int .u16 (g16 l 2 : Nat), .int .u32 (g32 l 4 : Nat), .int .u32 (g32 l 8 : Nat), .int .u8 (byt l 12 % 16 : Nat), .int .u8 (byt l 13 : Nat), .int .u16 (g16 l 14 : Nat), .int .u16 (g16 l 16 : Nat), .int .u16 (g16 l 18 : Nat), str ((l.take (byt l 12 / 16 * 4)).drop 20)], str (l.drop (byt l 12 / 16 * 4)), .bool true] from if_pos (decide_eq_true ⟨h, h2.1, h2.2⟩)]
      exact tcp_good l _ _ rfl h hl rfl h2.1 h2.2 w
    · rw [show tcV l = .tuple #[tcZ, str [], .bool false] from if_neg (by unfold tcpOk; rw [decide_eq_true_eq]; exact fun k => h2 k.2)]
      exact tcp_bad l _ h hl rfl (by omega) w
  · rw [show tcV l = .tuple #[tcZ, str [], .bool false] from if_neg (by unfold tcpOk; rw [decide_eq_true_eq]; exact fun k => h k.1)]
    exact tcp_short l (by omega) w
end Go.Proofs.YtmghjaoodnkjlaaGreatDoor
