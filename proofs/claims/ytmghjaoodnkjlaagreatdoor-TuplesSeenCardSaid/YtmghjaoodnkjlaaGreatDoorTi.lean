/- Chapter 08: udp.take, udp.Parse (written by gen8t.py). -/
import Derived.Test.YtmghjaoodnkjlaaGreatDoorTf
namespace Go.Proofs.YtmghjaoodnkjlaaGreatDoor
set_option linter.unusedVariables false
set_option linter.unusedSimpArgs false
open Go.RowKit Go.Lib Go.Sort
set_option maxHeartbeats 2000000 in
set_option maxRecDepth 100000 in
theorem take_ok (l : List UInt8) (hl : l.length ≤ 1000000) (w : World) : Calls Tryz.prog 126 #[str l] w (Ret1 (.agg #[.int .u16 (g16 l 0 : Nat), .int .u16 (g16 l 2 : Nat), .int .u16 (g16 l 4 : Nat), .int .u16 (g16 l 6 : Nat)]) w) := by
  have K0 := Lib.hid (fun W => get16_ok l 0 hl (by omega) W)
  have K1 := Lib.hid (fun W => get16_ok l 2 hl (by omega) W)
  have K2 := Lib.hid (fun W => get16_ok l 4 hl (by omega) W)
  have K3 := Lib.hid (fun W => get16_ok l 6 hl (by omega) W)
  go_enter Tryz.func126, Tryz.ntmps126
  go_wp2_with fail
  have hb0 : (w.alloc (.cells #[.int .u16 0, .int .u16 0, .int .u16 0, .int .u16 0] 181 (0, 0))).heap[w.heap.size]? = some (.cells #[.int .u16 0, .int .u16 0, .int .u16 0, .int .u16 0] 181 (0, 0)) := heap_alloc_new w _
  have hn0 : NoW w (w.alloc (.cells #[.int .u16 0, .int .u16 0, .int .u16 0, .int .u16 0] 181 (0, 0))) := (Fp.refl _ _).alloc _
  generalize w.alloc (.cells #[.int .u16 0, .int .u16 0, .int .u16 0, .int .u16 0] 181 (0, 0)) = w0 at *
  obtain ⟨gR, hgR⟩ : ∃ gR, gR = w.heap.size := ⟨_, rfl⟩
  rw [← hgR] at hb0 ⊢
  have HgR := Lib.hid (show w.heap.size ≤ gR by omega)
  have B0 := Lib.hid hb0
  have N0 := Lib.hid hn0
  clear hb0 hn0 hgR
  refine wp_loop_rounds 5 ?_
  rw [rounds_succ]
  go_wp2_with fail
  refine (K0.out _).mono ?_
  rintro e x0 ⟨rfl, hp⟩
  have hb := (hp.block _ (Array.getElem?_eq_some_iff.1 B0.out).1 id).trans B0.out
  have hn := N0.out.trans hp (fun _ _ h => h)
  have y0 : x0.cell? ⟨gR, 0, none⟩ = some (.int .u16 0) := by simp [World.cell?, hb]
  have z0 : x0.frozen? ⟨gR, 0, none⟩ = false := by simp [World.frozen?, hb]
  clear hp
  have hb' := hb
  have HB := Lib.hid hb'
  clear hb hb'
  go_wp2_with fail
  have hb := heap_set x0 gR 0 _ _ (.int .u16 (g16 l 0 : Nat)) HB.out
  simp only [List.setIfInBounds_toArray, List.set_cons_zero, List.set_cons_succ] at hb
  have hn2 := hn.setCell (p := ⟨gR, 0, none⟩) (Or.inl HgR.out) (.int .u16 (g16 l 0 : Nat))
  generalize x0.setCell ⟨gR, 0, none⟩ (.int .u16 (g16 l 0 : Nat)) = w1 at *
  have B1 := Lib.hid hb
  have N1 := Lib.hid hn2
  clear hb hn hn2 HB y0 z0 B0 N0 K0
  rw [rounds_succ]
  go_wp2_with fail
  refine (K1.out _).mono ?_
  rintro e x1 ⟨rfl, hp⟩
  have hb := (hp.block _ (Array.getElem?_eq_some_iff.1 B1.out).1 id).trans B1.out
  have hn := N1.out.trans hp (fun _ _ h => h)
  have y0 : x1.cell? ⟨gR, 1, none⟩ = some (.int .u16 0) := by simp [World.cell?, hb]
  have z0 : x1.frozen? ⟨gR, 1, none⟩ = false := by simp [World.frozen?, hb]
  clear hp
  have hb' := hb
  have HB := Lib.hid hb'
  clear hb hb'
  go_wp2_with fail
  have hb := heap_set x1 gR 1 _ _ (.int .u16 (g16 l 2 : Nat)) HB.out
  simp only [List.setIfInBounds_toArray, List.set_cons_zero, List.set_cons_succ] at hb
  have hn2 := hn.setCell (p := ⟨gR, 1, none⟩) (Or.inl HgR.out) (.int .u16 (g16 l 2 : Nat))
  generalize x1.setCell ⟨gR, 1, none⟩ (.int .u16 (g16 l 2 : Nat)) = w2 at *
  have B2 := Lib.hid hb
  have N2 := Lib.hid hn2
  clear hb hn hn2 HB y0 z0 B1 N1 K1
  rw [rounds_succ]
  go_wp2_with fail
  refine (K2.out _).mono ?_
  rintro e x2 ⟨rfl, hp⟩
  have hb := (hp.block _ (Array.getElem?_eq_some_iff.1 B2.out).1 id).trans B2.out
  have hn := N2.out.trans hp (fun _ _ h => h)
  have y0 : x2.cell? ⟨gR, 2, none⟩ = some (.int .u16 0) := by simp [World.cell?, hb]
  have z0 : x2.frozen? ⟨gR, 2, none⟩ = false := by simp [World.frozen?, hb]
  clear hp
  have hb' := hb
  have HB := Lib.hid hb'
  clear hb hb'
  go_wp2_with fail
  have hb := heap_set x2 gR 2 _ _ (.int .u16 (g16 l 4 : Nat)) HB.out
  simp only [List.setIfInBounds_toArray, List.set_cons_zero, List.set_cons_succ] at hb
  have hn2 := hn.setCell (p := ⟨gR, 2, none⟩) (Or.inl HgR.out) (.int .u16 (g16 l 4 : Nat))
  generalize x2.setCell ⟨gR, 2, none⟩ (.int .u16 (g16 l 4 : Nat)) = w3 at *
  have B3 := Lib.hid hb
  have N3 := Lib.hid hn2
  clear hb hn hn2 HB y0 z0 B2 N2 K2
  rw [rounds_succ]
  go_wp2_with fail
  refine (K3.out _).mono ?_
  rintro e x3 ⟨rfl, hp⟩
  have hb := (hp.block _ (Array.getElem?_eq_some_iff.1 B3.out).1 id).trans B3.out
  have hn := N3.out.trans hp (fun _ _ h => h)
  have y0 : x3.cell? ⟨gR, 3, none⟩ = some (.int .u16 0) := by simp [World.cell?, hb]
  have z0 : x3.frozen? ⟨gR, 3, none⟩ = false := by simp [World.frozen?, hb]
  clear hp
  have hb' := hb
  have HB := Lib.hid hb'
  clear hb hb'
  go_wp2_with fail
  have hb := heap_set x3 gR 3 _ _ (.int .u16 (g16 l 6 : Nat)) HB.out
  simp only [List.setIfInBounds_toArray, List.set_cons_zero, List.set_cons_succ] at hb
  have hn2 := hn.setCell (p := ⟨gR, 3, none⟩) (Or.inl HgR.out) (.int .u16 (g16 l 6 : Nat))
  generalize x3.setCell ⟨gR, 3, none⟩ (.int .u16 (g16 l 6 : Nat)) = w4 at *
  have B4 := Lib.hid hb
  have N4 := Lib.hid hn2
  clear hb hn hn2 HB y0 z0 B3 N3 K3
  have yr0 : w4.cell? ⟨gR, 0, none⟩ = some (.int .u16 (g16 l 0 : Nat)) := by simp [World.cell?, B4.out]
  have zyr0 : w4.frozen? ⟨gR, 0, none⟩ = false := by simp [World.frozen?, B4.out]
  have yr1 : w4.cell? ⟨gR, 1, none⟩ = some (.int .u16 (g16 l 2 : Nat)) := by simp [World.cell?, B4.out]
  have zyr1 : w4.frozen? ⟨gR, 1, none⟩ = false := by simp [World.frozen?, B4.out]
  have yr2 : w4.cell? ⟨gR, 2, none⟩ = some (.int .u16 (g16 l 4 : Nat)) := by simp [World.cell?, B4.out]
  have zyr2 : w4.frozen? ⟨gR, 2, none⟩ = false := by simp [World.frozen?, B4.out]
  have yr3 : w4.cell? ⟨gR, 3, none⟩ = some (.int .u16 (g16 l 6 : Nat)) := by simp [World.cell?, B4.out]
  have zyr3 : w4.frozen? ⟨gR, 3, none⟩ = false := by simp [World.frozen?, B4.out]
  have lR := cell_lt yr0
  rw [rounds_succ]
  go_wp2_with fail
  obtain ⟨W, hW, hb2, hf2⟩ := set4 w4 gR 181 (.int .u16 (g16 l 0 : Nat)) (.int .u16 (g16 l 2 : Nat)) (.int .u16 (g16 l 4 : Nat)) (.int .u16 (g16 l 6 : Nat)) B4.out (.int .u16 (g16 l 0 : Nat)) (.int .u16 (g16 l 2 : Nat)) (.int .u16 (g16 l 4 : Nat)) (.int .u16 (g16 l 6 : Nat))
  rw [← hW]
  clear hW lR yr0 zyr0 yr1 zyr1 yr2 zyr2 yr3 zyr3
  have yr0 : W.cell? ⟨gR, 0, none⟩ = some (.int .u16 (g16 l 0 : Nat)) := by simp [World.cell?, hb2]
  have yr1 : W.cell? ⟨gR, 1, none⟩ = some (.int .u16 (g16 l 2 : Nat)) := by simp [World.cell?, hb2]
  have yr2 : W.cell? ⟨gR, 2, none⟩ = some (.int .u16 (g16 l 4 : Nat)) := by simp [World.cell?, hb2]
  have yr3 : W.cell? ⟨gR, 3, none⟩ = some (.int .u16 (g16 l 6 : Nat)) := by simp [World.cell?, hb2]
  have lR : gR < W.heap.size := cell_lt yr0
  have HF := Lib.hid (N4.out.trans hf2 (fun i hi e => by have h1 : i = gR := e; have h2 := HgR.out; omega))
  clear hf2 hb2
  refine bodyPost_ret (v := .agg #[.int .u16 (g16 l 0 : Nat), .int .u16 (g16 l 2 : Nat), .int .u16 (g16 l 4 : Nat), .int .u16 (g16 l 6 : Nat)]) (by simp only [results, Tryz.results126]; go_simp) rfl ⟨rfl, HF.out⟩

def udZ : Value := .agg #[.int .u16 0, .int .u16 0, .int .u16 0, .int .u16 0]
theorem udp_short (l : List UInt8) (h : l.length < 8) (w : World) : Calls Tryz.prog 98 #[str l] w (Ret1 (.tuple #[udZ, str [], .bool false]) w) := by
  go_enter Tryz.func98, Tryz.ntmps98
  go_wp2_with fail
  refine bodyPost_ret (v := .tuple #[udZ, str [], .bool false]) (by simp only [results, Tryz.results98, udZ]; go_simp) rfl ⟨rfl, (Fp.refl _ _).alloc _⟩

set_option maxHeartbeats 2000000 in
set_option maxRecDepth 100000 in
theorem udp_bad (l : List UInt8) (h : 8 ≤ l.length) (hl : l.length ≤ 1000000) (hb : ((g16 l 4 : Int) != (l.length : Int)) = true) (w : World) : Calls Tryz.prog 98 #[str l] w (Ret1 (.tuple #[udZ, str [], .bool false]) w) := by
  have K := Lib.hid (fun W => take_ok l hl W)
  have c0 : IntKind.i64.wrap ((g16 l 4 : Nat) : Int) = ((g16 l 4 : Nat) : Int) := IntWalk.i64_in _ (by have := g16_lt l 4; omega)
  go_enter Tryz.func98, Tryz.ntmps98
  go_wp2_with fail
  refine (K.out _).mono ?_
  rintro e w1 ⟨rfl, hp⟩
  have hb0 := heap_alloc_new w (.cells #[.int .u16 0, .int .u16 0, .int .u16 0, .int .u16 0] 100)
  have hb1 := (hp.block _ (Array.getElem?_eq_some_iff.1 hb0).1 id).trans hb0
  have hn1 : NoW w w1 := ((Fp.refl _ _).alloc _).trans hp (fun _ _ h => h)
  generalize w.alloc (.cells #[.int .u16 0, .int .u16 0, .int .u16 0, .int .u16 0] 100) = w0 at *
  obtain ⟨gR, hgR⟩ : ∃ gR, gR = w.heap.size := ⟨_, rfl⟩
  rw [← hgR] at hb1 hb0 ⊢
  have HgR := Lib.hid (show w.heap.size ≤ gR by omega)
  have B1 := Lib.hid hb1
  have N1 := Lib.hid hn1
  clear hb0 hb1 hn1 hp hgR
  go_upto_region 4 with fail
  have hbA := heap_alloc_new w1 (.cells #[.int .u16 (g16 l 0 : Nat), .int .u16 (g16 l 2 : Nat), .int .u16 (g16 l 4 : Nat), .int .u16 (g16 l 6 : Nat)] 181)
  have hnA : NoW w1 (w1.alloc (.cells #[.int .u16 (g16 l 0 : Nat), .int .u16 (g16 l 2 : Nat), .int .u16 (g16 l 4 : Nat), .int .u16 (g16 l 6 : Nat)] 181)) := (Fp.refl _ _).alloc _
  generalize w1.alloc (.cells #[.int .u16 (g16 l 0 : Nat), .int .u16 (g16 l 2 : Nat), .int .u16 (g16 l 4 : Nat), .int .u16 (g16 l 6 : Nat)] 181) = w2 at *
  obtain ⟨gA, hgA⟩ : ∃ gA, gA = w1.heap.size := ⟨_, rfl⟩
  rw [← hgA] at hbA ⊢
  have hRA : gR < gA := by rw [hgA]; exact (Array.getElem?_eq_some_iff.1 B1.out).1
  have A2 := Lib.hid hbA
  have B2 := Lib.hid ((hnA.block _ (Array.getElem?_eq_some_iff.1 B1.out).1 id).trans B1.out)
  have N2 := Lib.hid (N1.out.trans hnA (fun _ _ h => h))
  clear hbA hnA hgA B1 N1 K
  have f0 : w2.cell? ⟨gA, 0, none⟩ = some (.int .u16 (g16 l 0 : Nat)) := by simp [World.cell?, A2.out]
  have f1 : w2.cell? ⟨gA, 1, none⟩ = some (.int .u16 (g16 l 2 : Nat)) := by simp [World.cell?, A2.out]
  have f2 : w2.cell? ⟨gA, 2, none⟩ = some (.int .u16 (g16 l 4 : Nat)) := by simp [World.cell?, A2.out]
  have f3 : w2.cell? ⟨gA, 3, none⟩ = some (.int .u16 (g16 l 6 : Nat)) := by simp [World.cell?, A2.out]
  have l8 := cell_lt f0
  have yr0 : w2.cell? ⟨gR, 0, none⟩ = some (.int .u16 0) := by simp [World.cell?, B2.out]
  have zyr0 : w2.frozen? ⟨gR, 0, none⟩ = false := by simp [World.frozen?, B2.out]
  have yr1 : w2.cell? ⟨gR, 1, none⟩ = some (.int .u16 0) := by simp [World.cell?, B2.out]
  have zyr1 : w2.frozen? ⟨gR, 1, none⟩ = false := by simp [World.frozen?, B2.out]
  have yr2 : w2.cell? ⟨gR, 2, none⟩ = some (.int .u16 0) := by simp [World.cell?, B2.out]
  have zyr2 : w2.frozen? ⟨gR, 2, none⟩ = false := by simp [World.frozen?, B2.out]
  have yr3 : w2.cell? ⟨gR, 3, none⟩ = some (.int .u16 0) := by simp [World.cell?, B2.out]
  have zyr3 : w2.frozen? ⟨gR, 3, none⟩ = false := by simp [World.frozen?, B2.out]
  have lR := cell_lt yr0
  go_wp2_with fail
  obtain ⟨W, hW, hb2, hf2⟩ := set4 w2 gR 100 (.int .u16 0) (.int .u16 0) (.int .u16 0) (.int .u16 0) B2.out (.int .u16 0) (.int .u16 0) (.int .u16 0) (.int .u16 0)
  rw [← hW]
  clear hW lR yr0 zyr0 yr1 zyr1 yr2 zyr2 yr3 zyr3
  have yr0 : W.cell? ⟨gR, 0, none⟩ = some (.int .u16 0) := by simp [World.cell?, hb2]
  have yr1 : W.cell? ⟨gR, 1, none⟩ = some (.int .u16 0) := by simp [World.cell?, hb2]
  have yr2 : W.cell? ⟨gR, 2, none⟩ = some (.int .u16 0) := by simp [World.cell?, hb2]
  have yr3 : W.cell? ⟨gR, 3, none⟩ = some (.int .u16 0) := by simp [World.cell?, hb2]
  have lR : gR < W.heap.size := cell_lt yr0
  have HF := Lib.hid (N2.out.trans hf2 (fun i hi e => by have h1 : i = gR := e; have h2 := HgR.out; omega))
  clear hf2 hb2
  refine bodyPost_ret (v := .tuple #[udZ, str [], .bool false]) (by simp only [results, Tryz.results98, udZ]; go_simp) rfl ⟨rfl, HF.out⟩

set_option maxHeartbeats 4000000 in
set_option maxRecDepth 100000 in
theorem udp_good (l : List UInt8) (h : 8 ≤ l.length) (hl : l.length ≤ 1000000) (hb : ((g16 l 4 : Int) != (l.length : Int)) = false) (w : World) : Calls Tryz.prog 98 #[str l] w (Ret1 (.tuple #[.agg #[.int .u16 (g16 l 0 : Nat), .int .u16 (g16 l 2 : Nat), .int .u16 (g16 l 4 : Nat), .int .u16 (g16 l 6 : Nat)], str (l.drop 8), .bool true]) w) := by
  have K := Lib.hid (fun W => take_ok l hl W)
  have c0 : IntKind.i64.wrap ((g16 l 4 : Nat) : Int) = ((g16 l 4 : Nat) : Int) := IntWalk.i64_in _ (by have := g16_lt l 4; omega)
  go_enter Tryz.func98, Tryz.ntmps98
  go_wp2_with fail
  refine (K.out _).mono ?_
  rintro e w1 ⟨rfl, hp⟩
  have hb0 := heap_alloc_new w (.cells #[.int .u16 0, .int .u16 0, .int .u16 0, .int .u16 0] 100)
  have hb1 := (hp.block _ (Array.getElem?_eq_some_iff.1 hb0).1 id).trans hb0
  have hn1 : NoW w w1 := ((Fp.refl _ _).alloc _).trans hp (fun _ _ h => h)
  generalize w.alloc (.cells #[.int .u16 0, .int .u16 0, .int .u16 0, .int .u16 0] 100) = w0 at *
  obtain ⟨gR, hgR⟩ : ∃ gR, gR = w.heap.size := ⟨_, rfl⟩
  rw [← hgR] at hb1 hb0 ⊢
  have HgR := Lib.hid (show w.heap.size ≤ gR by omega)
  have B1 := Lib.hid hb1
  have N1 := Lib.hid hn1
  clear hb0 hb1 hn1 hp hgR
  go_upto_region 4 with fail
  have hbA := heap_alloc_new w1 (.cells #[.int .u16 (g16 l 0 : Nat), .int .u16 (g16 l 2 : Nat), .int .u16 (g16 l 4 : Nat), .int .u16 (g16 l 6 : Nat)] 181)
  have hnA : NoW w1 (w1.alloc (.cells #[.int .u16 (g16 l 0 : Nat), .int .u16 (g16 l 2 : Nat), .int .u16 (g16 l 4 : Nat), .int .u16 (g16 l 6 : Nat)] 181)) := (Fp.refl _ _).alloc _
  generalize w1.alloc (.cells #[.int .u16 (g16 l 0 : Nat), .int .u16 (g16 l 2 : Nat), .int .u16 (g16 l 4 : Nat), .int .u16 (g16 l 6 : Nat)] 181) = w2 at *
  obtain ⟨gA, hgA⟩ : ∃ gA, gA = w1.heap.size := ⟨_, rfl⟩
  rw [← hgA] at hbA ⊢
  have hRA : gR < gA := by rw [hgA]; exact (Array.getElem?_eq_some_iff.1 B1.out).1
  have A2 := Lib.hid hbA
  have B2 := Lib.hid ((hnA.block _ (Array.getElem?_eq_some_iff.1 B1.out).1 id).trans B1.out)
  have N2 := Lib.hid (N1.out.trans hnA (fun _ _ h => h))
  clear hbA hnA hgA B1 N1 K
  have f0 : w2.cell? ⟨gA, 0, none⟩ = some (.int .u16 (g16 l 0 : Nat)) := by simp [World.cell?, A2.out]
  have f1 : w2.cell? ⟨gA, 1, none⟩ = some (.int .u16 (g16 l 2 : Nat)) := by simp [World.cell?, A2.out]
  have f2 : w2.cell? ⟨gA, 2, none⟩ = some (.int .u16 (g16 l 4 : Nat)) := by simp [World.cell?, A2.out]
  have f3 : w2.cell? ⟨gA, 3, none⟩ = some (.int .u16 (g16 l 6 : Nat)) := by simp [World.cell?, A2.out]
  have l8 := cell_lt f0
  have n8 : ¬ gA = gR := by omega
  have i8 : (8 : Int) ≤ (l.length : Int) := by omega
  have exl : (⟨l.toArray⟩ : ByteArray).extract 8 l.length = ⟨(l.drop 8).toArray⟩ := by rw [ext_cut, List.take_length]
  go_upto_region 6 with fail
  refine wp_region_held_drew (S := fun wx => Fp (fun b => b = gR) w2 wx) (by kernel_rfl) (Fp.drew (Fp.refl _ _)) (fun hHeld => ?_)
  (refine take_at 0 (some 19) rfl rfl (by kernel_rfl) (by kernel_rfl) (by kernel_rfl) (fun _ _ _ h => h) (v := ?_) (by kernel_rfl) ?_ (by assumption) ?_; rotate_left; (focus (intro wS hSw; skip; go_simp; try with_reducible rfl)); (try simp only [Act.put, List.setIfInBounds_toArray, List.set_cons_zero, List.set_cons_succ]))
  (refine take_at 1 (some 20) rfl rfl (by kernel_rfl) (by kernel_rfl) (by kernel_rfl) (fun _ _ _ h => h) (v := ?_) (by kernel_rfl) ?_ (by assumption) ?_; rotate_left; (focus (intro wS hSw; (have qt := (hSw.cell (p := ⟨gA, 0, none⟩) l8 n8).trans f0); go_simp; try with_reducible rfl)); (try simp only [Act.put, List.setIfInBounds_toArray, List.set_cons_zero, List.set_cons_succ]))
  (refine take_at 2 (some 21) rfl rfl (by kernel_rfl) (by kernel_rfl) (by kernel_rfl) (fun _ _ _ h => h) (v := ?_) (by kernel_rfl) ?_ (by assumption) ?_; rotate_left; (focus (intro wS hSw; skip; go_simp; try with_reducible rfl)); (try simp only [Act.put, List.setIfInBounds_toArray, List.set_cons_zero, List.set_cons_succ]))
  (refine take_at 3 (some 22) rfl rfl (by kernel_rfl) (by kernel_rfl) (by kernel_rfl) (fun _ _ _ h => h) (v := ?_) (by kernel_rfl) ?_ (by assumption) ?_; rotate_left; (focus (intro wS hSw; (have qt := (hSw.cell (p := ⟨gA, 1, none⟩) l8 n8).trans f1); go_simp; try with_reducible rfl)); (try simp only [Act.put, List.setIfInBounds_toArray, List.set_cons_zero, List.set_cons_succ]))
  (refine take_at 4 (some 23) rfl rfl (by kernel_rfl) (by kernel_rfl) (by kernel_rfl) (fun _ _ _ h => h) (v := ?_) (by kernel_rfl) ?_ (by assumption) ?_; rotate_left; (focus (intro wS hSw; skip; go_simp; try with_reducible rfl)); (try simp only [Act.put, List.setIfInBounds_toArray, List.set_cons_zero, List.set_cons_succ]))
  (refine take_at 5 (some 24) rfl rfl (by kernel_rfl) (by kernel_rfl) (by kernel_rfl) (fun _ _ _ h => h) (v := ?_) (by kernel_rfl) ?_ (by assumption) ?_; rotate_left; (focus (intro wS hSw; (have qt := (hSw.cell (p := ⟨gA, 2, none⟩) l8 n8).trans f2); go_simp; try with_reducible rfl)); (try simp only [Act.put, List.setIfInBounds_toArray, List.set_cons_zero, List.set_cons_succ]))
  (refine take_at 6 (some 25) rfl rfl (by kernel_rfl) (by kernel_rfl) (by kernel_rfl) (fun _ _ _ h => h) (v := ?_) (by kernel_rfl) ?_ (by assumption) ?_; rotate_left; (focus (intro wS hSw; skip; go_simp; try with_reducible rfl)); (try simp only [Act.put, List.setIfInBounds_toArray, List.set_cons_zero, List.set_cons_succ]))
  (refine take_at 7 (some 26) rfl rfl (by kernel_rfl) (by kernel_rfl) (by kernel_rfl) (fun _ _ _ h => h) (v := ?_) (by kernel_rfl) ?_ (by assumption) ?_; rotate_left; (focus (intro wS hSw; (have qt := (hSw.cell (p := ⟨gA, 3, none⟩) l8 n8).trans f3); go_simp; try with_reducible rfl)); (try simp only [Act.put, List.setIfInBounds_toArray, List.set_cons_zero, List.set_cons_succ]))
  (refine take_at 8 (some 27) rfl rfl (by kernel_rfl) (by kernel_rfl) (by kernel_rfl) (fun _ _ _ h => h) (v := ?_) (by kernel_rfl) ?_ (by assumption) ?_; rotate_left; (focus (intro wS hSw; skip; go_simp; try with_reducible rfl)); (try simp only [Act.put, List.setIfInBounds_toArray, List.set_cons_zero, List.set_cons_succ]))
  (refine take_at 9 (some 28) rfl rfl (by kernel_rfl) (by kernel_rfl) (by kernel_rfl) (fun _ _ _ h => h) (v := ?_) (by kernel_rfl) ?_ (by assumption) ?_; rotate_left; (focus (intro wS hSw; skip; go_simp; try with_reducible rfl)); (try simp only [Act.put, List.setIfInBounds_toArray, List.set_cons_zero, List.set_cons_succ]))
  (refine take_at 10 (some 29) rfl rfl (by kernel_rfl) (by kernel_rfl) (by kernel_rfl) (fun _ _ _ h => h) (v := ?_) (by kernel_rfl) ?_ (by assumption) ?_; rotate_left; (focus (intro wS hSw; skip; go_simp; try with_reducible rfl)); (try simp only [Act.put, List.setIfInBounds_toArray, List.set_cons_zero, List.set_cons_succ]))
  generalize hwd : w2.drew = wd at *
  have Bd : wd.heap[gR]? = some (.cells #[.int .u16 0, .int .u16 0, .int .u16 0, .int .u16 0] 100) := by rw [← hwd]; exact B2.out
  have yr0 : wd.cell? ⟨gR, 0, none⟩ = some (.int .u16 0) := by simp [World.cell?, Bd]
  have zyr0 : wd.frozen? ⟨gR, 0, none⟩ = false := by simp [World.frozen?, Bd]
  have yr1 : wd.cell? ⟨gR, 1, none⟩ = some (.int .u16 0) := by simp [World.cell?, Bd]
  have zyr1 : wd.frozen? ⟨gR, 1, none⟩ = false := by simp [World.frozen?, Bd]
  have yr2 : wd.cell? ⟨gR, 2, none⟩ = some (.int .u16 0) := by simp [World.cell?, Bd]
  have zyr2 : wd.frozen? ⟨gR, 2, none⟩ = false := by simp [World.frozen?, Bd]
  have yr3 : wd.cell? ⟨gR, 3, none⟩ = some (.int .u16 0) := by simp [World.cell?, Bd]
  have zyr3 : wd.frozen? ⟨gR, 3, none⟩ = false := by simp [World.frozen?, Bd]
  have lR := cell_lt yr0
  refine wpAnyH_ready (rs := [11]) (by kernel_rfl) (by simp) ?_
  refine AllReadyH.cons rfl (fun K hK => ?_) AllReadyH.nil
  go_simp
  obtain ⟨W, hW, hb2, hf2⟩ := set4 wd gR 100 (.int .u16 0) (.int .u16 0) (.int .u16 0) (.int .u16 0) Bd (.int .u16 (g16 l 0 : Nat)) (.int .u16 (g16 l 2 : Nat)) (.int .u16 (g16 l 4 : Nat)) (.int .u16 (g16 l 6 : Nat))
  rw [← hW]
  clear hW lR yr0 zyr0 yr1 zyr1 yr2 zyr2 yr3 zyr3
  have hSW : Fp (fun b => b = gR) w2 W := hHeld.trans hf2 (fun _ _ h => h)
  refine hK.out _ _ hSW (fun hHeld3 => ?_)
  clear hK K hHeld hHeld3
  try simp only [Act.put, List.setIfInBounds_toArray, List.set_cons_zero, List.set_cons_succ]
  have hHeld := hSW
  (refine take_at 12 (some 3) rfl rfl (by kernel_rfl) (by kernel_rfl) (by kernel_rfl) (fun _ _ _ h => h) (v := ?_) (by kernel_rfl) ?_ (by assumption) ?_; rotate_left; (focus (intro wS hSw; skip; go_simp; try with_reducible rfl)); (try simp only [Act.put, List.setIfInBounds_toArray, List.set_cons_zero, List.set_cons_succ]))
  (refine take_at 13 (some 4) rfl rfl (by kernel_rfl) (by kernel_rfl) (by kernel_rfl) (fun _ _ _ h => h) (v := ?_) (by kernel_rfl) ?_ (by assumption) ?_; rotate_left; (focus (intro wS hSw; skip; go_simp; try with_reducible rfl)); (try simp only [Act.put, List.setIfInBounds_toArray, List.set_cons_zero, List.set_cons_succ]))
  refine wpAnyH_done (by kernel_rfl) ?_ _
  have yr0 : W.cell? ⟨gR, 0, none⟩ = some (.int .u16 (g16 l 0 : Nat)) := by simp [World.cell?, hb2]
  have yr1 : W.cell? ⟨gR, 1, none⟩ = some (.int .u16 (g16 l 2 : Nat)) := by simp [World.cell?, hb2]
  have yr2 : W.cell? ⟨gR, 2, none⟩ = some (.int .u16 (g16 l 4 : Nat)) := by simp [World.cell?, hb2]
  have yr3 : W.cell? ⟨gR, 3, none⟩ = some (.int .u16 (g16 l 6 : Nat)) := by simp [World.cell?, hb2]
  have lR : gR < W.heap.size := cell_lt yr0
  have HF := Lib.hid (N2.out.trans hSW (fun i hi e => by have h1 : i = gR := e; have h2 := HgR.out; omega))
  clear hf2 hb2 hSW hHeld
  go_wp2_with fail
  refine bodyPost_ret (v := .tuple #[.agg #[.int .u16 (g16 l 0 : Nat), .int .u16 (g16 l 2 : Nat), .int .u16 (g16 l 4 : Nat), .int .u16 (g16 l 6 : Nat)], str (l.drop 8), .bool true]) (by simp only [results, Tryz.results98]; go_simp) rfl ⟨rfl, HF.out⟩

def udV (l : List UInt8) : Value := if udpOk l = true then .tuple #[.agg #[.int .u16 (g16 l 0 : Nat), .int .u16 (g16 l 2 : Nat), .int .u16 (g16 l 4 : Nat), .int .u16 (g16 l 6 : Nat)], str (l.drop 8), .bool true] else .tuple #[udZ, str [], .bool false]
theorem udp_ok (l : List UInt8) (hl : l.length ≤ 1000000) (w : World) : Calls Tryz.prog 98 #[str l] w (Ret1 (udV l) w) := by
  by_cases h : 8 ≤ l.length
  · by_cases h2 : g16 l 4 = l.length
    · rw [show udV l = .tuple #[.agg #[.int .u16 (g16 l 0 : Nat), .int .u16 (g16 l 2 : Nat), .int .u16 (g16 l 4 : Nat), .int .u16 (g16 l 6 : Nat)], str (l.drop 8), .bool true] from if_pos (decide_eq_true ⟨h, h2⟩)]
      exact udp_good l h hl (by simp [bne]; omega) w
    · rw [show udV l = .tuple #[udZ, str [], .bool false] from if_neg (by unfold udpOk; simp; omega)]
      exact udp_bad l h hl (by simp [bne]; omega) w
  · rw [show udV l = .tuple #[udZ, str [], .bool false] from if_neg (by unfold udpOk; simp; omega)]
    exact udp_short l (by omega) w
end Go.Proofs.YtmghjaoodnkjlaaGreatDoor
