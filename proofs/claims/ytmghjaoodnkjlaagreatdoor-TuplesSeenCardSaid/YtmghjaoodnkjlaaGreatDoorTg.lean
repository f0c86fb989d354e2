/- Chapter 08: ip.Parse. -/
import Derived.Test.YtmghjaoodnkjlaaGreatDoorTf
namespace Go.Proofs.YtmghjaoodnkjlaaGreatDoor
set_option linter.unusedVariables false
set_option linter.unusedSimpArgs false
open Go.RowKit Go.Lib Go.Sort

theorem holds8_ok (g c : Nat) (t : List UInt8) (h2 : t.length % 2 = 0) (ht : t.length ≤ 100000) (w : World) (hg : w.cell? ⟨g, 0, none⟩ = some (str t)) :
    Calls Tryz.prog 53 #[.slice (some ⟨g, 0, none⟩) 1 c] w (Ret1 (.bool (decide (csum [t] = 0))) w) := by
  have K := sum_ok g c t h2 ht w hg
  have hb : ((csum [t] : Int) == 0) = decide (csum [t] = 0) := by
    by_cases h : csum [t] = 0
    · rw [h]; rfl
    · rw [decide_eq_false h]; exact beq_eq_false_iff_ne.2 (by omega)
  go_enter Tryz.func53, Tryz.ntmps53
  go_wp2_with fail
  refine K.mono ?_
  rintro e w1 ⟨rfl, hp⟩
  go_wp2_with fail
  go_ret
  exact ⟨ret_b (by first | exact hb | rfl), hp⟩

def ipZ : Value := .agg #[.int .u8 0, .int .u16 0, .bool false, .int .u8 0, .int .u8 0, .int .u32 0, .int .u32 0, .string ⟨#[]⟩]
theorem ip_short (l : List UInt8) (h : l.length < 20) (w : World) : Calls Tryz.prog 26 #[str l] w (Ret1 (.tuple #[ipZ, str [], .int .i64 1]) w) := by
  go_enter Tryz.func26, Tryz.ntmps26
  go_wp2_with fail
  refine bodyPost_ret (v := .tuple #[ipZ, str [], .int .i64 1]) (by simp only [results, Tryz.results26, ipZ]; go_simp) rfl ⟨rfl, (Fp.refl _ _).alloc _⟩
theorem ip_ver (l : List UInt8) (h : 20 ≤ l.length) (hv : byt l 0 / 16 ≠ 4) (w : World) : Calls Tryz.prog 26 #[str l] w (Ret1 (.tuple #[ipZ, str [], .int .i64 2]) w) := by
  have x0 := run_byte l (i := 0) (z := 0) rfl (by omega)
  have b0 := byt_lt l 0
  generalize byt l 0 = a at *
  have c0 : (a : Int) / 16 = ((a / 16 : Nat) : Int) := by omega
  generalize a / 16 = q at *
  have c1 : ((q : Int) != 4) = true := by simp [bne]; omega
  go_enter Tryz.func26, Tryz.ntmps26
  go_wp2_with fail
  refine bodyPost_ret (v := .tuple #[ipZ, str [], .int .i64 2]) (by simp only [results, Tryz.results26, ipZ]; go_simp) rfl ⟨rfl, (Fp.refl _ _).alloc _⟩
theorem ip_len (l : List UInt8) (h : 20 ≤ l.length) (hl : l.length ≤ 1000000) (hv : byt l 0 / 16 = 4) (hb : lenB l = false) (w : World) : Calls Tryz.prog 26 #[str l] w (Ret1 (.tuple #[ipZ, str [], .int .i64 3]) w) := by
  have x0 := run_byte l (i := 0) (z := 0) rfl (by omega)
  have c0 : (byt l 0 : Int) / 16 = 4 := by omega
  have KL := Lib.hid (fun W => lengths_ok l h hl W)
  rw [hb] at KL
  generalize byt l 0 = a at *
  generalize ipOwn l = own at *
  generalize g16 l 2 = all at *
  go_enter Tryz.func26, Tryz.ntmps26
  go_wp2_with fail
  refine (KL.out _).mono ?_
  rintro e w1 ⟨rfl, hp⟩
  have hb0 := heap_alloc_new w (.cells #[.int .u8 0, .int .u16 0, .bool false, .int .u8 0, .int .u8 0, .int .u32 0, .int .u32 0, .string ⟨#[]⟩] 49)
  have hb1 := (hp.block _ (Array.getElem?_eq_some_iff.1 hb0).1 id).trans hb0
  have hn1 : NoW w w1 := ((Fp.refl _ _).alloc _).trans hp (fun _ _ h => h)
  generalize w.alloc (.cells #[.int .u8 0, .int .u16 0, .bool false, .int .u8 0, .int .u8 0, .int .u32 0, .int .u32 0, .string ⟨#[]⟩] 49) = w0 at *
  obtain ⟨gR, hgR⟩ : ∃ gR, gR = w.heap.size := ⟨_, rfl⟩
  rw [← hgR] at hb1 hb0 ⊢
  have HgR := Lib.hid (show w.heap.size ≤ gR by omega)
  have B1 := Lib.hid hb1
  have N1 := Lib.hid hn1
  clear hb0 hb1 hn1 hp hgR
  have yr0 : w1.cell? ⟨gR, 0, none⟩ = some (.int .u8 0) := by simp [World.cell?, B1.out]
  have zyr0 : w1.frozen? ⟨gR, 0, none⟩ = false := by simp [World.frozen?, B1.out]
  have yr1 : w1.cell? ⟨gR, 1, none⟩ = some (.int .u16 0) := by simp [World.cell?, B1.out]
  have zyr1 : w1.frozen? ⟨gR, 1, none⟩ = false := by simp [World.frozen?, B1.out]
  have yr2 : w1.cell? ⟨gR, 2, none⟩ = some (.bool false) := by simp [World.cell?, B1.out]
  have zyr2 : w1.frozen? ⟨gR, 2, none⟩ = false := by simp [World.frozen?, B1.out]
  have yr3 : w1.cell? ⟨gR, 3, none⟩ = some (.int .u8 0) := by simp [World.cell?, B1.out]
  have zyr3 : w1.frozen? ⟨gR, 3, none⟩ = false := by simp [World.frozen?, B1.out]
  have yr4 : w1.cell? ⟨gR, 4, none⟩ = some (.int .u8 0) := by simp [World.cell?, B1.out]
  have zyr4 : w1.frozen? ⟨gR, 4, none⟩ = false := by simp [World.frozen?, B1.out]
  have yr5 : w1.cell? ⟨gR, 5, none⟩ = some (.int .u32 0) := by simp [World.cell?, B1.out]
  have zyr5 : w1.frozen? ⟨gR, 5, none⟩ = false := by simp [World.frozen?, B1.out]
  have yr6 : w1.cell? ⟨gR, 6, none⟩ = some (.int .u32 0) := by simp [World.cell?, B1.out]
  have zyr6 : w1.frozen? ⟨gR, 6, none⟩ = false := by simp [World.frozen?, B1.out]
  have yr7 : w1.cell? ⟨gR, 7, none⟩ = some (.string ⟨#[]⟩) := by simp [World.cell?, B1.out]
  have zyr7 : w1.frozen? ⟨gR, 7, none⟩ = false := by simp [World.frozen?, B1.out]
  have lR := cell_lt yr0
  go_wp2_with fail
  obtain ⟨W, hW, hb2, hf2⟩ := set8 w1 gR 49 (.int .u8 0) (.int .u16 0) (.bool false) (.int .u8 0) (.int .u8 0) (.int .u32 0) (.int .u32 0) (.string ⟨#[]⟩) B1.out (.int .u8 0) (.int .u16 0) (.bool false) (.int .u8 0) (.int .u8 0) (.int .u32 0) (.int .u32 0) (.string ⟨#[]⟩)
  rw [← hW]
  clear hW lR yr0 zyr0 yr1 zyr1 yr2 zyr2 yr3 zyr3 yr4 zyr4 yr5 zyr5 yr6 zyr6 yr7 zyr7
  have yr0 : W.cell? ⟨gR, 0, none⟩ = some (.int .u8 0) := by simp [World.cell?, hb2]
  have yr1 : W.cell? ⟨gR, 1, none⟩ = some (.int .u16 0) := by simp [World.cell?, hb2]
  have yr2 : W.cell? ⟨gR, 2, none⟩ = some (.bool false) := by simp [World.cell?, hb2]
  have yr3 : W.cell? ⟨gR, 3, none⟩ = some (.int .u8 0) := by simp [World.cell?, hb2]
  have yr4 : W.cell? ⟨gR, 4, none⟩ = some (.int .u8 0) := by simp [World.cell?, hb2]
  have yr5 : W.cell? ⟨gR, 5, none⟩ = some (.int .u32 0) := by simp [World.cell?, hb2]
  have yr6 : W.cell? ⟨gR, 6, none⟩ = some (.int .u32 0) := by simp [World.cell?, hb2]
  have yr7 : W.cell? ⟨gR, 7, none⟩ = some (.string ⟨#[]⟩) := by simp [World.cell?, hb2]
  have lR : gR < W.heap.size := cell_lt yr0
  have HF := Lib.hid ((N1.out).trans hf2 (fun i hi e => by have h1 : i = gR := e; have h2 := HgR.out; omega))
  clear hf2 hb2
  refine bodyPost_ret (v := .tuple #[ipZ, str [], .int .i64 3]) (by simp only [results, Tryz.results26, ipZ]; go_simp) rfl ⟨rfl, HF.out⟩

set_option maxHeartbeats 1000000 in
theorem ip_sum (l : List UInt8) (own all : Nat) (h : 20 ≤ l.length) (hl : l.length ≤ 1000000) (hv : byt l 0 / 16 = 4) (ho : ipOwn l = own) (ha : g16 l 2 = all) (hb : lenB l = true) (h1 : 20 ≤ own) (h4 : own % 4 = 0) (h5 : own ≤ 60) (h2 : own ≤ all) (h3 : all ≤ l.length) (hs : csum [l.take own] ≠ 0) (w : World) :
    Calls Tryz.prog 26 #[str l] w (Ret1 (.tuple #[ipZ, str [], .int .i64 4]) w) := by
  have x0 := run_byte l (i := 0) (z := 0) rfl (by omega)
  have c0 : (byt l 0 : Int) / 16 = 4 := by omega
  have KL := Lib.hid (fun W => lengths_ok l h hl W)
  rw [hb, ho, ha] at KL
  generalize byt l 0 = a at *
  have o1 : own ≤ l.length := by omega
  have s0 := run_cutTo l (j := own) rfl o1
  have HOs := Lib.hid (fun g c W hg => holds8_ok g c (l.take own) (by rw [List.length_take]; omega) (by rw [List.length_take]; omega) W hg)
  rw [decide_eq_false hs] at HOs
  go_enter Tryz.func26, Tryz.ntmps26
  go_wp2_with fail
  refine (KL.out _).mono ?_
  rintro e w1 ⟨rfl, hp⟩
  have hb0 := heap_alloc_new w (.cells #[.int .u8 0, .int .u16 0, .bool false, .int .u8 0, .int .u8 0, .int .u32 0, .int .u32 0, .string ⟨#[]⟩] 49)
  have hb1 := (hp.block _ (Array.getElem?_eq_some_iff.1 hb0).1 id).trans hb0
  have hn1 : NoW w w1 := ((Fp.refl _ _).alloc _).trans hp (fun _ _ h => h)
  generalize w.alloc (.cells #[.int .u8 0, .int .u16 0, .bool false, .int .u8 0, .int .u8 0, .int .u32 0, .int .u32 0, .string ⟨#[]⟩] 49) = w0 at *
  obtain ⟨gR, hgR⟩ : ∃ gR, gR = w.heap.size := ⟨_, rfl⟩
  rw [← hgR] at hb1 hb0 ⊢
  have HgR := Lib.hid (show w.heap.size ≤ gR by omega)
  have B1 := Lib.hid hb1
  have N1 := Lib.hid hn1
  clear hb0 hb1 hn1 hp hgR
  go_wp2_with fail
  have hbs := heap_alloc_new w1 (.cells #[str (l.take own)] 9)
  have hns : NoW w1 (w1.alloc (.cells #[str (l.take own)] 9)) := (Fp.refl _ _).alloc _
  have hcs : (w1.alloc (.cells #[str (l.take own)] 9)).cell? ⟨w1.heap.size, 0, none⟩ = some (str (l.take own)) := by
    simp only [World.cell?]
    rw [hbs]
    rfl
  refine (HOs.out w1.heap.size _ _ hcs).mono ?_
  rintro e w2 ⟨rfl, hp⟩
  have hn12 : NoW w1 w2 := hns.trans hp (fun _ _ h => h)
  have B2 := Lib.hid ((hn12.block _ (Array.getElem?_eq_some_iff.1 B1.out).1 id).trans B1.out)
  have N2 := Lib.hid (N1.out.trans hn12 (fun _ _ h => h))
  clear hp hn12 hns hbs hcs B1 N1
  have yr0 : w2.cell? ⟨gR, 0, none⟩ = some (.int .u8 0) := by simp [World.cell?, B2.out]
  have zyr0 : w2.frozen? ⟨gR, 0, none⟩ = false := by simp [World.frozen?, B2.out]
  have yr1 : w2.cell? ⟨gR, 1, none⟩ = some (.int .u16 0) := by simp [World.cell?, B2.out]
  have zyr1 : w2.frozen? ⟨gR, 1, none⟩ = false := by simp [World.frozen?, B2.out]
  have yr2 : w2.cell? ⟨gR, 2, none⟩ = some (.bool false) := by simp [World.cell?, B2.out]
  have zyr2 : w2.frozen? ⟨gR, 2, none⟩ = false := by simp [World.frozen?, B2.out]
  have yr3 : w2.cell? ⟨gR, 3, none⟩ = some (.int .u8 0) := by simp [World.cell?, B2.out]
  have zyr3 : w2.frozen? ⟨gR, 3, none⟩ = false := by simp [World.frozen?, B2.out]
  have yr4 : w2.cell? ⟨gR, 4, none⟩ = some (.int .u8 0) := by simp [World.cell?, B2.out]
  have zyr4 : w2.frozen? ⟨gR, 4, none⟩ = false := by simp [World.frozen?, B2.out]
  have yr5 : w2.cell? ⟨gR, 5, none⟩ = some (.int .u32 0) := by simp [World.cell?, B2.out]
  have zyr5 : w2.frozen? ⟨gR, 5, none⟩ = false := by simp [World.frozen?, B2.out]
  have yr6 : w2.cell? ⟨gR, 6, none⟩ = some (.int .u32 0) := by simp [World.cell?, B2.out]
  have zyr6 : w2.frozen? ⟨gR, 6, none⟩ = false := by simp [World.frozen?, B2.out]
  have yr7 : w2.cell? ⟨gR, 7, none⟩ = some (.string ⟨#[]⟩) := by simp [World.cell?, B2.out]
  have zyr7 : w2.frozen? ⟨gR, 7, none⟩ = false := by simp [World.frozen?, B2.out]
  have lR := cell_lt yr0
  go_wp2_with fail
  obtain ⟨W, hW, hb2, hf2⟩ := set8 w2 gR 49 (.int .u8 0) (.int .u16 0) (.bool false) (.int .u8 0) (.int .u8 0) (.int .u32 0) (.int .u32 0) (.string ⟨#[]⟩) B2.out (.int .u8 0) (.int .u16 0) (.bool false) (.int .u8 0) (.int .u8 0) (.int .u32 0) (.int .u32 0) (.string ⟨#[]⟩)
  rw [← hW]
  clear hW lR yr0 zyr0 yr1 zyr1 yr2 zyr2 yr3 zyr3 yr4 zyr4 yr5 zyr5 yr6 zyr6 yr7 zyr7
  have yr0 : W.cell? ⟨gR, 0, none⟩ = some (.int .u8 0) := by simp [World.cell?, hb2]
  have yr1 : W.cell? ⟨gR, 1, none⟩ = some (.int .u16 0) := by simp [World.cell?, hb2]
  have yr2 : W.cell? ⟨gR, 2, none⟩ = some (.bool false) := by simp [World.cell?, hb2]
  have yr3 : W.cell? ⟨gR, 3, none⟩ = some (.int .u8 0) := by simp [World.cell?, hb2]
  have yr4 : W.cell? ⟨gR, 4, none⟩ = some (.int .u8 0) := by simp [World.cell?, hb2]
  have yr5 : W.cell? ⟨gR, 5, none⟩ = some (.int .u32 0) := by simp [World.cell?, hb2]
  have yr6 : W.cell? ⟨gR, 6, none⟩ = some (.int .u32 0) := by simp [World.cell?, hb2]
  have yr7 : W.cell? ⟨gR, 7, none⟩ = some (.string ⟨#[]⟩) := by simp [World.cell?, hb2]
  have lR : gR < W.heap.size := cell_lt yr0
  have HF := Lib.hid ((N2.out).trans hf2 (fun i hi e => by have h1 : i = gR := e; have h2 := HgR.out; omega))
  clear hf2 hb2
  refine bodyPost_ret (v := .tuple #[ipZ, str [], .int .i64 4]) (by simp only [results, Tryz.results26, ipZ]; go_simp) rfl ⟨rfl, HF.out⟩

set_option maxHeartbeats 4000000 in
set_option maxRecDepth 100000 in
theorem ip_rest (l : List UInt8) (own all fr : Nat) (h : 20 ≤ l.length) (hl : l.length ≤ 1000000) (hv : byt l 0 / 16 = 4) (ho : ipOwn l = own) (ha : g16 l 2 = all) (hfr : g16 l 6 = fr) (hb : lenB l = true) (h1 : 20 ≤ own) (h4 : own % 4 = 0) (h5 : own ≤ 60) (h2 : own ≤ all) (h3 : all ≤ l.length) (hs : csum [l.take own] = 0) (w : World) :
    Calls Tryz.prog 26 #[str l] w (Ret1 (if fr = 0 then .tuple #[.agg #[.int .u8 (byt l 1 : Nat), .int .u16 (g16 l 4 : Nat), .bool false, .int .u8 (byt l 8 : Nat), .int .u8 (byt l 9 : Nat), .int .u32 (g32 l 12 : Nat), .int .u32 (g32 l 16 : Nat), str ((l.take own).drop 20)], str ((l.take all).drop own), .int .i64 0] else if fr = 16384 then .tuple #[.agg #[.int .u8 (byt l 1 : Nat), .int .u16 (g16 l 4 : Nat), .bool true, .int .u8 (byt l 8 : Nat), .int .u8 (byt l 9 : Nat), .int .u32 (g32 l 12 : Nat), .int .u32 (g32 l 16 : Nat), str ((l.take own).drop 20)], str ((l.take all).drop own), .int .i64 0] else .tuple #[ipZ, str [], .int .i64 5]) w) := by
  have x0 := run_byte l (i := 0) (z := 0) rfl (by omega)
  have c0 : (byt l 0 : Int) / 16 = 4 := by omega
  have KL := Lib.hid (fun W => lengths_ok l h hl W)
  rw [hb, ho, ha] at KL
  have x1 := run_byte l (i := 1) (z := 1) rfl (by omega)
  have x8 := run_byte l (i := 8) (z := 8) rfl (by omega)
  have x9 := run_byte l (i := 9) (z := 9) rfl (by omega)
  have K4 := Lib.hid (fun W => two_ok l 4 hl (by omega) W)
  have K6 := Lib.hid (fun W => two_ok l 6 hl (by omega) W)
  have K12 := Lib.hid (fun W => addr_ok l 12 hl (by omega) W)
  have K16 := Lib.hid (fun W => addr_ok l 16 hl (by omega) W)
  rw [hfr] at K6
  generalize byt l 0 = a at *
  obtain ⟨V, hV⟩ : ∃ V : Value, V = (if fr = 0 then .tuple #[.agg #[.int .u8 (byt l 1 : Nat), .int .u16 (g16 l 4 : Nat), .bool false, .int .u8 (byt l 8 : Nat), .int .u8 (byt l 9 : Nat), .int .u32 (g32 l 12 : Nat), .int .u32 (g32 l 16 : Nat), str ((l.take own).drop 20)], str ((l.take all).drop own), .int .i64 0] else if fr = 16384 then .tuple #[.agg #[.int .u8 (byt l 1 : Nat), .int .u16 (g16 l 4 : Nat), .bool true, .int .u8 (byt l 8 : Nat), .int .u8 (byt l 9 : Nat), .int .u32 (g32 l 12 : Nat), .int .u32 (g32 l 16 : Nat), str ((l.take own).drop 20)], str ((l.take all).drop own), .int .i64 0] else .tuple #[ipZ, str [], .int .i64 5]) := ⟨_, rfl⟩
  rw [← hV]
  have HV := Lib.hid hV
  clear hV
  have o1 : own ≤ l.length := by omega
  have s0 := run_cutTo l (j := own) rfl o1
  have HOs := Lib.hid (fun g c W hg => holds8_ok g c (l.take own) (by rw [List.length_take]; omega) (by rw [List.length_take]; omega) W hg)
  have s1 := run_cut l (i := 20) (j := own) rfl rfl h1 o1
  have s2 := run_cut l (i := own) (j := all) rfl rfl h2 h3
  rw [decide_eq_true hs] at HOs
  go_enter Tryz.func26, Tryz.ntmps26
  go_wp2_with fail
  refine (KL.out _).mono ?_
  rintro e w1 ⟨rfl, hp⟩
  have hb0 := heap_alloc_new w (.cells #[.int .u8 0, .int .u16 0, .bool false, .int .u8 0, .int .u8 0, .int .u32 0, .int .u32 0, .string ⟨#[]⟩] 49)
  have hb1 := (hp.block _ (Array.getElem?_eq_some_iff.1 hb0).1 id).trans hb0
  have hn1 : NoW w w1 := ((Fp.refl _ _).alloc _).trans hp (fun _ _ h => h)
  generalize w.alloc (.cells #[.int .u8 0, .int .u16 0, .bool false, .int .u8 0, .int .u8 0, .int .u32 0, .int .u32 0, .string ⟨#[]⟩] 49) = w0 at *
  obtain ⟨gR, hgR⟩ : ∃ gR, gR = w.heap.size := ⟨_, rfl⟩
  rw [← hgR] at hb1 hb0 ⊢
  have HgR := Lib.hid (show w.heap.size ≤ gR by omega)
  have B1 := Lib.hid hb1
  have N1 := Lib.hid hn1
  clear hb0 hb1 hn1 hp hgR
  go_wp2_with fail
  have hbs := heap_alloc_new w1 (.cells #[str (l.take own)] 9)
  have hns : NoW w1 (w1.alloc (.cells #[str (l.take own)] 9)) := (Fp.refl _ _).alloc _
  have hcs : (w1.alloc (.cells #[str (l.take own)] 9)).cell? ⟨w1.heap.size, 0, none⟩ = some (str (l.take own)) := by
    simp only [World.cell?]
    rw [hbs]
    rfl
  refine (HOs.out w1.heap.size _ _ hcs).mono ?_
  rintro e w2 ⟨rfl, hp⟩
  have hn12 : NoW w1 w2 := hns.trans hp (fun _ _ h => h)
  have B2 := Lib.hid ((hn12.block _ (Array.getElem?_eq_some_iff.1 B1.out).1 id).trans B1.out)
  have N2 := Lib.hid (N1.out.trans hn12 (fun _ _ h => h))
  clear hp hn12 hns hbs hcs B1 N1
  go_upto_region 10 with fail
  go_cut [8] (fun s8 wx => ∃ g8, s8 = .pointer (some ⟨g8, 0, none⟩) ∧ wx.heap[g8]? = some (.cells #[.int .u8 (byt l 1 : Nat), .int .u16 (g16 l 4 : Nat), .bool false, .int .u8 (byt l 8 : Nat), .int .u8 (byt l 9 : Nat), .int .u32 (g32 l 12 : Nat), .int .u32 (g32 l 16 : Nat), str ((l.take own).drop 20)] 49) ∧ w2.heap.size ≤ g8 ∧ NoW w2 wx)
  case first =>
    refine wp_region_held_drew (S := fun wx => NoW w2 wx) (by kernel_rfl) (Fp.drew (Fp.refl _ _)) (fun hHeld => ?_)
    (refine take_at 0 (some 34) rfl rfl (by kernel_rfl) (by kernel_rfl) (by kernel_rfl) (fun _ _ _ h => h) (v := ?_) (by kernel_rfl) ?_ (by assumption) ?_; rotate_left; (focus (intro wS hSw; skip; go_simp; try with_reducible rfl)); (try simp only [Act.put, List.setIfInBounds_toArray, List.set_cons_zero, List.set_cons_succ]))
    (refine take_at 1 (some 35) rfl rfl (by kernel_rfl) (by kernel_rfl) (by kernel_rfl) (fun _ _ _ h => h) (v := ?_) (by kernel_rfl) ?_ (by assumption) ?_; rotate_left; (focus (intro wS hSw; skip; go_simp; try with_reducible rfl)); (try simp only [Act.put, List.setIfInBounds_toArray, List.set_cons_zero, List.set_cons_succ]))
    (refine take_at 2 (some 36) rfl rfl (by kernel_rfl) (by kernel_rfl) (by kernel_rfl) (fun _ _ _ h => h) (v := ?_) (by kernel_rfl) ?_ (by assumption) ?_; rotate_left; (focus (intro wS hSw; skip; go_simp; try with_reducible rfl)); (try simp only [Act.put, List.setIfInBounds_toArray, List.set_cons_zero, List.set_cons_succ]))
    (refine take_at 4 (some 38) rfl rfl (by kernel_rfl) (by kernel_rfl) (by kernel_rfl) (fun _ _ _ h => h) (v := ?_) (by kernel_rfl) ?_ (by assumption) ?_; rotate_left; (focus (intro wS hSw; skip; go_simp; try with_reducible rfl)); (try simp only [Act.put, List.setIfInBounds_toArray, List.set_cons_zero, List.set_cons_succ]))
    (refine take_at 5 (some 39) rfl rfl (by kernel_rfl) (by kernel_rfl) (by kernel_rfl) (fun _ _ _ h => h) (v := ?_) (by kernel_rfl) ?_ (by assumption) ?_; rotate_left; (focus (intro wS hSw; skip; go_simp; try with_reducible rfl)); (try simp only [Act.put, List.setIfInBounds_toArray, List.set_cons_zero, List.set_cons_succ]))
    (refine take_at 6 (some 40) rfl rfl (by kernel_rfl) (by kernel_rfl) (by kernel_rfl) (fun _ _ _ h => h) (v := ?_) (by kernel_rfl) ?_ (by assumption) ?_; rotate_left; (focus (intro wS hSw; skip; go_simp; try with_reducible rfl)); (try simp only [Act.put, List.setIfInBounds_toArray, List.set_cons_zero, List.set_cons_succ]))
    (refine take_at 7 (some 41) rfl rfl (by kernel_rfl) (by kernel_rfl) (by kernel_rfl) (fun _ _ _ h => h) (v := ?_) (by kernel_rfl) ?_ (by assumption) ?_; rotate_left; (focus (intro wS hSw; skip; go_simp; try with_reducible rfl)); (try simp only [Act.put, List.setIfInBounds_toArray, List.set_cons_zero, List.set_cons_succ]))
    (refine take_at 8 (some 42) rfl rfl (by kernel_rfl) (by kernel_rfl) (by kernel_rfl) (fun _ _ _ h => h) (v := ?_) (by kernel_rfl) ?_ (by assumption) ?_; rotate_left; (focus (intro wS hSw; skip; go_simp; try with_reducible rfl)); (try simp only [Act.put, List.setIfInBounds_toArray, List.set_cons_zero, List.set_cons_succ]))
    (refine take_at 10 (some 44) rfl rfl (by kernel_rfl) (by kernel_rfl) (by kernel_rfl) (fun _ _ _ h => h) (v := ?_) (by kernel_rfl) ?_ (by assumption) ?_; rotate_left; (focus (intro wS hSw; skip; go_simp; try with_reducible rfl)); (try simp only [Act.put, List.setIfInBounds_toArray, List.set_cons_zero, List.set_cons_succ]))
    (refine take_at 12 (some 46) rfl rfl (by kernel_rfl) (by kernel_rfl) (by kernel_rfl) (fun _ _ _ h => h) (v := ?_) (by kernel_rfl) ?_ (by assumption) ?_; rotate_left; (focus (intro wS hSw; skip; go_simp; try with_reducible rfl)); (try simp only [Act.put, List.setIfInBounds_toArray, List.set_cons_zero, List.set_cons_succ]))
    (refine take_at 13 (some 47) rfl rfl (by kernel_rfl) (by kernel_rfl) (by kernel_rfl) (fun _ _ _ h => h) (v := ?_) (by kernel_rfl) ?_ (by assumption) ?_; rotate_left; (focus (intro wS hSw; skip; go_simp; try with_reducible rfl)); (try simp only [Act.put, List.setIfInBounds_toArray, List.set_cons_zero, List.set_cons_succ]))
    (refine take_at 14 (some 48) rfl rfl (by kernel_rfl) (by kernel_rfl) (by kernel_rfl) (fun _ _ _ h => h) (v := ?_) (by kernel_rfl) ?_ (by assumption) ?_; rotate_left; (focus (intro wS hSw; (have i20 : (20 : Int) ≤ (own : Int) := by omega); (have ex1 := ext_cut l 20 own); go_simp; try with_reducible rfl)); (try simp only [Act.put, List.setIfInBounds_toArray, List.set_cons_zero, List.set_cons_succ]))
    refine wpAnyH_ready (rs := [3, 16]) (by kernel_rfl) (by simp) ?_
    refine AllReadyH.cons rfl (fun K hK => ?_) (AllReadyH.cons rfl (fun K hK => ?_) AllReadyH.nil)
    · go_simp
      go_at_call 54
      refine (K4.out _).mono ?_
      rintro e u1 ⟨rfl, hp⟩
      have hn : NoW w2 u1 := Fp.trans hHeld hp (fun _ _ h => h)
      clear hp hHeld
      refine hK.out _ _ hn (fun hHeld => ?_)
      clear hK K hn
      try simp only [Act.put, List.setIfInBounds_toArray, List.set_cons_zero, List.set_cons_succ]
      refine wpAnyH_ready (rs := [9, 16]) (by kernel_rfl) (by simp) ?_
      refine AllReadyH.cons rfl (fun K hK => ?_) (AllReadyH.cons rfl (fun K hK => ?_) AllReadyH.nil)
      · go_simp
        go_at_call 55
        refine (K12.out _).mono ?_
        rintro e u2 ⟨rfl, hp⟩
        have hn : NoW w2 u2 := Fp.trans hHeld hp (fun _ _ h => h)
        clear hp hHeld
        refine hK.out _ _ hn (fun hHeld => ?_)
        clear hK K hn
        try simp only [Act.put, List.setIfInBounds_toArray, List.set_cons_zero, List.set_cons_succ]
        refine wpAnyH_ready (rs := [11, 16]) (by kernel_rfl) (by simp) ?_
        refine AllReadyH.cons rfl (fun K hK => ?_) (AllReadyH.cons rfl (fun K hK => ?_) AllReadyH.nil)
        · go_simp
          go_at_call 55
          refine (K16.out _).mono ?_
          rintro e u3 ⟨rfl, hp⟩
          have hn : NoW w2 u3 := Fp.trans hHeld hp (fun _ _ h => h)
          clear hp hHeld
          refine hK.out _ _ hn (fun hHeld => ?_)
          clear hK K hn
          try simp only [Act.put, List.setIfInBounds_toArray, List.set_cons_zero, List.set_cons_succ]
          (refine take_at 15 (some 49) rfl rfl (by kernel_rfl) (by kernel_rfl) (by kernel_rfl) (fun _ _ _ h => h) (v := ?_) (by kernel_rfl) ?_ (by assumption) ?_; rotate_left; (focus (intro wS hSw; skip; go_simp; try with_reducible rfl)); (try simp only [Act.put, List.setIfInBounds_toArray, List.set_cons_zero, List.set_cons_succ]))
          refine wpAnyH_ready (rs := [16]) (by kernel_rfl) (by simp) ?_
          refine AllReadyH.cons rfl (fun K hK => ?_) AllReadyH.nil
          go_simp
          have hbN := heap_alloc_new u3 (.cells #[.int .u8 0, .int .u16 0, .bool false, .int .u8 0, .int .u8 0, .int .u32 0, .int .u32 0, .string ⟨#[]⟩] 49)
          have hge0 : w2.heap.size ≤ u3.heap.size := hHeld.size
          refine hK.out _ _ (hHeld.alloc _) (fun hHeld2 => ?_)
          clear hK K hHeld
          try simp only [Act.put, List.setIfInBounds_toArray, List.set_cons_zero, List.set_cons_succ]
          generalize u3.alloc (.cells #[.int .u8 0, .int .u16 0, .bool false, .int .u8 0, .int .u8 0, .int .u32 0, .int .u32 0, .string ⟨#[]⟩] 49) = z4 at *
          obtain ⟨gN, hgN⟩ : ∃ gN, gN = u3.heap.size := ⟨_, rfl⟩
          rw [← hgN] at hbN hge0 ⊢
          have HGgN := Lib.hid hge0
          have BgN := Lib.hid hbN
          clear hgN hge0 hbN
          have hHeld := hHeld2
          clear hHeld2
          have n0 : z4.cell? ⟨gN, 0, none⟩ = some (.int .u8 0) := by simp [World.cell?, BgN.out]
          have zn0 : z4.frozen? ⟨gN, 0, none⟩ = false := by simp [World.frozen?, BgN.out]
          have n1 : z4.cell? ⟨gN, 1, none⟩ = some (.int .u16 0) := by simp [World.cell?, BgN.out]
          have zn1 : z4.frozen? ⟨gN, 1, none⟩ = false := by simp [World.frozen?, BgN.out]
          have n2 : z4.cell? ⟨gN, 2, none⟩ = some (.bool false) := by simp [World.cell?, BgN.out]
          have zn2 : z4.frozen? ⟨gN, 2, none⟩ = false := by simp [World.frozen?, BgN.out]
          have n3 : z4.cell? ⟨gN, 3, none⟩ = some (.int .u8 0) := by simp [World.cell?, BgN.out]
          have zn3 : z4.frozen? ⟨gN, 3, none⟩ = false := by simp [World.frozen?, BgN.out]
          have n4 : z4.cell? ⟨gN, 4, none⟩ = some (.int .u8 0) := by simp [World.cell?, BgN.out]
          have zn4 : z4.frozen? ⟨gN, 4, none⟩ = false := by simp [World.frozen?, BgN.out]
          have n5 : z4.cell? ⟨gN, 5, none⟩ = some (.int .u32 0) := by simp [World.cell?, BgN.out]
          have zn5 : z4.frozen? ⟨gN, 5, none⟩ = false := by simp [World.frozen?, BgN.out]
          have n6 : z4.cell? ⟨gN, 6, none⟩ = some (.int .u32 0) := by simp [World.cell?, BgN.out]
          have zn6 : z4.frozen? ⟨gN, 6, none⟩ = false := by simp [World.frozen?, BgN.out]
          have n7 : z4.cell? ⟨gN, 7, none⟩ = some (.string ⟨#[]⟩) := by simp [World.cell?, BgN.out]
          have zn7 : z4.frozen? ⟨gN, 7, none⟩ = false := by simp [World.frozen?, BgN.out]
          have lN := cell_lt n0
          refine wpAnyH_ready (rs := [17]) (by kernel_rfl) (by simp) ?_
          refine AllReadyH.cons rfl (fun K hK => ?_) AllReadyH.nil
          go_simp
          obtain ⟨W, hW, hb2, hf2⟩ := set8 z4 gN 49 (.int .u8 0) (.int .u16 0) (.bool false) (.int .u8 0) (.int .u8 0) (.int .u32 0) (.int .u32 0) (.string ⟨#[]⟩) BgN.out (.int .u8 (byt l 1 : Nat)) (.int .u16 (g16 l 4 : Nat)) (.bool false) (.int .u8 (byt l 8 : Nat)) (.int .u8 (byt l 9 : Nat)) (.int .u32 (g32 l 12 : Nat)) (.int .u32 (g32 l 16 : Nat)) (str ((l.take own).drop 20))
          rw [← hW]
          clear hW
          have hSW : NoW w2 W := hHeld.trans hf2 (fun i hi e => by have h1 : i = gN := e; have h2 := HGgN.out; omega)
          refine hK.out _ _ hSW (fun hHeld3 => ?_)
          clear hK K hf2 lN n0 zn0 n1 zn1 n2 zn2 n3 zn3 n4 zn4 n5 zn5 n6 zn6 n7 zn7 hHeld
          try simp only [Act.put, List.setIfInBounds_toArray, List.set_cons_zero, List.set_cons_succ]
          have hHeld := hHeld3
          refine wpAnyH_done (by kernel_rfl) ?_ _
          have HSW := Lib.hid hSW
          have HB2 := Lib.hid hb2
          clear hHeld hHeld3 hSW hb2 BgN
          go_wp2_with fail
          go_meet
          exact ⟨gN, rfl, HB2.out, HGgN.out, HSW.out⟩
        · go_simp
          have hbN := heap_alloc_new u2 (.cells #[.int .u8 0, .int .u16 0, .bool false, .int .u8 0, .int .u8 0, .int .u32 0, .int .u32 0, .string ⟨#[]⟩] 49)
          have hge0 : w2.heap.size ≤ u2.heap.size := hHeld.size
          refine hK.out _ _ (hHeld.alloc _) (fun hHeld2 => ?_)
          clear hK K hHeld
          try simp only [Act.put, List.setIfInBounds_toArray, List.set_cons_zero, List.set_cons_succ]
          generalize u2.alloc (.cells #[.int .u8 0, .int .u16 0, .bool false, .int .u8 0, .int .u8 0, .int .u32 0, .int .u32 0, .string ⟨#[]⟩] 49) = z3 at *
          obtain ⟨gN, hgN⟩ : ∃ gN, gN = u2.heap.size := ⟨_, rfl⟩
          rw [← hgN] at hbN hge0 ⊢
          have HGgN := Lib.hid hge0
          have BgN := Lib.hid hbN
          clear hgN hge0 hbN
          have hHeld := hHeld2
          clear hHeld2
          refine wpAnyH_ready (rs := [11]) (by kernel_rfl) (by simp) ?_
          refine AllReadyH.cons rfl (fun K hK => ?_) AllReadyH.nil
          go_simp
          go_at_call 55
          refine (K16.out _).mono ?_
          rintro e u4 ⟨rfl, hp⟩
          have hn : NoW w2 u4 := Fp.trans hHeld hp (fun _ _ h => h)
          have hbN := (hp.block _ (Array.getElem?_eq_some_iff.1 BgN.out).1 id).trans BgN.out
          clear BgN
          have BgN := Lib.hid hbN
          clear hbN
          clear hp hHeld
          refine hK.out _ _ hn (fun hHeld => ?_)
          clear hK K hn
          try simp only [Act.put, List.setIfInBounds_toArray, List.set_cons_zero, List.set_cons_succ]
          (refine take_at 15 (some 49) rfl rfl (by kernel_rfl) (by kernel_rfl) (by kernel_rfl) (fun _ _ _ h => h) (v := ?_) (by kernel_rfl) ?_ (by assumption) ?_; rotate_left; (focus (intro wS hSw; skip; go_simp; try with_reducible rfl)); (try simp only [Act.put, List.setIfInBounds_toArray, List.set_cons_zero, List.set_cons_succ]))
          have n0 : u4.cell? ⟨gN, 0, none⟩ = some (.int .u8 0) := by simp [World.cell?, BgN.out]
          have zn0 : u4.frozen? ⟨gN, 0, none⟩ = false := by simp [World.frozen?, BgN.out]
          have n1 : u4.cell? ⟨gN, 1, none⟩ = some (.int .u16 0) := by simp [World.cell?, BgN.out]
          have zn1 : u4.frozen? ⟨gN, 1, none⟩ = false := by simp [World.frozen?, BgN.out]
          have n2 : u4.cell? ⟨gN, 2, none⟩ = some (.bool false) := by simp [World.cell?, BgN.out]
          have zn2 : u4.frozen? ⟨gN, 2, none⟩ = false := by simp [World.frozen?, BgN.out]
          have n3 : u4.cell? ⟨gN, 3, none⟩ = some (.int .u8 0) := by simp [World.cell?, BgN.out]
          have zn3 : u4.frozen? ⟨gN, 3, none⟩ = false := by simp [World.frozen?, BgN.out]
          have n4 : u4.cell? ⟨gN, 4, none⟩ = some (.int .u8 0) := by simp [World.cell?, BgN.out]
          have zn4 : u4.frozen? ⟨gN, 4, none⟩ = false := by simp [World.frozen?, BgN.out]
          have n5 : u4.cell? ⟨gN, 5, none⟩ = some (.int .u32 0) := by simp [World.cell?, BgN.out]
          have zn5 : u4.frozen? ⟨gN, 5, none⟩ = false := by simp [World.frozen?, BgN.out]
          have n6 : u4.cell? ⟨gN, 6, none⟩ = some (.int .u32 0) := by simp [World.cell?, BgN.out]
          have zn6 : u4.frozen? ⟨gN, 6, none⟩ = false := by simp [World.frozen?, BgN.out]
          have n7 : u4.cell? ⟨gN, 7, none⟩ = some (.string ⟨#[]⟩) := by simp [World.cell?, BgN.out]
          have zn7 : u4.frozen? ⟨gN, 7, none⟩ = false := by simp [World.frozen?, BgN.out]
          have lN := cell_lt n0
          refine wpAnyH_ready (rs := [17]) (by kernel_rfl) (by simp) ?_
          refine AllReadyH.cons rfl (fun K hK => ?_) AllReadyH.nil
          go_simp
          obtain ⟨W, hW, hb2, hf2⟩ := set8 u4 gN 49 (.int .u8 0) (.int .u16 0) (.bool false) (.int .u8 0) (.int .u8 0) (.int .u32 0) (.int .u32 0) (.string ⟨#[]⟩) BgN.out (.int .u8 (byt l 1 : Nat)) (.int .u16 (g16 l 4 : Nat)) (.bool false) (.int .u8 (byt l 8 : Nat)) (.int .u8 (byt l 9 : Nat)) (.int .u32 (g32 l 12 : Nat)) (.int .u32 (g32 l 16 : Nat)) (str ((l.take own).drop 20))
          rw [← hW]
          clear hW
          have hSW : NoW w2 W := hHeld.trans hf2 (fun i hi e => by have h1 : i = gN := e; have h2 := HGgN.out; omega)
          refine hK.out _ _ hSW (fun hHeld3 => ?_)
          clear hK K hf2 lN n0 zn0 n1 zn1 n2 zn2 n3 zn3 n4 zn4 n5 zn5 n6 zn6 n7 zn7 hHeld
          try simp only [Act.put, List.setIfInBounds_toArray, List.set_cons_zero, List.set_cons_succ]
          have hHeld := hHeld3
          refine wpAnyH_done (by kernel_rfl) ?_ _
          have HSW := Lib.hid hSW
          have HB2 := Lib.hid hb2
          clear hHeld hHeld3 hSW hb2 BgN
          go_wp2_with fail
          go_meet
          exact ⟨gN, rfl, HB2.out, HGgN.out, HSW.out⟩
      · go_simp
        have hbN := heap_alloc_new u1 (.cells #[.int .u8 0, .int .u16 0, .bool false, .int .u8 0, .int .u8 0, .int .u32 0, .int .u32 0, .string ⟨#[]⟩] 49)
        have hge0 : w2.heap.size ≤ u1.heap.size := hHeld.size
        refine hK.out _ _ (hHeld.alloc _) (fun hHeld2 => ?_)
        clear hK K hHeld
        try simp only [Act.put, List.setIfInBounds_toArray, List.set_cons_zero, List.set_cons_succ]
        generalize u1.alloc (.cells #[.int .u8 0, .int .u16 0, .bool false, .int .u8 0, .int .u8 0, .int .u32 0, .int .u32 0, .string ⟨#[]⟩] 49) = z2 at *
        obtain ⟨gN, hgN⟩ : ∃ gN, gN = u1.heap.size := ⟨_, rfl⟩
        rw [← hgN] at hbN hge0 ⊢
        have HGgN := Lib.hid hge0
        have BgN := Lib.hid hbN
        clear hgN hge0 hbN
        have hHeld := hHeld2
        clear hHeld2
        refine wpAnyH_ready (rs := [9]) (by kernel_rfl) (by simp) ?_
        refine AllReadyH.cons rfl (fun K hK => ?_) AllReadyH.nil
        go_simp
        go_at_call 55
        refine (K12.out _).mono ?_
        rintro e u3 ⟨rfl, hp⟩
        have hn : NoW w2 u3 := Fp.trans hHeld hp (fun _ _ h => h)
        have hbN := (hp.block _ (Array.getElem?_eq_some_iff.1 BgN.out).1 id).trans BgN.out
        clear BgN
        have BgN := Lib.hid hbN
        clear hbN
        clear hp hHeld
        refine hK.out _ _ hn (fun hHeld => ?_)
        clear hK K hn
        try simp only [Act.put, List.setIfInBounds_toArray, List.set_cons_zero, List.set_cons_succ]
        refine wpAnyH_ready (rs := [11]) (by kernel_rfl) (by simp) ?_
        refine AllReadyH.cons rfl (fun K hK => ?_) AllReadyH.nil
        go_simp
        go_at_call 55
        refine (K16.out _).mono ?_
        rintro e u4 ⟨rfl, hp⟩
        have hn : NoW w2 u4 := Fp.trans hHeld hp (fun _ _ h => h)
        have hbN := (hp.block _ (Array.getElem?_eq_some_iff.1 BgN.out).1 id).trans BgN.out
        clear BgN
        have BgN := Lib.hid hbN
        clear hbN
        clear hp hHeld
        refine hK.out _ _ hn (fun hHeld => ?_)
        clear hK K hn
        try simp only [Act.put, List.setIfInBounds_toArray, List.set_cons_zero, List.set_cons_succ]
        (refine take_at 15 (some 49) rfl rfl (by kernel_rfl) (by kernel_rfl) (by kernel_rfl) (fun _ _ _ h => h) (v := ?_) (by kernel_rfl) ?_ (by assumption) ?_; rotate_left; (focus (intro wS hSw; skip; go_simp; try with_reducible rfl)); (try simp only [Act.put, List.setIfInBounds_toArray, List.set_cons_zero, List.set_cons_succ]))
        have n0 : u4.cell? ⟨gN, 0, none⟩ = some (.int .u8 0) := by simp [World.cell?, BgN.out]
        have zn0 : u4.frozen? ⟨gN, 0, none⟩ = false := by simp [World.frozen?, BgN.out]
        have n1 : u4.cell? ⟨gN, 1, none⟩ = some (.int .u16 0) := by simp [World.cell?, BgN.out]
        have zn1 : u4.frozen? ⟨gN, 1, none⟩ = false := by simp [World.frozen?, BgN.out]
        have n2 : u4.cell? ⟨gN, 2, none⟩ = some (.bool false) := by simp [World.cell?, BgN.out]
        have zn2 : u4.frozen? ⟨gN, 2, none⟩ = false := by simp [World.frozen?, BgN.out]
        have n3 : u4.cell? ⟨gN, 3, none⟩ = some (.int .u8 0) := by simp [World.cell?, BgN.out]
        have zn3 : u4.frozen? ⟨gN, 3, none⟩ = false := by simp [World.frozen?, BgN.out]
        have n4 : u4.cell? ⟨gN, 4, none⟩ = some (.int .u8 0) := by simp [World.cell?, BgN.out]
        have zn4 : u4.frozen? ⟨gN, 4, none⟩ = false := by simp [World.frozen?, BgN.out]
        have n5 : u4.cell? ⟨gN, 5, none⟩ = some (.int .u32 0) := by simp [World.cell?, BgN.out]
        have zn5 : u4.frozen? ⟨gN, 5, none⟩ = false := by simp [World.frozen?, BgN.out]
        have n6 : u4.cell? ⟨gN, 6, none⟩ = some (.int .u32 0) := by simp [World.cell?, BgN.out]
        have zn6 : u4.frozen? ⟨gN, 6, none⟩ = false := by simp [World.frozen?, BgN.out]
        have n7 : u4.cell? ⟨gN, 7, none⟩ = some (.string ⟨#[]⟩) := by simp [World.cell?, BgN.out]
        have zn7 : u4.frozen? ⟨gN, 7, none⟩ = false := by simp [World.frozen?, BgN.out]
        have lN := cell_lt n0
        refine wpAnyH_ready (rs := [17]) (by kernel_rfl) (by simp) ?_
        refine AllReadyH.cons rfl (fun K hK => ?_) AllReadyH.nil
        go_simp
        obtain ⟨W, hW, hb2, hf2⟩ := set8 u4 gN 49 (.int .u8 0) (.int .u16 0) (.bool false) (.int .u8 0) (.int .u8 0) (.int .u32 0) (.int .u32 0) (.string ⟨#[]⟩) BgN.out (.int .u8 (byt l 1 : Nat)) (.int .u16 (g16 l 4 : Nat)) (.bool false) (.int .u8 (byt l 8 : Nat)) (.int .u8 (byt l 9 : Nat)) (.int .u32 (g32 l 12 : Nat)) (.int .u32 (g32 l 16 : Nat)) (str ((l.take own).drop 20))
        rw [← hW]
        clear hW
        have hSW : NoW w2 W := hHeld.trans hf2 (fun i hi e => by have h1 : i = gN := e; have h2 := HGgN.out; omega)
        refine hK.out _ _ hSW (fun hHeld3 => ?_)
        clear hK K hf2 lN n0 zn0 n1 zn1 n2 zn2 n3 zn3 n4 zn4 n5 zn5 n6 zn6 n7 zn7 hHeld
        try simp only [Act.put, List.setIfInBounds_toArray, List.set_cons_zero, List.set_cons_succ]
        have hHeld := hHeld3
        refine wpAnyH_done (by kernel_rfl) ?_ _
        have HSW := Lib.hid hSW
        have HB2 := Lib.hid hb2
        clear hHeld hHeld3 hSW hb2 BgN
        go_wp2_with fail
        go_meet
        exact ⟨gN, rfl, HB2.out, HGgN.out, HSW.out⟩
    · go_simp
      have hbN0 := heap_alloc_new w2 (.cells #[.int .u8 0, .int .u16 0, .bool false, .int .u8 0, .int .u8 0, .int .u32 0, .int .u32 0, .string ⟨#[]⟩] 49)
      have hbN : (w2.alloc (.cells #[.int .u8 0, .int .u16 0, .bool false, .int .u8 0, .int .u8 0, .int .u32 0, .int .u32 0, .string ⟨#[]⟩] 49)).drew.heap[w2.heap.size]? = some (.cells #[.int .u8 0, .int .u16 0, .bool false, .int .u8 0, .int .u8 0, .int .u32 0, .int .u32 0, .string ⟨#[]⟩] 49) := hbN0
      clear hbN0
      refine hK.out _ _ (show NoW w2 ((w2.alloc (.cells #[.int .u8 0, .int .u16 0, .bool false, .int .u8 0, .int .u8 0, .int .u32 0, .int .u32 0, .string ⟨#[]⟩] 49)).drew) from Fp.drew ((Fp.refl _ _).alloc _)) (fun hHeld2 => ?_)
      clear hK K hHeld
      try simp only [Act.put, List.setIfInBounds_toArray, List.set_cons_zero, List.set_cons_succ]
      generalize (w2.alloc (.cells #[.int .u8 0, .int .u16 0, .bool false, .int .u8 0, .int .u8 0, .int .u32 0, .int .u32 0, .string ⟨#[]⟩] 49)).drew = z1 at *
      obtain ⟨gN, hgN⟩ : ∃ gN, gN = w2.heap.size := ⟨_, rfl⟩
      rw [← hgN] at hbN ⊢
      have hge : w2.heap.size ≤ gN := by omega
      have HGgN := Lib.hid hge
      have BgN := Lib.hid hbN
      clear hgN hge hbN
      have hHeld := hHeld2
      clear hHeld2
      refine wpAnyH_ready (rs := [3]) (by kernel_rfl) (by simp) ?_
      refine AllReadyH.cons rfl (fun K hK => ?_) AllReadyH.nil
      go_simp
      go_at_call 54
      refine (K4.out _).mono ?_
      rintro e u2 ⟨rfl, hp⟩
      have hn : NoW w2 u2 := Fp.trans hHeld hp (fun _ _ h => h)
      have hbN := (hp.block _ (Array.getElem?_eq_some_iff.1 BgN.out).1 id).trans BgN.out
      clear BgN
      have BgN := Lib.hid hbN
      clear hbN
      clear hp hHeld
      refine hK.out _ _ hn (fun hHeld => ?_)
      clear hK K hn
      try simp only [Act.put, List.setIfInBounds_toArray, List.set_cons_zero, List.set_cons_succ]
      refine wpAnyH_ready (rs := [9]) (by kernel_rfl) (by simp) ?_
      refine AllReadyH.cons rfl (fun K hK => ?_) AllReadyH.nil
      go_simp
      go_at_call 55
      refine (K12.out _).mono ?_
      rintro e u3 ⟨rfl, hp⟩
      have hn : NoW w2 u3 := Fp.trans hHeld hp (fun _ _ h => h)
      have hbN := (hp.block _ (Array.getElem?_eq_some_iff.1 BgN.out).1 id).trans BgN.out
      clear BgN
      have BgN := Lib.hid hbN
      clear hbN
      clear hp hHeld
      refine hK.out _ _ hn (fun hHeld => ?_)
      clear hK K hn
      try simp only [Act.put, List.setIfInBounds_toArray, List.set_cons_zero, List.set_cons_succ]
      refine wpAnyH_ready (rs := [11]) (by kernel_rfl) (by simp) ?_
      refine AllReadyH.cons rfl (fun K hK => ?_) AllReadyH.nil
      go_simp
      go_at_call 55
      refine (K16.out _).mono ?_
      rintro e u4 ⟨rfl, hp⟩
      have hn : NoW w2 u4 := Fp.trans hHeld hp (fun _ _ h => h)
      have hbN := (hp.block _ (Array.getElem?_eq_some_iff.1 BgN.out).1 id).trans BgN.out
      clear BgN
      have BgN := Lib.hid hbN
      clear hbN
      clear hp hHeld
      refine hK.out _ _ hn (fun hHeld => ?_)
      clear hK K hn
      try simp only [Act.put, List.setIfInBounds_toArray, List.set_cons_zero, List.set_cons_succ]
      (refine take_at 15 (some 49) rfl rfl (by kernel_rfl) (by kernel_rfl) (by kernel_rfl) (fun _ _ _ h => h) (v := ?_) (by kernel_rfl) ?_ (by assumption) ?_; rotate_left; (focus (intro wS hSw; skip; go_simp; try with_reducible rfl)); (try simp only [Act.put, List.setIfInBounds_toArray, List.set_cons_zero, List.set_cons_succ]))
      have n0 : u4.cell? ⟨gN, 0, none⟩ = some (.int .u8 0) := by simp [World.cell?, BgN.out]
      have zn0 : u4.frozen? ⟨gN, 0, none⟩ = false := by simp [World.frozen?, BgN.out]
      have n1 : u4.cell? ⟨gN, 1, none⟩ = some (.int .u16 0) := by simp [World.cell?, BgN.out]
      have zn1 : u4.frozen? ⟨gN, 1, none⟩ = false := by simp [World.frozen?, BgN.out]
      have n2 : u4.cell? ⟨gN, 2, none⟩ = some (.bool false) := by simp [World.cell?, BgN.out]
      have zn2 : u4.frozen? ⟨gN, 2, none⟩ = false := by simp [World.frozen?, BgN.out]
      have n3 : u4.cell? ⟨gN, 3, none⟩ = some (.int .u8 0) := by simp [World.cell?, BgN.out]
      have zn3 : u4.frozen? ⟨gN, 3, none⟩ = false := by simp [World.frozen?, BgN.out]
      have n4 : u4.cell? ⟨gN, 4, none⟩ = some (.int .u8 0) := by simp [World.cell?, BgN.out]
      have zn4 : u4.frozen? ⟨gN, 4, none⟩ = false := by simp [World.frozen?, BgN.out]
      have n5 : u4.cell? ⟨gN, 5, none⟩ = some (.int .u32 0) := by simp [World.cell?, BgN.out]
      have zn5 : u4.frozen? ⟨gN, 5, none⟩ = false := by simp [World.frozen?, BgN.out]
      have n6 : u4.cell? ⟨gN, 6, none⟩ = some (.int .u32 0) := by simp [World.cell?, BgN.out]
      have zn6 : u4.frozen? ⟨gN, 6, none⟩ = false := by simp [World.frozen?, BgN.out]
      have n7 : u4.cell? ⟨gN, 7, none⟩ = some (.string ⟨#[]⟩) := by simp [World.cell?, BgN.out]
      have zn7 : u4.frozen? ⟨gN, 7, none⟩ = false := by simp [World.frozen?, BgN.out]
      have lN := cell_lt n0
      refine wpAnyH_ready (rs := [17]) (by kernel_rfl) (by simp) ?_
      refine AllReadyH.cons rfl (fun K hK => ?_) AllReadyH.nil
      go_simp
      obtain ⟨W, hW, hb2, hf2⟩ := set8 u4 gN 49 (.int .u8 0) (.int .u16 0) (.bool false) (.int .u8 0) (.int .u8 0) (.int .u32 0) (.int .u32 0) (.string ⟨#[]⟩) BgN.out (.int .u8 (byt l 1 : Nat)) (.int .u16 (g16 l 4 : Nat)) (.bool false) (.int .u8 (byt l 8 : Nat)) (.int .u8 (byt l 9 : Nat)) (.int .u32 (g32 l 12 : Nat)) (.int .u32 (g32 l 16 : Nat)) (str ((l.take own).drop 20))
      rw [← hW]
      clear hW
      have hSW : NoW w2 W := hHeld.trans hf2 (fun i hi e => by have h1 : i = gN := e; have h2 := HGgN.out; omega)
      refine hK.out _ _ hSW (fun hHeld3 => ?_)
      clear hK K hf2 lN n0 zn0 n1 zn1 n2 zn2 n3 zn3 n4 zn4 n5 zn5 n6 zn6 n7 zn7 hHeld
      try simp only [Act.put, List.setIfInBounds_toArray, List.set_cons_zero, List.set_cons_succ]
      have hHeld := hHeld3
      refine wpAnyH_done (by kernel_rfl) ?_ _
      have HSW := Lib.hid hSW
      have HB2 := Lib.hid hb2
      clear hHeld hHeld3 hSW hb2 BgN
      go_wp2_with fail
      go_meet
      exact ⟨gN, rfl, HB2.out, HGgN.out, HSW.out⟩
  case rest =>
    obtain ⟨g8, rfl, hb8, hg8, hn8⟩ := hcut
    generalize wc = w3 at *
    have B3 := Lib.hid ((hn8.block _ (Array.getElem?_eq_some_iff.1 B2.out).1 id).trans B2.out)
    have N3 := Lib.hid (N2.out.trans hn8 (fun _ _ h => h))
    have G3 := Lib.hid hb8
    have hR8 : gR < g8 := Nat.lt_of_lt_of_le (Array.getElem?_eq_some_iff.1 B2.out).1 hg8
    have hw8 : w.heap.size ≤ g8 := Nat.le_trans HgR.out (Nat.le_of_lt hR8)
    clear hn8 hb8 B2 N2
    go_wp2_with fail
    refine (K6.out _).mono ?_
    rintro e w4 ⟨rfl, hp⟩
    have B4 := Lib.hid ((hp.block _ (Array.getElem?_eq_some_iff.1 B3.out).1 id).trans B3.out)
    have G4 := Lib.hid ((hp.block _ (Array.getElem?_eq_some_iff.1 G3.out).1 id).trans G3.out)
    have N4 := Lib.hid (N3.out.trans hp (fun _ _ h => h))
    clear hp B3 N3 G3 K4 K6 K12 K16 HOs KL x0 x1 x8 x9 s0 s1
    by_cases q0 : fr = 0
    · have hV : V = .tuple #[.agg #[.int .u8 (byt l 1 : Nat), .int .u16 (g16 l 4 : Nat), .bool false, .int .u8 (byt l 8 : Nat), .int .u8 (byt l 9 : Nat), .int .u32 (g32 l 12 : Nat), .int .u32 (g32 l 16 : Nat), str ((l.take own).drop 20)], str ((l.take all).drop own), .int .i64 0] := by rw [HV.out, if_pos q0]
      have HV2 := Lib.hid hV
      subst q0
      clear HV hV
      have f0 : w4.cell? ⟨g8, 0, none⟩ = some (.int .u8 (byt l 1 : Nat)) := by simp [World.cell?, G4.out]
      have f1 : w4.cell? ⟨g8, 1, none⟩ = some (.int .u16 (g16 l 4 : Nat)) := by simp [World.cell?, G4.out]
      have f2 : w4.cell? ⟨g8, 2, none⟩ = some (.bool false) := by simp [World.cell?, G4.out]
      have f3 : w4.cell? ⟨g8, 3, none⟩ = some (.int .u8 (byt l 8 : Nat)) := by simp [World.cell?, G4.out]
      have f4 : w4.cell? ⟨g8, 4, none⟩ = some (.int .u8 (byt l 9 : Nat)) := by simp [World.cell?, G4.out]
      have f5 : w4.cell? ⟨g8, 5, none⟩ = some (.int .u32 (g32 l 12 : Nat)) := by simp [World.cell?, G4.out]
      have f6 : w4.cell? ⟨g8, 6, none⟩ = some (.int .u32 (g32 l 16 : Nat)) := by simp [World.cell?, G4.out]
      have f7 : w4.cell? ⟨g8, 7, none⟩ = some (str ((l.take own).drop 20)) := by simp [World.cell?, G4.out]
      have l8 := cell_lt f0
      have n8 : ¬ g8 = gR := by omega
      have iall : (own : Int) ≤ (all : Int) := by omega
      have iall3 : (all : Int) ≤ (l.length : Int) := by omega
      have exl := ext_cut l own all
      go_upto_region 16 with fail
      refine wp_region_held_drew (S := fun wx => Fp (fun b => b = gR) w4 wx) (by kernel_rfl) (Fp.drew (Fp.refl _ _)) (fun hHeld => ?_)
      (refine take_at 0 (some 58) rfl rfl (by kernel_rfl) (by kernel_rfl) (by kernel_rfl) (fun _ _ _ h => h) (v := ?_) (by kernel_rfl) ?_ (by assumption) ?_; rotate_left; (focus (intro wS hSw; (have qt0 := (hSw.cell (p := ⟨g8, 0, none⟩) l8 n8).trans f0); (have qt1 := (hSw.cell (p := ⟨g8, 1, none⟩) l8 n8).trans f1); (have qt2 := (hSw.cell (p := ⟨g8, 2, none⟩) l8 n8).trans f2); (have qt3 := (hSw.cell (p := ⟨g8, 3, none⟩) l8 n8).trans f3); (have qt4 := (hSw.cell (p := ⟨g8, 4, none⟩) l8 n8).trans f4); (have qt5 := (hSw.cell (p := ⟨g8, 5, none⟩) l8 n8).trans f5); (have qt6 := (hSw.cell (p := ⟨g8, 6, none⟩) l8 n8).trans f6); (have qt7 := (hSw.cell (p := ⟨g8, 7, none⟩) l8 n8).trans f7); go_simp; try with_reducible rfl)); (try simp only [Act.put, List.setIfInBounds_toArray, List.set_cons_zero, List.set_cons_succ]))
      (refine take_at 1 (some 59) rfl rfl (by kernel_rfl) (by kernel_rfl) (by kernel_rfl) (fun _ _ _ h => h) (v := ?_) (by kernel_rfl) ?_ (by assumption) ?_; rotate_left; (focus (intro wS hSw; skip; go_simp; try with_reducible rfl)); (try simp only [Act.put, List.setIfInBounds_toArray, List.set_cons_zero, List.set_cons_succ]))
      (refine take_at 2 (some 60) rfl rfl (by kernel_rfl) (by kernel_rfl) (by kernel_rfl) (fun _ _ _ h => h) (v := ?_) (by kernel_rfl) ?_ (by assumption) ?_; rotate_left; (focus (intro wS hSw; skip; go_simp; try with_reducible rfl)); (try simp only [Act.put, List.setIfInBounds_toArray, List.set_cons_zero, List.set_cons_succ]))
      (refine take_at 3 (some 61) rfl rfl (by kernel_rfl) (by kernel_rfl) (by kernel_rfl) (fun _ _ _ h => h) (v := ?_) (by kernel_rfl) ?_ (by assumption) ?_; rotate_left; (focus (intro wS hSw; skip; go_simp; try with_reducible rfl)); (try simp only [Act.put, List.setIfInBounds_toArray, List.set_cons_zero, List.set_cons_succ]))
      (refine take_at 4 (some 62) rfl rfl (by kernel_rfl) (by kernel_rfl) (by kernel_rfl) (fun _ _ _ h => h) (v := ?_) (by kernel_rfl) ?_ (by assumption) ?_; rotate_left; (focus (intro wS hSw; skip; go_simp; try with_reducible rfl)); (try simp only [Act.put, List.setIfInBounds_toArray, List.set_cons_zero, List.set_cons_succ]))
      generalize hwd : w4.drew = wd at *
      have Bd : wd.heap[gR]? = some (.cells #[.int .u8 0, .int .u16 0, .bool false, .int .u8 0, .int .u8 0, .int .u32 0, .int .u32 0, .string ⟨#[]⟩] 49) := by rw [← hwd]; exact B4.out
      have yr0 : wd.cell? ⟨gR, 0, none⟩ = some (.int .u8 0) := by simp [World.cell?, Bd]
      have zyr0 : wd.frozen? ⟨gR, 0, none⟩ = false := by simp [World.frozen?, Bd]
      have yr1 : wd.cell? ⟨gR, 1, none⟩ = some (.int .u16 0) := by simp [World.cell?, Bd]
      have zyr1 : wd.frozen? ⟨gR, 1, none⟩ = false := by simp [World.frozen?, Bd]
      have yr2 : wd.cell? ⟨gR, 2, none⟩ = some (.bool false) := by simp [World.cell?, Bd]
      have zyr2 : wd.frozen? ⟨gR, 2, none⟩ = false := by simp [World.frozen?, Bd]
      have yr3 : wd.cell? ⟨gR, 3, none⟩ = some (.int .u8 0) := by simp [World.cell?, Bd]
      have zyr3 : wd.frozen? ⟨gR, 3, none⟩ = false := by simp [World.frozen?, Bd]
      have yr4 : wd.cell? ⟨gR, 4, none⟩ = some (.int .u8 0) := by simp [World.cell?, Bd]
      have zyr4 : wd.frozen? ⟨gR, 4, none⟩ = false := by simp [World.frozen?, Bd]
      have yr5 : wd.cell? ⟨gR, 5, none⟩ = some (.int .u32 0) := by simp [World.cell?, Bd]
      have zyr5 : wd.frozen? ⟨gR, 5, none⟩ = false := by simp [World.frozen?, Bd]
      have yr6 : wd.cell? ⟨gR, 6, none⟩ = some (.int .u32 0) := by simp [World.cell?, Bd]
      have zyr6 : wd.frozen? ⟨gR, 6, none⟩ = false := by simp [World.frozen?, Bd]
      have yr7 : wd.cell? ⟨gR, 7, none⟩ = some (.string ⟨#[]⟩) := by simp [World.cell?, Bd]
      have zyr7 : wd.frozen? ⟨gR, 7, none⟩ = false := by simp [World.frozen?, Bd]
      have lR := cell_lt yr0
      refine wpAnyH_ready (rs := [5]) (by kernel_rfl) (by simp) ?_
      refine AllReadyH.cons rfl (fun K hK => ?_) AllReadyH.nil
      go_simp
      obtain ⟨W, hW, hb2, hf2⟩ := set8 wd gR 49 (.int .u8 0) (.int .u16 0) (.bool false) (.int .u8 0) (.int .u8 0) (.int .u32 0) (.int .u32 0) (.string ⟨#[]⟩) Bd (.int .u8 (byt l 1 : Nat)) (.int .u16 (g16 l 4 : Nat)) (.bool false) (.int .u8 (byt l 8 : Nat)) (.int .u8 (byt l 9 : Nat)) (.int .u32 (g32 l 12 : Nat)) (.int .u32 (g32 l 16 : Nat)) (str ((l.take own).drop 20))
      rw [← hW]
      clear hW lR yr0 zyr0 yr1 zyr1 yr2 zyr2 yr3 zyr3 yr4 zyr4 yr5 zyr5 yr6 zyr6 yr7 zyr7
      have hSW : Fp (fun b => b = gR) w4 W := hHeld.trans hf2 (fun _ _ h => h)
      refine hK.out _ _ hSW (fun hHeld3 => ?_)
      clear hK K hHeld hHeld3
      try simp only [Act.put, List.setIfInBounds_toArray, List.set_cons_zero, List.set_cons_succ]
      have hHeld := hSW
      (refine take_at 6 (some 3) rfl rfl (by kernel_rfl) (by kernel_rfl) (by kernel_rfl) (fun _ _ _ h => h) (v := ?_) (by kernel_rfl) ?_ (by assumption) ?_; rotate_left; (focus (intro wS hSw; skip; go_simp; try with_reducible rfl)); (try simp only [Act.put, List.setIfInBounds_toArray, List.set_cons_zero, List.set_cons_succ]))
      (refine take_at 7 (some 4) rfl rfl (by kernel_rfl) (by kernel_rfl) (by kernel_rfl) (fun _ _ _ h => h) (v := ?_) (by kernel_rfl) ?_ (by assumption) ?_; rotate_left; (focus (intro wS hSw; skip; go_simp; try with_reducible rfl)); (try simp only [Act.put, List.setIfInBounds_toArray, List.set_cons_zero, List.set_cons_succ]))
      refine wpAnyH_done (by kernel_rfl) ?_ _
      have yr0 : W.cell? ⟨gR, 0, none⟩ = some (.int .u8 (byt l 1 : Nat)) := by simp [World.cell?, hb2]
      have yr1 : W.cell? ⟨gR, 1, none⟩ = some (.int .u16 (g16 l 4 : Nat)) := by simp [World.cell?, hb2]
      have yr2 : W.cell? ⟨gR, 2, none⟩ = some (.bool false) := by simp [World.cell?, hb2]
      have yr3 : W.cell? ⟨gR, 3, none⟩ = some (.int .u8 (byt l 8 : Nat)) := by simp [World.cell?, hb2]
      have yr4 : W.cell? ⟨gR, 4, none⟩ = some (.int .u8 (byt l 9 : Nat)) := by simp [World.cell?, hb2]
      have yr5 : W.cell? ⟨gR, 5, none⟩ = some (.int .u32 (g32 l 12 : Nat)) := by simp [World.cell?, hb2]
      have yr6 : W.cell? ⟨gR, 6, none⟩ = some (.int .u32 (g32 l 16 : Nat)) := by simp [World.cell?, hb2]
      have yr7 : W.cell? ⟨gR, 7, none⟩ = some (str ((l.take own).drop 20)) := by simp [World.cell?, hb2]
      have lR : gR < W.heap.size := cell_lt yr0
      have HF := Lib.hid ((N4.out).trans hSW (fun i hi e => by have h1 : i = gR := e; have h2 := HgR.out; omega))
      clear hf2 hb2 hSW hHeld
      go_wp2_with fail
      refine bodyPost_ret (v := .tuple #[.agg #[.int .u8 (byt l 1 : Nat), .int .u16 (g16 l 4 : Nat), .bool false, .int .u8 (byt l 8 : Nat), .int .u8 (byt l 9 : Nat), .int .u32 (g32 l 12 : Nat), .int .u32 (g32 l 16 : Nat), str ((l.take own).drop 20)], str ((l.take all).drop own), .int .i64 0]) (by simp only [results, Tryz.results26]; go_simp) rfl ⟨by rw [HV2.out], HF.out⟩
    · have p0 : ((fr : Int) == 0) = false := beq_eq_false_iff_ne.2 (by omega)
      by_cases q1 : fr = 16384
      · have hV : V = .tuple #[.agg #[.int .u8 (byt l 1 : Nat), .int .u16 (g16 l 4 : Nat), .bool true, .int .u8 (byt l 8 : Nat), .int .u8 (byt l 9 : Nat), .int .u32 (g32 l 12 : Nat), .int .u32 (g32 l 16 : Nat), str ((l.take own).drop 20)], str ((l.take all).drop own), .int .i64 0] := by rw [HV.out, if_neg q0, if_pos q1]
        have HV2 := Lib.hid hV
        subst q1
        clear HV hV
        have fl2 : w4.cell? ⟨g8, 2, none⟩ = some (.bool false) := by simp [World.cell?, G4.out]
        have z2 : w4.frozen? ⟨g8, 2, none⟩ = false := by simp [World.frozen?, G4.out]
        go_upto_region 16 with fail
        obtain ⟨w5, hw5⟩ : ∃ w5, w5 = w4.setCell ⟨g8, 2, none⟩ (.bool true) := ⟨_, rfl⟩
        rw [← hw5]
        have G5 := Lib.hid (show w5.heap[g8]? = some (.cells #[.int .u8 (byt l 1 : Nat), .int .u16 (g16 l 4 : Nat), .bool true, .int .u8 (byt l 8 : Nat), .int .u8 (byt l 9 : Nat), .int .u32 (g32 l 12 : Nat), .int .u32 (g32 l 16 : Nat), str ((l.take own).drop 20)] 49) by rw [hw5, heap_set w4 g8 2 _ _ (.bool true) G4.out]; simp)
        have B5 := Lib.hid (show w5.heap[gR]? = some (.cells #[.int .u8 0, .int .u16 0, .bool false, .int .u8 0, .int .u8 0, .int .u32 0, .int .u32 0, .string ⟨#[]⟩] 49) by rw [hw5]; exact (heap_set_other w4 g8 gR 2 _ (by omega)).trans B4.out)
        have N5 := Lib.hid (show NoW w w5 by rw [hw5]; exact N4.out.setCell (p := ⟨g8, 2, none⟩) (Or.inl hw8) _)
        clear hw5 G4 B4 N4 fl2 z2
        have f0 : w5.cell? ⟨g8, 0, none⟩ = some (.int .u8 (byt l 1 : Nat)) := by simp [World.cell?, G5.out]
        have f1 : w5.cell? ⟨g8, 1, none⟩ = some (.int .u16 (g16 l 4 : Nat)) := by simp [World.cell?, G5.out]
        have f2 : w5.cell? ⟨g8, 2, none⟩ = some (.bool true) := by simp [World.cell?, G5.out]
        have f3 : w5.cell? ⟨g8, 3, none⟩ = some (.int .u8 (byt l 8 : Nat)) := by simp [World.cell?, G5.out]
        have f4 : w5.cell? ⟨g8, 4, none⟩ = some (.int .u8 (byt l 9 : Nat)) := by simp [World.cell?, G5.out]
        have f5 : w5.cell? ⟨g8, 5, none⟩ = some (.int .u32 (g32 l 12 : Nat)) := by simp [World.cell?, G5.out]
        have f6 : w5.cell? ⟨g8, 6, none⟩ = some (.int .u32 (g32 l 16 : Nat)) := by simp [World.cell?, G5.out]
        have f7 : w5.cell? ⟨g8, 7, none⟩ = some (str ((l.take own).drop 20)) := by simp [World.cell?, G5.out]
        have l8 := cell_lt f0
        have n8 : ¬ g8 = gR := by omega
        have iall : (own : Int) ≤ (all : Int) := by omega
        have iall3 : (all : Int) ≤ (l.length : Int) := by omega
        have exl := ext_cut l own all
        go_upto_region 16 with fail
        refine wp_region_held_drew (S := fun wx => Fp (fun b => b = gR) w5 wx) (by kernel_rfl) (Fp.drew (Fp.refl _ _)) (fun hHeld => ?_)
        (refine take_at 0 (some 58) rfl rfl (by kernel_rfl) (by kernel_rfl) (by kernel_rfl) (fun _ _ _ h => h) (v := ?_) (by kernel_rfl) ?_ (by assumption) ?_; rotate_left; (focus (intro wS hSw; (have qt0 := (hSw.cell (p := ⟨g8, 0, none⟩) l8 n8).trans f0); (have qt1 := (hSw.cell (p := ⟨g8, 1, none⟩) l8 n8).trans f1); (have qt2 := (hSw.cell (p := ⟨g8, 2, none⟩) l8 n8).trans f2); (have qt3 := (hSw.cell (p := ⟨g8, 3, none⟩) l8 n8).trans f3); (have qt4 := (hSw.cell (p := ⟨g8, 4, none⟩) l8 n8).trans f4); (have qt5 := (hSw.cell (p := ⟨g8, 5, none⟩) l8 n8).trans f5); (have qt6 := (hSw.cell (p := ⟨g8, 6, none⟩) l8 n8).trans f6); (have qt7 := (hSw.cell (p := ⟨g8, 7, none⟩) l8 n8).trans f7); go_simp; try with_reducible rfl)); (try simp only [Act.put, List.setIfInBounds_toArray, List.set_cons_zero, List.set_cons_succ]))
        (refine take_at 1 (some 59) rfl rfl (by kernel_rfl) (by kernel_rfl) (by kernel_rfl) (fun _ _ _ h => h) (v := ?_) (by kernel_rfl) ?_ (by assumption) ?_; rotate_left; (focus (intro wS hSw; skip; go_simp; try with_reducible rfl)); (try simp only [Act.put, List.setIfInBounds_toArray, List.set_cons_zero, List.set_cons_succ]))
        (refine take_at 2 (some 60) rfl rfl (by kernel_rfl) (by kernel_rfl) (by kernel_rfl) (fun _ _ _ h => h) (v := ?_) (by kernel_rfl) ?_ (by assumption) ?_; rotate_left; (focus (intro wS hSw; skip; go_simp; try with_reducible rfl)); (try simp only [Act.put, List.setIfInBounds_toArray, List.set_cons_zero, List.set_cons_succ]))
        (refine take_at 3 (some 61) rfl rfl (by kernel_rfl) (by kernel_rfl) (by kernel_rfl) (fun _ _ _ h => h) (v := ?_) (by kernel_rfl) ?_ (by assumption) ?_; rotate_left; (focus (intro wS hSw; skip; go_simp; try with_reducible rfl)); (try simp only [Act.put, List.setIfInBounds_toArray, List.set_cons_zero, List.set_cons_succ]))
        (refine take_at 4 (some 62) rfl rfl (by kernel_rfl) (by kernel_rfl) (by kernel_rfl) (fun _ _ _ h => h) (v := ?_) (by kernel_rfl) ?_ (by assumption) ?_; rotate_left; (focus (intro wS hSw; skip; go_simp; try with_reducible rfl)); (try simp only [Act.put, List.setIfInBounds_toArray, List.set_cons_zero, List.set_cons_succ]))
        generalize hwd : w5.drew = wd at *
        have Bd : wd.heap[gR]? = some (.cells #[.int .u8 0, .int .u16 0, .bool false, .int .u8 0, .int .u8 0, .int .u32 0, .int .u32 0, .string ⟨#[]⟩] 49) := by rw [← hwd]; exact B5.out
        have yr0 : wd.cell? ⟨gR, 0, none⟩ = some (.int .u8 0) := by simp [World.cell?, Bd]
        have zyr0 : wd.frozen? ⟨gR, 0, none⟩ = false := by simp [World.frozen?, Bd]
        have yr1 : wd.cell? ⟨gR, 1, none⟩ = some (.int .u16 0) := by simp [World.cell?, Bd]
        have zyr1 : wd.frozen? ⟨gR, 1, none⟩ = false := by simp [World.frozen?, Bd]
        have yr2 : wd.cell? ⟨gR, 2, none⟩ = some (.bool false) := by simp [World.cell?, Bd]
        have zyr2 : wd.frozen? ⟨gR, 2, none⟩ = false := by simp [World.frozen?, Bd]
        have yr3 : wd.cell? ⟨gR, 3, none⟩ = some (.int .u8 0) := by simp [World.cell?, Bd]
        have zyr3 : wd.frozen? ⟨gR, 3, none⟩ = false := by simp [World.frozen?, Bd]
        have yr4 : wd.cell? ⟨gR, 4, none⟩ = some (.int .u8 0) := by simp [World.cell?, Bd]
        have zyr4 : wd.frozen? ⟨gR, 4, none⟩ = false := by simp [World.frozen?, Bd]
        have yr5 : wd.cell? ⟨gR, 5, none⟩ = some (.int .u32 0) := by simp [World.cell?, Bd]
        have zyr5 : wd.frozen? ⟨gR, 5, none⟩ = false := by simp [World.frozen?, Bd]
        have yr6 : wd.cell? ⟨gR, 6, none⟩ = some (.int .u32 0) := by simp [World.cell?, Bd]
        have zyr6 : wd.frozen? ⟨gR, 6, none⟩ = false := by simp [World.frozen?, Bd]
        have yr7 : wd.cell? ⟨gR, 7, none⟩ = some (.string ⟨#[]⟩) := by simp [World.cell?, Bd]
        have zyr7 : wd.frozen? ⟨gR, 7, none⟩ = false := by simp [World.frozen?, Bd]
        have lR := cell_lt yr0
        refine wpAnyH_ready (rs := [5]) (by kernel_rfl) (by simp) ?_
        refine AllReadyH.cons rfl (fun K hK => ?_) AllReadyH.nil
        go_simp
        obtain ⟨W, hW, hb2, hf2⟩ := set8 wd gR 49 (.int .u8 0) (.int .u16 0) (.bool false) (.int .u8 0) (.int .u8 0) (.int .u32 0) (.int .u32 0) (.string ⟨#[]⟩) Bd (.int .u8 (byt l 1 : Nat)) (.int .u16 (g16 l 4 : Nat)) (.bool true) (.int .u8 (byt l 8 : Nat)) (.int .u8 (byt l 9 : Nat)) (.int .u32 (g32 l 12 : Nat)) (.int .u32 (g32 l 16 : Nat)) (str ((l.take own).drop 20))
        rw [← hW]
        clear hW lR yr0 zyr0 yr1 zyr1 yr2 zyr2 yr3 zyr3 yr4 zyr4 yr5 zyr5 yr6 zyr6 yr7 zyr7
        have hSW : Fp (fun b => b = gR) w5 W := hHeld.trans hf2 (fun _ _ h => h)
        refine hK.out _ _ hSW (fun hHeld3 => ?_)
        clear hK K hHeld hHeld3
        try simp only [Act.put, List.setIfInBounds_toArray, List.set_cons_zero, List.set_cons_succ]
        have hHeld := hSW
        (refine take_at 6 (some 3) rfl rfl (by kernel_rfl) (by kernel_rfl) (by kernel_rfl) (fun _ _ _ h => h) (v := ?_) (by kernel_rfl) ?_ (by assumption) ?_; rotate_left; (focus (intro wS hSw; skip; go_simp; try with_reducible rfl)); (try simp only [Act.put, List.setIfInBounds_toArray, List.set_cons_zero, List.set_cons_succ]))
        (refine take_at 7 (some 4) rfl rfl (by kernel_rfl) (by kernel_rfl) (by kernel_rfl) (fun _ _ _ h => h) (v := ?_) (by kernel_rfl) ?_ (by assumption) ?_; rotate_left; (focus (intro wS hSw; skip; go_simp; try with_reducible rfl)); (try simp only [Act.put, List.setIfInBounds_toArray, List.set_cons_zero, List.set_cons_succ]))
        refine wpAnyH_done (by kernel_rfl) ?_ _
        have yr0 : W.cell? ⟨gR, 0, none⟩ = some (.int .u8 (byt l 1 : Nat)) := by simp [World.cell?, hb2]
        have yr1 : W.cell? ⟨gR, 1, none⟩ = some (.int .u16 (g16 l 4 : Nat)) := by simp [World.cell?, hb2]
        have yr2 : W.cell? ⟨gR, 2, none⟩ = some (.bool true) := by simp [World.cell?, hb2]
        have yr3 : W.cell? ⟨gR, 3, none⟩ = some (.int .u8 (byt l 8 : Nat)) := by simp [World.cell?, hb2]
        have yr4 : W.cell? ⟨gR, 4, none⟩ = some (.int .u8 (byt l 9 : Nat)) := by simp [World.cell?, hb2]
        have yr5 : W.cell? ⟨gR, 5, none⟩ = some (.int .u32 (g32 l 12 : Nat)) := by simp [World.cell?, hb2]
        have yr6 : W.cell? ⟨gR, 6, none⟩ = some (.int .u32 (g32 l 16 : Nat)) := by simp [World.cell?, hb2]
        have yr7 : W.cell? ⟨gR, 7, none⟩ = some (str ((l.take own).drop 20)) := by simp [World.cell?, hb2]
        have lR : gR < W.heap.size := cell_lt yr0
        have HF := Lib.hid ((N5.out).trans hSW (fun i hi e => by have h1 : i = gR := e; have h2 := HgR.out; omega))
        clear hf2 hb2 hSW hHeld
        go_wp2_with fail
        refine bodyPost_ret (v := .tuple #[.agg #[.int .u8 (byt l 1 : Nat), .int .u16 (g16 l 4 : Nat), .bool true, .int .u8 (byt l 8 : Nat), .int .u8 (byt l 9 : Nat), .int .u32 (g32 l 12 : Nat), .int .u32 (g32 l 16 : Nat), str ((l.take own).drop 20)], str ((l.take all).drop own), .int .i64 0]) (by simp only [results, Tryz.results26]; go_simp) rfl ⟨by rw [HV2.out], HF.out⟩
      · have hV : V = .tuple #[ipZ, str [], .int .i64 5] := by rw [HV.out, if_neg q0, if_neg q1]
        have HV2 := Lib.hid hV
        clear HV hV
        have p1 : ((fr : Int) == 16384) = false := beq_eq_false_iff_ne.2 (by omega)
        have yr0 : w4.cell? ⟨gR, 0, none⟩ = some (.int .u8 0) := by simp [World.cell?, B4.out]
        have zyr0 : w4.frozen? ⟨gR, 0, none⟩ = false := by simp [World.frozen?, B4.out]
        have yr1 : w4.cell? ⟨gR, 1, none⟩ = some (.int .u16 0) := by simp [World.cell?, B4.out]
        have zyr1 : w4.frozen? ⟨gR, 1, none⟩ = false := by simp [World.frozen?, B4.out]
        have yr2 : w4.cell? ⟨gR, 2, none⟩ = some (.bool false) := by simp [World.cell?, B4.out]
        have zyr2 : w4.frozen? ⟨gR, 2, none⟩ = false := by simp [World.frozen?, B4.out]
        have yr3 : w4.cell? ⟨gR, 3, none⟩ = some (.int .u8 0) := by simp [World.cell?, B4.out]
        have zyr3 : w4.frozen? ⟨gR, 3, none⟩ = false := by simp [World.frozen?, B4.out]
        have yr4 : w4.cell? ⟨gR, 4, none⟩ = some (.int .u8 0) := by simp [World.cell?, B4.out]
        have zyr4 : w4.frozen? ⟨gR, 4, none⟩ = false := by simp [World.frozen?, B4.out]
        have yr5 : w4.cell? ⟨gR, 5, none⟩ = some (.int .u32 0) := by simp [World.cell?, B4.out]
        have zyr5 : w4.frozen? ⟨gR, 5, none⟩ = false := by simp [World.frozen?, B4.out]
        have yr6 : w4.cell? ⟨gR, 6, none⟩ = some (.int .u32 0) := by simp [World.cell?, B4.out]
        have zyr6 : w4.frozen? ⟨gR, 6, none⟩ = false := by simp [World.frozen?, B4.out]
        have yr7 : w4.cell? ⟨gR, 7, none⟩ = some (.string ⟨#[]⟩) := by simp [World.cell?, B4.out]
        have zyr7 : w4.frozen? ⟨gR, 7, none⟩ = false := by simp [World.frozen?, B4.out]
        have lR := cell_lt yr0
        go_wp2_with fail
        obtain ⟨W, hW, hb2, hf2⟩ := set8 w4 gR 49 (.int .u8 0) (.int .u16 0) (.bool false) (.int .u8 0) (.int .u8 0) (.int .u32 0) (.int .u32 0) (.string ⟨#[]⟩) B4.out (.int .u8 0) (.int .u16 0) (.bool false) (.int .u8 0) (.int .u8 0) (.int .u32 0) (.int .u32 0) (.string ⟨#[]⟩)
        rw [← hW]
        clear hW lR yr0 zyr0 yr1 zyr1 yr2 zyr2 yr3 zyr3 yr4 zyr4 yr5 zyr5 yr6 zyr6 yr7 zyr7
        have yr0 : W.cell? ⟨gR, 0, none⟩ = some (.int .u8 0) := by simp [World.cell?, hb2]
        have yr1 : W.cell? ⟨gR, 1, none⟩ = some (.int .u16 0) := by simp [World.cell?, hb2]
        have yr2 : W.cell? ⟨gR, 2, none⟩ = some (.bool false) := by simp [World.cell?, hb2]
        have yr3 : W.cell? ⟨gR, 3, none⟩ = some (.int .u8 0) := by simp [World.cell?, hb2]
        have yr4 : W.cell? ⟨gR, 4, none⟩ = some (.int .u8 0) := by simp [World.cell?, hb2]
        have yr5 : W.cell? ⟨gR, 5, none⟩ = some (.int .u32 0) := by simp [World.cell?, hb2]
        have yr6 : W.cell? ⟨gR, 6, none⟩ = some (.int .u32 0) := by simp [World.cell?, hb2]
        have yr7 : W.cell? ⟨gR, 7, none⟩ = some (.string ⟨#[]⟩) := by simp [World.cell?, hb2]
        have lR : gR < W.heap.size := cell_lt yr0
        have HF := Lib.hid ((N4.out).trans hf2 (fun i hi e => by have h1 : i = gR := e; have h2 := HgR.out; omega))
        clear hf2 hb2
        refine bodyPost_ret (v := .tuple #[ipZ, str [], .int .i64 5]) (by simp only [results, Tryz.results26, ipZ]; go_simp) rfl ⟨by rw [HV2.out], HF.out⟩

def ipH (l : List UInt8) (fl : Bool) : Value := .agg #[.int .u8 (byt l 1 : Nat), .int .u16 (g16 l 4 : Nat), .bool fl, .int .u8 (byt l 8 : Nat), .int .u8 (byt l 9 : Nat), .int .u32 (g32 l 12 : Nat), .int .u32 (g32 l 16 : Nat), str ((l.take (ipOwn l)).drop 20)]
def ipV (l : List UInt8) : Value := if ipWhy l = 0 then .tuple #[ipH l (g16 l 6 == 16384), str (ipLoad l), .int .i64 0] else .tuple #[ipZ, str [], .int .i64 (ipWhy l : Nat)]
theorem ipV_no {l : List UInt8} {k : Nat} (h : ipWhy l = k) (hk : 0 < k) : ipV l = .tuple #[ipZ, str [], .int .i64 (k : Nat)] := by unfold ipV; rw [h, if_neg (by omega)]
theorem ip_ok (l : List UInt8) (hl : l.length ≤ 1000000) (w : World) : Calls Tryz.prog 26 #[str l] w (Ret1 (ipV l) w) := by
  by_cases h0 : l.length < 20
  · rw [ipV_no (k := 1) (by unfold ipWhy; rw [if_pos h0]) (by omega)]
    exact ip_short l h0 w
  by_cases h1 : byt l 0 / 16 ≠ 4
  · rw [ipV_no (k := 2) (by unfold ipWhy; rw [if_neg h0, if_pos h1]) (by omega)]
    exact ip_ver l (by omega) h1 w
  have h1' : byt l 0 / 16 = 4 := by omega
  by_cases h2 : 20 ≤ byt l 0 % 16 * 4 ∧ byt l 0 % 16 * 4 ≤ g16 l 2 ∧ g16 l 2 ≤ l.length ∧ g16 l 2 ≤ 2048
  · have hB : lenB l = true := decide_eq_true h2
    have ho : byt l 0 % 16 * 4 = ipOwn l := rfl
    have k1 : 20 ≤ ipOwn l := h2.1
    have k2 : ipOwn l ≤ g16 l 2 := h2.2.1
    by_cases h3 : csum [l.take (ipOwn l)] ≠ 0
    · rw [ipV_no (k := 4) (by unfold ipWhy; rw [if_neg h0, if_neg h1, if_neg (fun h => h h2), if_pos (show csum [l.take (byt l 0 % 16 * 4)] ≠ 0 from h3)]) (by omega)]
      exact ip_sum l _ _ (by omega) hl h1' rfl rfl hB k1 (by omega) (by omega) k2 h2.2.2.1 h3 w
    · have h3' : csum [l.take (ipOwn l)] = 0 := by omega
      refine (ip_rest l _ _ _ (by omega) hl h1' rfl rfl rfl hB k1 (by omega) (by omega) k2 h2.2.2.1 h3' w).mono ?_
      rintro e w' ⟨rfl, hp⟩
      refine ⟨?_, hp⟩
      have hw : ipWhy l = if g16 l 6 ≠ 0 ∧ g16 l 6 ≠ 16384 then 5 else 0 := by unfold ipWhy; rw [if_neg h0, if_neg h1, if_neg (fun h => h h2), if_neg (show ¬ csum [l.take (byt l 0 % 16 * 4)] ≠ 0 from h3)]
      by_cases q0 : g16 l 6 = 0
      · rw [if_pos q0]
        have hz : ipWhy l = 0 := by rw [hw, if_neg (by omega)]
        unfold ipV
        rw [if_pos hz, q0]
        rfl
      · by_cases q1 : g16 l 6 = 16384
        · rw [if_neg q0, if_pos q1]
          have hz : ipWhy l = 0 := by rw [hw, if_neg (by omega)]
          unfold ipV
          rw [if_pos hz, q1]
          rfl
        · rw [if_neg q0, if_neg q1]
          have hz : ipWhy l = 5 := by rw [hw, if_pos ⟨q0, q1⟩]
          rw [ipV_no hz (by omega)]
          rfl
  · have hB : lenB l = false := decide_eq_false h2
    rw [ipV_no (k := 3) (by unfold ipWhy; rw [if_neg h0, if_neg h1, if_pos h2]) (by omega)]
    exact ip_len l (by omega) hl h1' hB w
end Go.Proofs.YtmghjaoodnkjlaaGreatDoor
