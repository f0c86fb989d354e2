/- Chapter 08: udp.Parse, icmp.Parse, Query, Error, ID. -/
import Derived.Test.YtmghjaoodnkjlaaGreatDoorTf
namespace Go.Proofs.YtmghjaoodnkjlaaGreatDoor
set_option linter.unusedVariables false
set_option linter.unusedSimpArgs false
open Go.RowKit Go.Lib Go.Sort

def icZ : Value := .agg #[.int .u8 0, .int .u8 0, .int .u16 0, .string ⟨#[]⟩, .string ⟨#[]⟩]
def icM (d : List UInt8) : Value := .agg #[.int .u8 (byt d 0 : Nat), .int .u8 (byt d 1 : Nat), .int .u16 (g16 d 2 : Nat), str ((d.take 8).drop 4), str (d.drop 8)]
theorem icmp_short (d : List UInt8) (h : d.length < 8) (w : World) : Calls Tryz.prog 99 #[str d] w (Ret1 (.tuple #[icZ, .bool false]) w) := by
  go_enter Tryz.func99, Tryz.ntmps99
  go_wp2_with fail
  refine bodyPost_ret (v := .tuple #[icZ, .bool false]) (by simp only [results, Tryz.results99, icZ]; go_simp) rfl ⟨rfl, (Fp.refl _ _).alloc _⟩
set_option maxHeartbeats 1000000 in
set_option maxRecDepth 100000 in
theorem icmp_parse (d : List UInt8) (h : 8 ≤ d.length) (hl : d.length ≤ 1000000) (w : World) : Calls Tryz.prog 99 #[str d] w (Ret1 (.tuple #[icM d, .bool true]) w) := by
  have x0 := run_byte d (i := 0) (z := 0) rfl (by omega)
  have x1 := run_byte d (i := 1) (z := 1) rfl (by omega)
  have s0 := run_cut d (i := 4) (j := 8) rfl rfl (by omega) h
  have s1 := run_cutFrom d (i := 8) rfl h
  have i8 : (8 : Int) ≤ (d.length : Int) := by omega
  have K := Lib.hid (fun W => get16_ok d 2 hl (by omega) W)
  rw [decide_eq_true (show 2 + 2 ≤ d.length by omega)] at K
  go_enter Tryz.func99, Tryz.ntmps99
  go_wp2_with fail
  have hb0 := heap_alloc_new w (.cells #[.int .u8 0, .int .u8 0, .int .u16 0, .string ⟨#[]⟩, .string ⟨#[]⟩] 102)
  have hn0 : NoW w (w.alloc (.cells #[.int .u8 0, .int .u8 0, .int .u16 0, .string ⟨#[]⟩, .string ⟨#[]⟩] 102)) := (Fp.refl _ _).alloc _
  generalize w.alloc (.cells #[.int .u8 0, .int .u8 0, .int .u16 0, .string ⟨#[]⟩, .string ⟨#[]⟩] 102) = w0 at *
  refine (K.out _).mono ?_
  rintro e w1 ⟨rfl, hp⟩
  obtain ⟨gR, hgR⟩ : ∃ gR, gR = w.heap.size := ⟨_, rfl⟩
  rw [← hgR] at hb0 ⊢
  have hb1 := (hp.block _ (Array.getElem?_eq_some_iff.1 hb0).1 id).trans hb0
  have hn1 := hn0.trans hp (fun _ _ h => h)
  have HgR := Lib.hid (show w.heap.size ≤ gR by omega)
  clear hp hb0 hn0 hgR
  have yr0 : w1.cell? ⟨gR, 0, none⟩ = some (.int .u8 0) := by simp [World.cell?, hb1]
  have zyr0 : w1.frozen? ⟨gR, 0, none⟩ = false := by simp [World.frozen?, hb1]
  have yr1 : w1.cell? ⟨gR, 1, none⟩ = some (.int .u8 0) := by simp [World.cell?, hb1]
  have zyr1 : w1.frozen? ⟨gR, 1, none⟩ = false := by simp [World.frozen?, hb1]
  have yr2 : w1.cell? ⟨gR, 2, none⟩ = some (.int .u16 0) := by simp [World.cell?, hb1]
  have zyr2 : w1.frozen? ⟨gR, 2, none⟩ = false := by simp [World.frozen?, hb1]
  have yr3 : w1.cell? ⟨gR, 3, none⟩ = some (.string ⟨#[]⟩) := by simp [World.cell?, hb1]
  have zyr3 : w1.frozen? ⟨gR, 3, none⟩ = false := by simp [World.frozen?, hb1]
  have yr4 : w1.cell? ⟨gR, 4, none⟩ = some (.string ⟨#[]⟩) := by simp [World.cell?, hb1]
  have zyr4 : w1.frozen? ⟨gR, 4, none⟩ = false := by simp [World.frozen?, hb1]
  have lR := cell_lt yr0
  have exl := ext_cut d 4 8
  have exm : (⟨d.toArray⟩ : ByteArray).extract 8 d.length = ⟨(d.drop 8).toArray⟩ := by rw [ext_cut, List.take_length]
  go_upto_region 4 with fail
  (refine wp_still_tail 10 (by kernel_rfl) (by kernel_rfl) ?_; simp only [List.take_succ_cons, List.take_zero, List.drop_succ_cons, List.drop_zero]; (repeat still_step); try refine wpStill_nil ?_)
  go_wp2_with fail
  obtain ⟨W, hW, hb2, hf2⟩ := set5 w1 gR 102 (.int .u8 0) (.int .u8 0) (.int .u16 0) (.string ⟨#[]⟩) (.string ⟨#[]⟩) hb1 (.int .u8 (byt d 0 : Nat)) (.int .u8 (byt d 1 : Nat)) (.int .u16 (g16 d 2 : Nat)) (str ((d.take 8).drop 4)) (str (d.drop 8))
  rw [← hW]
  clear hW lR yr0 zyr0 yr1 zyr1 yr2 zyr2 yr3 zyr3 yr4 zyr4
  have yr0 : W.cell? ⟨gR, 0, none⟩ = some (.int .u8 (byt d 0 : Nat)) := by simp [World.cell?, hb2]
  have yr1 : W.cell? ⟨gR, 1, none⟩ = some (.int .u8 (byt d 1 : Nat)) := by simp [World.cell?, hb2]
  have yr2 : W.cell? ⟨gR, 2, none⟩ = some (.int .u16 (g16 d 2 : Nat)) := by simp [World.cell?, hb2]
  have yr3 : W.cell? ⟨gR, 3, none⟩ = some (str ((d.take 8).drop 4)) := by simp [World.cell?, hb2]
  have yr4 : W.cell? ⟨gR, 4, none⟩ = some (str (d.drop 8)) := by simp [World.cell?, hb2]
  have lR : gR < W.heap.size := cell_lt yr0
  have HF := Lib.hid ((hn1.trans hf2 (fun i hi e => by have h1 : i = gR := e; have h2 := HgR.out; omega)).drew)
  clear hf2 hb2
  refine bodyPost_ret (v := .tuple #[.agg #[.int .u8 (byt d 0 : Nat), .int .u8 (byt d 1 : Nat), .int .u16 (g16 d 2 : Nat), str ((d.take 8).drop 4), str (d.drop 8)], .bool true]) (by simp only [results, Tryz.results99]; go_simp) rfl ⟨rfl, HF.out⟩
def kindB (k n : Nat) : Bool := decide (kindOf k = n)
def msg (ty co su : Nat) (re da : List UInt8) : Value := .agg #[.int .u8 ty, .int .u8 co, .int .u16 su, str re, str da]
theorem icmp_id (ty co su : Nat) (re da : List UInt8) (h : re.length = 4) (w : World) : Calls Tryz.prog 101 #[msg ty co su re da] w (Ret1 (.int .u16 (g16 re 0 : Nat)) w) := by
  have K := Lib.hid (fun W => get16_ok re 0 (by omega) (by omega) W)
  go_enter Tryz.func101, Tryz.ntmps101
  unfold msg
  go_wp2_with fail
  refine (K.out _).mono ?_
  rintro e w1 ⟨rfl, hp⟩
  go_wp2_with fail
  go_ret
  exact ⟨rfl, ((Fp.refl _ _).alloc _).trans hp (fun _ _ h => h)⟩
set_option maxRecDepth 100000 in
theorem icmp_error (ty co su : Nat) (re da : List UInt8) (ht : ty < 256) (w : World) (hT : Tb w) : Calls Tryz.prog 102 #[msg ty co su re da] w (Ret1 (.bool (decide (kindOf ty = 3))) w) := by
  obtain ⟨bk, ok, k1, k2, k3⟩ := hT.kinds
  have kk := fun W hW => k3 W hW ty ht
  have lb := cell_lt k1
  have lk := (Array.getElem?_eq_some_iff.1 k2).1
  have hb : ((kindOf ty : Int) == 3) = decide (kindOf ty = 3) := by
    by_cases h : kindOf ty = 3
    · rw [h]; rfl
    · rw [decide_eq_false h]; exact beq_eq_false_iff_ne.2 (by omega)
  have hn := fun o => (Fp.refl (fun _ => False) w).alloc o
  have c1 := fun o => (hn o).cell (p := ⟨1, 0, none⟩) lb id
  have h2 := fun o => kk _ (((hn o).block _ lk id).trans k2)
  clear hT k3 kk
  generalize kindOf ty = q at *
  go_enter Tryz.func102, Tryz.ntmps102
  unfold msg
  go_wp2_with fail
  exact bodyPost_ret (v := .bool (decide (q = 3))) (by simp [results, Tryz.results102, go_sem]) rfl ⟨rfl, (Fp.refl _ _).alloc _⟩
set_option maxHeartbeats 1000000 in
theorem icmp_query (ty co su : Nat) (re da : List UInt8) (ht : ty < 256) (w : World) (hT : Tb w) : Calls Tryz.prog 100 #[msg ty co su re da] w (Ret1 (.tuple #[.bool (decide (co = 0 ∧ kindOf ty = 1)), .bool (decide (co = 0 ∧ (kindOf ty = 1 ∨ kindOf ty = 2)))]) w) := by
  obtain ⟨bk, ok, k1, k2, k3⟩ := hT.kinds
  have kk := fun W hW => k3 W hW ty ht
  have lb := cell_lt k1
  have lk := (Array.getElem?_eq_some_iff.1 k2).1
  have hn := fun o => (Fp.refl (fun _ => False) w).alloc o
  have c1 := fun o => (hn o).cell (p := ⟨1, 0, none⟩) lb id
  have h2 := fun o => kk _ (((hn o).block _ lk id).trans k2)
  have hq : kindOf ty = 0 ∨ kindOf ty = 1 ∨ kindOf ty = 2 ∨ kindOf ty = 3 := by unfold kindOf; split <;> (try split) <;> (try split) <;> omega
  clear hT k3 kk
  generalize kindOf ty = q at *
  unfold msg
  by_cases hc : co = 0
  · subst hc
    have HQ := hq
    clear hq
    rcases HQ with rfl | rfl | rfl | rfl
    all_goals (go_enter Tryz.func100, Tryz.ntmps100)
    all_goals go_wp2_with fail
    · exact bodyPost_ret (v := .tuple #[.bool false, .bool false]) (by simp [results, Tryz.results100, go_sem]) rfl ⟨by rfl, (Fp.refl _ _).alloc _⟩
    · exact bodyPost_ret (v := .tuple #[.bool true, .bool true]) (by simp [results, Tryz.results100, go_sem]) rfl ⟨by rfl, (Fp.refl _ _).alloc _⟩
    · exact bodyPost_ret (v := .tuple #[.bool false, .bool true]) (by simp [results, Tryz.results100, go_sem]) rfl ⟨by rfl, (Fp.refl _ _).alloc _⟩
    · exact bodyPost_ret (v := .tuple #[.bool false, .bool false]) (by simp [results, Tryz.results100, go_sem]) rfl ⟨by rfl, (Fp.refl _ _).alloc _⟩
  · have e0 : ((co : Int) != 0) = true := by simp [bne]; omega
    have d1 : decide (co = 0 ∧ q = 1) = false := decide_eq_false (fun h => hc h.1)
    have d2 : decide (co = 0 ∧ (q = 1 ∨ q = 2)) = false := decide_eq_false (fun h => hc h.1)
    rw [d1, d2]
    clear d1 d2 hq
    go_enter Tryz.func100, Tryz.ntmps100
    go_wp2_with fail
    exact bodyPost_ret (v := .tuple #[.bool false, .bool false]) (by simp [results, Tryz.results100, go_sem]) rfl ⟨by rfl, (Fp.refl _ _).alloc _⟩
end Go.Proofs.YtmghjaoodnkjlaaGreatDoor
