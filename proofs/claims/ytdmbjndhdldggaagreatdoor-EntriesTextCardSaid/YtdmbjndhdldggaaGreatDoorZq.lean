/- Chapter 18: the document's reading of an entry (written by genzq.py). -/
import Derived.Test.YtdmbjndhdldggaaGreatDoorZp
import Derived.Test.YtdmbjndhdldggaaGreatDoorZt
import Derived.Test.YtdmbjndhdldggaaGreatDoorZv
import Derived.Test.YtdmbjndhdldggaaGreatDoorEpT
namespace Go.Proofs.YtdmbjndhdldggaaGreatDoor
set_option linter.unusedVariables false
set_option linter.unusedSimpArgs false
open Go.RowKit Go.Lib Go.Sort
theorem row_cells {w : World} {B : Nat} {v : Value} {ps : List (List UInt8)} (h : w.ownsRow B 9 1 v ps.length (ps.map str)) (h0 : 0 < ps.length) :
    ∃ g c, v = .slice (some ⟨g, 0, none⟩) ps.length c ∧ ps.length ≤ c ∧ B ≤ g ∧ g < w.heap.size ∧ ∀ j x, ps[j]? = some x → w.cell? ⟨g, j, none⟩ = some (str x) := by
  have hc := h
  obtain ⟨hl, h2⟩ := h
  rcases h2 with ⟨rfl, hz⟩ | ⟨g, cap, cur, rfl, hB, hg, hcap, _⟩
  · omega
  · refine ⟨g, cap, rfl, hcap, hB, (Array.getElem?_eq_some_iff.1 hg).1, fun j x hj => ?_⟩
    have := World.ownsRow.cells hc rfl j (str x) (by rw [List.getElem?_map, hj]; rfl)
    rw [add_eq] at this
    simpa using this

set_option maxHeartbeats 4000000 in
set_option maxRecDepth 100000 in
theorem rparse_no (l : List UInt8) (hl : l.length ≤ 1000000) (ps : List (List UInt8)) (hps : pieces 32 l = ps) (hf : ps.length < 10 ∨ 11 < ps.length) (w : World) :
    Calls Tryz.prog 8 #[str l] w (fun e w' => NoW w w' ∧ ((e = .returned (.tuple #[.agg #[.int .u8 0, .int .u32 0, .int .u16 0, .int .u32 0, .int .u16 0, .int .u8 0, .int .u32 0, .int .u16 0, .int .u32 0, .int .u16 0, .int .i64 0, .int .i64 0, .slice none 0 0], .int .i64 3]) ∧ NP l) ∨ ∃ (r a p b q r2 a2 p2 b2 q2 st dl n : Nat) (oa op ia ip : Nat → Nat) (o : Option Addr) (c : Nat), e = .returned (.tuple #[.agg #[.int .u8 r, .int .u32 a, .int .u16 p, .int .u32 b, .int .u16 q, .int .u8 r2, .int .u32 a2, .int .u16 p2, .int .u32 b2, .int .u16 q2, .int .i64 (st : Nat), .int .i64 (dl : Nat), .slice o n c], .int .i64 0]) ∧ Parsed l r a p b q r2 a2 p2 b2 q2 st dl n oa op ia ip ∧ n ≤ c ∧ HoldsIn w' o n (holdsV oa op ia ip n))) := by
  have kw := words_ok l hl
  have Ht := Lib.hid hl
  have hnz := List.length_pos_iff.2 (pieces_ne 32 l)
  rw [hps] at kw hnz
  have Kw := Lib.hid kw
  have Hnz := Lib.hid hnz
  have Hps := Lib.hid hps
  clear kw hnz hps
  go_enter Tryz.func8, Tryz.ntmps8
  go_wp2_with fail
  have hw0 : NoW w (w.alloc (.cells #[.int .u8 0, .int .u32 0, .int .u16 0, .int .u32 0, .int .u16 0, .int .u8 0, .int .u32 0, .int .u16 0, .int .u32 0, .int .u16 0, .int .i64 0, .int .i64 0, .slice none 0 0] 41)) := (Fp.refl _ _).alloc _
  have hbR0 := heap_alloc_new w (.cells #[.int .u8 0, .int .u32 0, .int .u16 0, .int .u32 0, .int .u16 0, .int .u8 0, .int .u32 0, .int .u16 0, .int .u32 0, .int .u16 0, .int .i64 0, .int .i64 0, .slice none 0 0] 41)
  generalize w.alloc (.cells #[.int .u8 0, .int .u32 0, .int .u16 0, .int .u32 0, .int .u16 0, .int .u8 0, .int .u32 0, .int .u16 0, .int .u32 0, .int .u16 0, .int .i64 0, .int .i64 0, .slice none 0 0] 41) = w0 at *
  obtain ⟨gR, hgR⟩ : ∃ gR, gR = w.heap.size := ⟨_, rfl⟩
  rw [← hgR] at hbR0 ⊢
  have HgR := Lib.hid (show w.heap.size ≤ gR by omega)
  clear hgR
  refine (Kw.out w0).mono ?_
  rintro e w1 ⟨v, rfl, hrow, hp⟩
  obtain ⟨gP, cP, rfl, hcP, hgP, lP, hws⟩ := row_cells hrow Hnz.out
  have hbR1 := (hp.block _ (Array.getElem?_eq_some_iff.1 hbR0).1 id).trans hbR0
  have BR := Lib.hid hbR1
  have Hn1 := Lib.hid (hw0.trans hp (fun _ _ h => h))
  have Hws := Lib.hid hws
  clear hrow hp hws hbR0 hbR1 hw0 hgP
  have np : NP l := by
    intro r a p b q r2 a2 p2 b2 q2 st dl n oa op ia ip h
    have h1 := h.len
    rw [Hps.out] at h1
    omega
  by_cases h10 : ps.length < 10
  · have d1 : decide (((ps.length : Nat) : Int) < 10) = true := decide_eq_true (by omega)
    clear hf h10
    have yr0 : w1.cell? ⟨gR, 0, none⟩ = some (.int .u8 0) := by simp [World.cell?, BR.out]
    have zyr0 : w1.frozen? ⟨gR, 0, none⟩ = false := by simp [World.frozen?, BR.out]
    have yr1 : w1.cell? ⟨gR, 1, none⟩ = some (.int .u32 0) := by simp [World.cell?, BR.out]
    have zyr1 : w1.frozen? ⟨gR, 1, none⟩ = false := by simp [World.frozen?, BR.out]
    have yr2 : w1.cell? ⟨gR, 2, none⟩ = some (.int .u16 0) := by simp [World.cell?, BR.out]
    have zyr2 : w1.frozen? ⟨gR, 2, none⟩ = false := by simp [World.frozen?, BR.out]
    have yr3 : w1.cell? ⟨gR, 3, none⟩ = some (.int .u32 0) := by simp [World.cell?, BR.out]
    have zyr3 : w1.frozen? ⟨gR, 3, none⟩ = false := by simp [World.frozen?, BR.out]
    have yr4 : w1.cell? ⟨gR, 4, none⟩ = some (.int .u16 0) := by simp [World.cell?, BR.out]
    have zyr4 : w1.frozen? ⟨gR, 4, none⟩ = false := by simp [World.frozen?, BR.out]
    have yr5 : w1.cell? ⟨gR, 5, none⟩ = some (.int .u8 0) := by simp [World.cell?, BR.out]
    have zyr5 : w1.frozen? ⟨gR, 5, none⟩ = false := by simp [World.frozen?, BR.out]
    have yr6 : w1.cell? ⟨gR, 6, none⟩ = some (.int .u32 0) := by simp [World.cell?, BR.out]
    have zyr6 : w1.frozen? ⟨gR, 6, none⟩ = false := by simp [World.frozen?, BR.out]
    have yr7 : w1.cell? ⟨gR, 7, none⟩ = some (.int .u16 0) := by simp [World.cell?, BR.out]
    have zyr7 : w1.frozen? ⟨gR, 7, none⟩ = false := by simp [World.frozen?, BR.out]
    have yr8 : w1.cell? ⟨gR, 8, none⟩ = some (.int .u32 0) := by simp [World.cell?, BR.out]
    have zyr8 : w1.frozen? ⟨gR, 8, none⟩ = false := by simp [World.frozen?, BR.out]
    have yr9 : w1.cell? ⟨gR, 9, none⟩ = some (.int .u16 0) := by simp [World.cell?, BR.out]
    have zyr9 : w1.frozen? ⟨gR, 9, none⟩ = false := by simp [World.frozen?, BR.out]
    have yr10 : w1.cell? ⟨gR, 10, none⟩ = some (.int .i64 0) := by simp [World.cell?, BR.out]
    have zyr10 : w1.frozen? ⟨gR, 10, none⟩ = false := by simp [World.frozen?, BR.out]
    have yr11 : w1.cell? ⟨gR, 11, none⟩ = some (.int .i64 0) := by simp [World.cell?, BR.out]
    have zyr11 : w1.frozen? ⟨gR, 11, none⟩ = false := by simp [World.frozen?, BR.out]
    have yr12 : w1.cell? ⟨gR, 12, none⟩ = some (.slice none 0 0) := by simp [World.cell?, BR.out]
    have zyr12 : w1.frozen? ⟨gR, 12, none⟩ = false := by simp [World.frozen?, BR.out]
    have lR := cell_lt yr0
    go_wp2_with fail
    obtain ⟨W, hW, hb2, hf2⟩ := set13 w1 gR 41 (.int .u8 0) (.int .u32 0) (.int .u16 0) (.int .u32 0) (.int .u16 0) (.int .u8 0) (.int .u32 0) (.int .u16 0) (.int .u32 0) (.int .u16 0) (.int .i64 0) (.int .i64 0) (.slice none 0 0) BR.out (.int .u8 0) (.int .u32 0) (.int .u16 0) (.int .u32 0) (.int .u16 0) (.int .u8 0) (.int .u32 0) (.int .u16 0) (.int .u32 0) (.int .u16 0) (.int .i64 0) (.int .i64 0) (.slice none 0 0)
    rw [← hW]
    clear hW lR yr0 zyr0 yr1 zyr1 yr2 zyr2 yr3 zyr3 yr4 zyr4 yr5 zyr5 yr6 zyr6 yr7 zyr7 yr8 zyr8 yr9 zyr9 yr10 zyr10 yr11 zyr11 yr12 zyr12
    have yr0 : W.cell? ⟨gR, 0, none⟩ = some (.int .u8 0) := by simp [World.cell?, hb2]
    have yr1 : W.cell? ⟨gR, 1, none⟩ = some (.int .u32 0) := by simp [World.cell?, hb2]
    have yr2 : W.cell? ⟨gR, 2, none⟩ = some (.int .u16 0) := by simp [World.cell?, hb2]
    have yr3 : W.cell? ⟨gR, 3, none⟩ = some (.int .u32 0) := by simp [World.cell?, hb2]
    have yr4 : W.cell? ⟨gR, 4, none⟩ = some (.int .u16 0) := by simp [World.cell?, hb2]
    have yr5 : W.cell? ⟨gR, 5, none⟩ = some (.int .u8 0) := by simp [World.cell?, hb2]
    have yr6 : W.cell? ⟨gR, 6, none⟩ = some (.int .u32 0) := by simp [World.cell?, hb2]
    have yr7 : W.cell? ⟨gR, 7, none⟩ = some (.int .u16 0) := by simp [World.cell?, hb2]
    have yr8 : W.cell? ⟨gR, 8, none⟩ = some (.int .u32 0) := by simp [World.cell?, hb2]
    have yr9 : W.cell? ⟨gR, 9, none⟩ = some (.int .u16 0) := by simp [World.cell?, hb2]
    have yr10 : W.cell? ⟨gR, 10, none⟩ = some (.int .i64 0) := by simp [World.cell?, hb2]
    have yr11 : W.cell? ⟨gR, 11, none⟩ = some (.int .i64 0) := by simp [World.cell?, hb2]
    have yr12 : W.cell? ⟨gR, 12, none⟩ = some (.slice none 0 0) := by simp [World.cell?, hb2]
    have lR : gR < W.heap.size := cell_lt yr0
    have HF := Lib.hid ((Hn1.out).trans hf2 (fun i hi e => by have h1 : i = gR := e; have h2 := HgR.out; omega))
    have HNP := Lib.hid (np)
    clear hf2 hb2
    refine bodyPost_ret (v := .tuple #[.agg #[.int .u8 0, .int .u32 0, .int .u16 0, .int .u32 0, .int .u16 0, .int .u8 0, .int .u32 0, .int .u16 0, .int .u32 0, .int .u16 0, .int .i64 0, .int .i64 0, .slice none 0 0], .int .i64 3]) (by simp only [results, Tryz.results8]; go_simp) rfl ⟨HF.out, .inl ⟨rfl, HNP.out⟩⟩
  · have d1 : decide (((ps.length : Nat) : Int) < 10) = false := decide_eq_false (by omega)
    have d2 : decide ((11 : Int) < ((ps.length : Nat) : Int)) = true := decide_eq_true (by omega)
    clear hf h10
    have yr0 : w1.cell? ⟨gR, 0, none⟩ = some (.int .u8 0) := by simp [World.cell?, BR.out]
    have zyr0 : w1.frozen? ⟨gR, 0, none⟩ = false := by simp [World.frozen?, BR.out]
    have yr1 : w1.cell? ⟨gR, 1, none⟩ = some (.int .u32 0) := by simp [World.cell?, BR.out]
    have zyr1 : w1.frozen? ⟨gR, 1, none⟩ = false := by simp [World.frozen?, BR.out]
    have yr2 : w1.cell? ⟨gR, 2, none⟩ = some (.int .u16 0) := by simp [World.cell?, BR.out]
    have zyr2 : w1.frozen? ⟨gR, 2, none⟩ = false := by simp [World.frozen?, BR.out]
    have yr3 : w1.cell? ⟨gR, 3, none⟩ = some (.int .u32 0) := by simp [World.cell?, BR.out]
    have zyr3 : w1.frozen? ⟨gR, 3, none⟩ = false := by simp [World.frozen?, BR.out]
    have yr4 : w1.cell? ⟨gR, 4, none⟩ = some (.int .u16 0) := by simp [World.cell?, BR.out]
    have zyr4 : w1.frozen? ⟨gR, 4, none⟩ = false := by simp [World.frozen?, BR.out]
    have yr5 : w1.cell? ⟨gR, 5, none⟩ = some (.int .u8 0) := by simp [World.cell?, BR.out]
    have zyr5 : w1.frozen? ⟨gR, 5, none⟩ = false := by simp [World.frozen?, BR.out]
    have yr6 : w1.cell? ⟨gR, 6, none⟩ = some (.int .u32 0) := by simp [World.cell?, BR.out]
    have zyr6 : w1.frozen? ⟨gR, 6, none⟩ = false := by simp [World.frozen?, BR.out]
    have yr7 : w1.cell? ⟨gR, 7, none⟩ = some (.int .u16 0) := by simp [World.cell?, BR.out]
    have zyr7 : w1.frozen? ⟨gR, 7, none⟩ = false := by simp [World.frozen?, BR.out]
    have yr8 : w1.cell? ⟨gR, 8, none⟩ = some (.int .u32 0) := by simp [World.cell?, BR.out]
    have zyr8 : w1.frozen? ⟨gR, 8, none⟩ = false := by simp [World.frozen?, BR.out]
    have yr9 : w1.cell? ⟨gR, 9, none⟩ = some (.int .u16 0) := by simp [World.cell?, BR.out]
    have zyr9 : w1.frozen? ⟨gR, 9, none⟩ = false := by simp [World.frozen?, BR.out]
    have yr10 : w1.cell? ⟨gR, 10, none⟩ = some (.int .i64 0) := by simp [World.cell?, BR.out]
    have zyr10 : w1.frozen? ⟨gR, 10, none⟩ = false := by simp [World.frozen?, BR.out]
    have yr11 : w1.cell? ⟨gR, 11, none⟩ = some (.int .i64 0) := by simp [World.cell?, BR.out]
    have zyr11 : w1.frozen? ⟨gR, 11, none⟩ = false := by simp [World.frozen?, BR.out]
    have yr12 : w1.cell? ⟨gR, 12, none⟩ = some (.slice none 0 0) := by simp [World.cell?, BR.out]
    have zyr12 : w1.frozen? ⟨gR, 12, none⟩ = false := by simp [World.frozen?, BR.out]
    have lR := cell_lt yr0
    go_wp2_with fail
    obtain ⟨W, hW, hb2, hf2⟩ := set13 w1 gR 41 (.int .u8 0) (.int .u32 0) (.int .u16 0) (.int .u32 0) (.int .u16 0) (.int .u8 0) (.int .u32 0) (.int .u16 0) (.int .u32 0) (.int .u16 0) (.int .i64 0) (.int .i64 0) (.slice none 0 0) BR.out (.int .u8 0) (.int .u32 0) (.int .u16 0) (.int .u32 0) (.int .u16 0) (.int .u8 0) (.int .u32 0) (.int .u16 0) (.int .u32 0) (.int .u16 0) (.int .i64 0) (.int .i64 0) (.slice none 0 0)
    rw [← hW]
    clear hW lR yr0 zyr0 yr1 zyr1 yr2 zyr2 yr3 zyr3 yr4 zyr4 yr5 zyr5 yr6 zyr6 yr7 zyr7 yr8 zyr8 yr9 zyr9 yr10 zyr10 yr11 zyr11 yr12 zyr12
    have yr0 : W.cell? ⟨gR, 0, none⟩ = some (.int .u8 0) := by simp [World.cell?, hb2]
    have yr1 : W.cell? ⟨gR, 1, none⟩ = some (.int .u32 0) := by simp [World.cell?, hb2]
    have yr2 : W.cell? ⟨gR, 2, none⟩ = some (.int .u16 0) := by simp [World.cell?, hb2]
    have yr3 : W.cell? ⟨gR, 3, none⟩ = some (.int .u32 0) := by simp [World.cell?, hb2]
    have yr4 : W.cell? ⟨gR, 4, none⟩ = some (.int .u16 0) := by simp [World.cell?, hb2]
    have yr5 : W.cell? ⟨gR, 5, none⟩ = some (.int .u8 0) := by simp [World.cell?, hb2]
    have yr6 : W.cell? ⟨gR, 6, none⟩ = some (.int .u32 0) := by simp [World.cell?, hb2]
    have yr7 : W.cell? ⟨gR, 7, none⟩ = some (.int .u16 0) := by simp [World.cell?, hb2]
    have yr8 : W.cell? ⟨gR, 8, none⟩ = some (.int .u32 0) := by simp [World.cell?, hb2]
    have yr9 : W.cell? ⟨gR, 9, none⟩ = some (.int .u16 0) := by simp [World.cell?, hb2]
    have yr10 : W.cell? ⟨gR, 10, none⟩ = some (.int .i64 0) := by simp [World.cell?, hb2]
    have yr11 : W.cell? ⟨gR, 11, none⟩ = some (.int .i64 0) := by simp [World.cell?, hb2]
    have yr12 : W.cell? ⟨gR, 12, none⟩ = some (.slice none 0 0) := by simp [World.cell?, hb2]
    have lR : gR < W.heap.size := cell_lt yr0
    have HF := Lib.hid ((Hn1.out).trans hf2 (fun i hi e => by have h1 : i = gR := e; have h2 := HgR.out; omega))
    have HNP := Lib.hid (np)
    clear hf2 hb2
    refine bodyPost_ret (v := .tuple #[.agg #[.int .u8 0, .int .u32 0, .int .u16 0, .int .u32 0, .int .u16 0, .int .u8 0, .int .u32 0, .int .u16 0, .int .u32 0, .int .u16 0, .int .i64 0, .int .i64 0, .slice none 0 0], .int .i64 3]) (by simp only [results, Tryz.results8]; go_simp) rfl ⟨HF.out, .inl ⟨rfl, HNP.out⟩⟩

set_option maxHeartbeats 16000000 in
set_option maxRecDepth 100000 in
theorem rparse_main (l : List UInt8) (hl : l.length ≤ 1000000) (p0 p1 p2 p3 p4 p5 p6 p7 p8 : List UInt8) (hs : List (List UInt8)) (hps : pieces 32 l = p0 :: p1 :: p2 :: p3 :: p4 :: p5 :: p6 :: p7 :: p8 :: hs) (hm : 1 ≤ hs.length ∧ hs.length ≤ 2) (w : World) :
    Calls Tryz.prog 8 #[str l] w (fun e w' => NoW w w' ∧ ((e = .returned (.tuple #[.agg #[.int .u8 0, .int .u32 0, .int .u16 0, .int .u32 0, .int .u16 0, .int .u8 0, .int .u32 0, .int .u16 0, .int .u32 0, .int .u16 0, .int .i64 0, .int .i64 0, .slice none 0 0], .int .i64 3]) ∧ NP l) ∨ ∃ (r a p b q r2 a2 p2 b2 q2 st dl n : Nat) (oa op ia ip : Nat → Nat) (o : Option Addr) (c : Nat), e = .returned (.tuple #[.agg #[.int .u8 r, .int .u32 a, .int .u16 p, .int .u32 b, .int .u16 q, .int .u8 r2, .int .u32 a2, .int .u16 p2, .int .u32 b2, .int .u16 q2, .int .i64 (st : Nat), .int .i64 (dl : Nat), .slice o n c], .int .i64 0]) ∧ Parsed l r a p b q r2 a2 p2 b2 q2 st dl n oa op ia ip ∧ n ≤ c ∧ HoldsIn w' o n (holdsV oa op ia ip n))) := by
  have hlen : ∀ p, p ∈ pieces 32 l → p.length ≤ 1000000 := fun p hp => Nat.le_trans (pieces_le hp) hl
  rw [hps] at hlen
  have hl0 := hlen p0 (by simp)
  have hl1 := hlen p1 (by simp)
  have hl2 := hlen p2 (by simp)
  have hl4 := hlen p4 (by simp)
  have hl5 := hlen p5 (by simp)
  have hl6 := hlen p6 (by simp)
  obtain ⟨j11, hj11⟩ : ∃ s : List UInt8, s = p0 ++ [32] := ⟨_, rfl⟩
  have lj11 : j11.length ≤ 1000010 := by rw [hj11]; simp; omega
  have aj11 : ∀ W, (Op.stringOp .add ⟨(p0).toArray⟩ ⟨#[32]⟩).run Tryz.prog W = .ok (str j11) W := fun W => by rw [hj11]; exact run_string_add_lists W (p0) ([32]) (by omega) (by first | omega | simp) 
  obtain ⟨j12, hj12⟩ : ∃ s : List UInt8, s = j11 ++ p1 := ⟨_, rfl⟩
  have lj12 : j12.length ≤ 2000020 := by rw [hj12]; simp; omega
  have aj12 : ∀ W, (Op.stringOp .add ⟨(j11).toArray⟩ ⟨(p1).toArray⟩).run Tryz.prog W = .ok (str j12) W := fun W => by rw [hj12]; exact run_string_add_lists W (j11) (p1) (by omega) (by first | omega | simp) 
  obtain ⟨j13, hj13⟩ : ∃ s : List UInt8, s = j12 ++ [32] := ⟨_, rfl⟩
  have lj13 : j13.length ≤ 2000030 := by rw [hj13]; simp; omega
  have aj13 : ∀ W, (Op.stringOp .add ⟨(j12).toArray⟩ ⟨#[32]⟩).run Tryz.prog W = .ok (str j13) W := fun W => by rw [hj13]; exact run_string_add_lists W (j12) ([32]) (by omega) (by first | omega | simp) 
  obtain ⟨j14, hj14⟩ : ∃ s : List UInt8, s = j13 ++ p2 := ⟨_, rfl⟩
  have lj14 : j14.length ≤ 3000040 := by rw [hj14]; simp; omega
  have aj14 : ∀ W, (Op.stringOp .add ⟨(j13).toArray⟩ ⟨(p2).toArray⟩).run Tryz.prog W = .ok (str j14) W := fun W => by rw [hj14]; exact run_string_add_lists W (j13) (p2) (by omega) (by first | omega | simp) 
  have hJ1 : j14 = joinB [p0, p1, p2] := by rw [hj14, hj13, hj12, hj11]; simp [joinB, List.intercalate]
  obtain ⟨r1, a1, b1, c1, d1, e1, z1, hv1, hz1, hs1, hn1⟩ := tup_val (tupOf (joinB [p0, p1, p2]))
  have k1 := fun W => rtup_parse j14 (by omega) W
  rw [hJ1] at k1
  rw [hv1, ← hJ1] at k1
  have K1 := Lib.hid k1
  have Hs1 := Lib.hid hs1
  have N1 := Lib.hid (show z1 = false → NP l from fun h => np_t1 hps (hn1 h))
  have A1 := Lib.hid (And.intro aj11 (And.intro aj12 (And.intro aj13 aj14)))
  clear k1 hv1 hs1 hn1 hJ1 hj11 hj12 hj13 hj14 lj11 lj12 lj13 lj14 aj11 aj12 aj13 aj14
  obtain ⟨j21, hj21⟩ : ∃ s : List UInt8, s = p4 ++ [32] := ⟨_, rfl⟩
  have lj21 : j21.length ≤ 1000010 := by rw [hj21]; simp; omega
  have aj21 : ∀ W, (Op.stringOp .add ⟨(p4).toArray⟩ ⟨#[32]⟩).run Tryz.prog W = .ok (str j21) W := fun W => by rw [hj21]; exact run_string_add_lists W (p4) ([32]) (by omega) (by first | omega | simp) 
  obtain ⟨j22, hj22⟩ : ∃ s : List UInt8, s = j21 ++ p5 := ⟨_, rfl⟩
  have lj22 : j22.length ≤ 2000020 := by rw [hj22]; simp; omega
  have aj22 : ∀ W, (Op.stringOp .add ⟨(j21).toArray⟩ ⟨(p5).toArray⟩).run Tryz.prog W = .ok (str j22) W := fun W => by rw [hj22]; exact run_string_add_lists W (j21) (p5) (by omega) (by first | omega | simp) 
  obtain ⟨j23, hj23⟩ : ∃ s : List UInt8, s = j22 ++ [32] := ⟨_, rfl⟩
  have lj23 : j23.length ≤ 2000030 := by rw [hj23]; simp; omega
  have aj23 : ∀ W, (Op.stringOp .add ⟨(j22).toArray⟩ ⟨#[32]⟩).run Tryz.prog W = .ok (str j23) W := fun W => by rw [hj23]; exact run_string_add_lists W (j22) ([32]) (by omega) (by first | omega | simp) 
  obtain ⟨j24, hj24⟩ : ∃ s : List UInt8, s = j23 ++ p6 := ⟨_, rfl⟩
  have lj24 : j24.length ≤ 3000040 := by rw [hj24]; simp; omega
  have aj24 : ∀ W, (Op.stringOp .add ⟨(j23).toArray⟩ ⟨(p6).toArray⟩).run Tryz.prog W = .ok (str j24) W := fun W => by rw [hj24]; exact run_string_add_lists W (j23) (p6) (by omega) (by first | omega | simp) 
  have hJ2 : j24 = joinB [p4, p5, p6] := by rw [hj24, hj23, hj22, hj21]; simp [joinB, List.intercalate]
  obtain ⟨r2, a2, b2, c2, d2, e2, z2, hv2, hz2, hs2, hn2⟩ := tup_val (tupOf (joinB [p4, p5, p6]))
  have k2 := fun W => rtup_parse j24 (by omega) W
  rw [hJ2] at k2
  rw [hv2, ← hJ2] at k2
  have K2 := Lib.hid k2
  have Hs2 := Lib.hid hs2
  have N2 := Lib.hid (show z2 = false → NP l from fun h => np_t2 hps (hn2 h))
  have A2 := Lib.hid (And.intro aj21 (And.intro aj22 (And.intro aj23 aj24)))
  clear k2 hv2 hs2 hn2 hJ2 hj21 hj22 hj23 hj24 lj21 lj22 lj23 lj24 aj21 aj22 aj23 aj24
  have kn7 := fun W => (rnum_ok p7 W).mono (R' := Ret1 (.int .i64 (numI p7)) W) (fun e w' ⟨h1, h2⟩ => ⟨h1, by rw [h2]; exact Fp.refl _ _⟩)
  have kn8 := fun W => (rnum_ok p8 W).mono (R' := Ret1 (.int .i64 (numI p8)) W) (fun e w' ⟨h1, h2⟩ => ⟨h1, by rw [h2]; exact Fp.refl _ _⟩)
  obtain ⟨F, hF⟩ : ∃ F : Nat → Nat × Nat × Nat × Nat, ∀ i x y, hs[i]? = some x → holdOf x = some y → F i = y := ⟨fun i => (holdOf ((hs[i]?).getD [])).getD (0, 0, 0, 0), by intro i x y h1 h2; simp only [h1, Option.getD_some, h2]⟩
  have HFF := Lib.hid hF
  have hrd := @rread l p0 p1 p2 p3 p4 p5 p6 p7 p8 hs hps r1 a1 b1 c1 d1 r2 a2 b2 c2 d2 F
  obtain ⟨st, hst⟩ : ∃ st, st = numI p7 := ⟨_, rfl⟩
  obtain ⟨dl, hdl⟩ : ∃ dl, dl = numI p8 := ⟨_, rfl⟩
  rw [← hst] at kn7 hrd
  rw [← hdl] at kn8 hrd
  have Kn7 := Lib.hid kn7
  have Kn8 := Lib.hid kn8
  have Hrd := Lib.hid hrd
  have Hlen := Lib.hid hlen
  have Hnh := Lib.hid (fun (i : Nat) (x : List UInt8) (hi : hs[i]? = some x) (hb : holdOf x = none) => np_h hps hi hb)
  clear hlen hl0 hl1 hl2 hl4 hl5 hl6 kn7 kn8 hrd hst hdl hF
  have kw := words_ok l hl
  have Ht := Lib.hid hl
  have hnz := List.length_pos_iff.2 (pieces_ne 32 l)
  rw [hps] at kw hnz
  have Kw := Lib.hid kw
  have Hnz := Lib.hid hnz
  have Hps := Lib.hid hps
  clear kw hnz hps
  go_enter Tryz.func8, Tryz.ntmps8
  go_wp2_with fail
  have hw0 : NoW w (w.alloc (.cells #[.int .u8 0, .int .u32 0, .int .u16 0, .int .u32 0, .int .u16 0, .int .u8 0, .int .u32 0, .int .u16 0, .int .u32 0, .int .u16 0, .int .i64 0, .int .i64 0, .slice none 0 0] 41)) := (Fp.refl _ _).alloc _
  have hbR0 := heap_alloc_new w (.cells #[.int .u8 0, .int .u32 0, .int .u16 0, .int .u32 0, .int .u16 0, .int .u8 0, .int .u32 0, .int .u16 0, .int .u32 0, .int .u16 0, .int .i64 0, .int .i64 0, .slice none 0 0] 41)
  generalize w.alloc (.cells #[.int .u8 0, .int .u32 0, .int .u16 0, .int .u32 0, .int .u16 0, .int .u8 0, .int .u32 0, .int .u16 0, .int .u32 0, .int .u16 0, .int .i64 0, .int .i64 0, .slice none 0 0] 41) = w0 at *
  obtain ⟨gR, hgR⟩ : ∃ gR, gR = w.heap.size := ⟨_, rfl⟩
  rw [← hgR] at hbR0 ⊢
  have HgR := Lib.hid (show w.heap.size ≤ gR by omega)
  clear hgR
  refine (Kw.out w0).mono ?_
  rintro e w1 ⟨v, rfl, hrow, hp⟩
  obtain ⟨gP, cP, rfl, hcP, hgP, lP, hws⟩ := row_cells hrow Hnz.out
  have hbR1 := (hp.block _ (Array.getElem?_eq_some_iff.1 hbR0).1 id).trans hbR0
  have BR := Lib.hid hbR1
  have Hn1 := Lib.hid (hw0.trans hp (fun _ _ h => h))
  have Hws := Lib.hid hws
  clear hrow hp hws hbR0 hbR1 hw0 hgP
  obtain ⟨n9, hn9⟩ : ∃ n9 : Nat, n9 = (p0 :: p1 :: p2 :: p3 :: p4 :: p5 :: p6 :: p7 :: p8 :: hs).length := ⟨_, rfl⟩
  rw [← hn9]
  rw [← hn9] at hcP
  have hn9' : n9 = 9 + hs.length := by rw [hn9]; simp; omega
  clear hn9
  have i0 : (0 : Int) < (n9 : Int) := by omega
  have i1 : (1 : Int) < (n9 : Int) := by omega
  have i2 : (2 : Int) < (n9 : Int) := by omega
  have i3 : (3 : Int) < (n9 : Int) := by omega
  have i4 : (4 : Int) < (n9 : Int) := by omega
  have i5 : (5 : Int) < (n9 : Int) := by omega
  have i6 : (6 : Int) < (n9 : Int) := by omega
  have i7 : (7 : Int) < (n9 : Int) := by omega
  have i8 : (8 : Int) < (n9 : Int) := by omega
  have i0n : 0 < n9 := by omega
  have Hn9 := Lib.hid hn9'
  have dd1 : decide ((n9 : Int) < 10) = false := decide_eq_false (by omega)
  have dd2 : decide ((11 : Int) < (n9 : Int)) = false := decide_eq_false (by omega)
  clear hn9'
  skip
  go_upto_region 4 with fail
  go_cut [5, 6] (fun s5 s6 wx => ∃ g5, s5 = .pointer (some ⟨g5, 0, none⟩) ∧ s6 = .int .i64 e1 ∧ wx.heap[g5]? = some (.cells #[.int .u8 r1, .int .u32 a1, .int .u16 b1, .int .u32 c1, .int .u16 d1] 28) ∧ NoW w1 wx)
  case first =>
    have x0 : w1.cell? ⟨gP, 0, none⟩ = some (str p0) := Hws.out 0 p0 rfl
    have x1 : w1.cell? ⟨gP, 1, none⟩ = some (str p1) := Hws.out 1 p1 rfl
    have x2 : w1.cell? ⟨gP, 2, none⟩ = some (str p2) := Hws.out 2 p2 rfl
    obtain ⟨as1, as2, as3, as4⟩ := A1.out
    refine wp_region_held_drew (S := fun wx => NoW w1 wx) (by kernel_rfl) (Fp.drew (Fp.refl _ _)) (fun hHeld => ?_)
    (refine take_at 0 (some 28) rfl rfl (by kernel_rfl) (by kernel_rfl) (by kernel_rfl) (fun _ _ _ h => h) (v := ?_) (by kernel_rfl) ?_ (by assumption) ?_; rotate_left; (focus (intro wS hSw; skip; go_simp; try with_reducible rfl)); (try simp only [Act.put, List.setIfInBounds_toArray, List.set_cons_zero, List.set_cons_succ]))
    (refine take_at 1 (some 29) rfl rfl (by kernel_rfl) (by kernel_rfl) (by kernel_rfl) (fun _ _ _ h => h) (v := ?_) (by kernel_rfl) ?_ (by assumption) ?_; rotate_left; (focus (intro wS hSw; skip; go_simp; try with_reducible rfl)); (try simp only [Act.put, List.setIfInBounds_toArray, List.set_cons_zero, List.set_cons_succ]))
    (refine take_at 2 (some 30) rfl rfl (by kernel_rfl) (by kernel_rfl) (by kernel_rfl) (fun _ _ _ h => h) (v := ?_) (by kernel_rfl) ?_ (by assumption) ?_; rotate_left; (focus (intro wS hSw; (have qx0 := (hSw.cell (p := ⟨gP, 0, none⟩) lP id).trans x0); go_simp; try with_reducible rfl)); (try simp only [Act.put, List.setIfInBounds_toArray, List.set_cons_zero, List.set_cons_succ]))
    (refine take_at 4 (some 32) rfl rfl (by kernel_rfl) (by kernel_rfl) (by kernel_rfl) (fun _ _ _ h => h) (v := ?_) (by kernel_rfl) ?_ (by assumption) ?_; rotate_left; (focus (intro wS hSw; skip; go_simp; try with_reducible rfl)); (try simp only [Act.put, List.setIfInBounds_toArray, List.set_cons_zero, List.set_cons_succ]))
    (refine take_at 5 (some 33) rfl rfl (by kernel_rfl) (by kernel_rfl) (by kernel_rfl) (fun _ _ _ h => h) (v := ?_) (by kernel_rfl) ?_ (by assumption) ?_; rotate_left; (focus (intro wS hSw; skip; go_simp; try with_reducible rfl)); (try simp only [Act.put, List.setIfInBounds_toArray, List.set_cons_zero, List.set_cons_succ]))
    (refine take_at 6 (some 34) rfl rfl (by kernel_rfl) (by kernel_rfl) (by kernel_rfl) (fun _ _ _ h => h) (v := ?_) (by kernel_rfl) ?_ (by assumption) ?_; rotate_left; (focus (intro wS hSw; (have qx1 := (hSw.cell (p := ⟨gP, 1, none⟩) lP id).trans x1); go_simp; try with_reducible rfl)); (try simp only [Act.put, List.setIfInBounds_toArray, List.set_cons_zero, List.set_cons_succ]))
    (refine take_at 9 (some 37) rfl rfl (by kernel_rfl) (by kernel_rfl) (by kernel_rfl) (fun _ _ _ h => h) (v := ?_) (by kernel_rfl) ?_ (by assumption) ?_; rotate_left; (focus (intro wS hSw; skip; go_simp; try with_reducible rfl)); (try simp only [Act.put, List.setIfInBounds_toArray, List.set_cons_zero, List.set_cons_succ]))
    (refine take_at 10 (some 38) rfl rfl (by kernel_rfl) (by kernel_rfl) (by kernel_rfl) (fun _ _ _ h => h) (v := ?_) (by kernel_rfl) ?_ (by assumption) ?_; rotate_left; (focus (intro wS hSw; skip; go_simp; try with_reducible rfl)); (try simp only [Act.put, List.setIfInBounds_toArray, List.set_cons_zero, List.set_cons_succ]))
    (refine take_at 11 (some 39) rfl rfl (by kernel_rfl) (by kernel_rfl) (by kernel_rfl) (fun _ _ _ h => h) (v := ?_) (by kernel_rfl) ?_ (by assumption) ?_; rotate_left; (focus (intro wS hSw; (have qx2 := (hSw.cell (p := ⟨gP, 2, none⟩) lP id).trans x2); go_simp; try with_reducible rfl)); (try simp only [Act.put, List.setIfInBounds_toArray, List.set_cons_zero, List.set_cons_succ]))
    (refine take_at 3 (some 31) rfl rfl (by kernel_rfl) (by kernel_rfl) (by kernel_rfl) (fun _ _ _ h => h) (v := ?_) (by kernel_rfl) ?_ (by assumption) ?_; rotate_left; (focus (intro wS hSw; skip; go_simp; try with_reducible rfl)); (try simp only [Act.put, List.setIfInBounds_toArray, List.set_cons_zero, List.set_cons_succ]))
    (refine take_at 7 (some 35) rfl rfl (by kernel_rfl) (by kernel_rfl) (by kernel_rfl) (fun _ _ _ h => h) (v := ?_) (by kernel_rfl) ?_ (by assumption) ?_; rotate_left; (focus (intro wS hSw; skip; go_simp; try with_reducible rfl)); (try simp only [Act.put, List.setIfInBounds_toArray, List.set_cons_zero, List.set_cons_succ]))
    (refine take_at 8 (some 36) rfl rfl (by kernel_rfl) (by kernel_rfl) (by kernel_rfl) (fun _ _ _ h => h) (v := ?_) (by kernel_rfl) ?_ (by assumption) ?_; rotate_left; (focus (intro wS hSw; skip; go_simp; try with_reducible rfl)); (try simp only [Act.put, List.setIfInBounds_toArray, List.set_cons_zero, List.set_cons_succ]))
    (refine take_at 12 (some 40) rfl rfl (by kernel_rfl) (by kernel_rfl) (by kernel_rfl) (fun _ _ _ h => h) (v := ?_) (by kernel_rfl) ?_ (by assumption) ?_; rotate_left; (focus (intro wS hSw; skip; go_simp; try with_reducible rfl)); (try simp only [Act.put, List.setIfInBounds_toArray, List.set_cons_zero, List.set_cons_succ]))
    refine wpAnyH_ready (rs := [13, 17]) (by kernel_rfl) (by simp) ?_
    refine AllReadyH.cons rfl (fun K hK => ?_) (AllReadyH.cons rfl (fun K hK => ?_) AllReadyH.nil)
    · go_simp
      go_at_call 27
      refine (K1.out _).mono ?_
      rintro e u1 ⟨rfl, hp⟩
      have hn : NoW w1 u1 := Fp.trans hHeld hp (fun _ _ h => h)
      clear hp hHeld
      refine hK.out _ _ hn (fun hHeld => ?_)
      clear hK K hn
      try simp only [Act.put, List.setIfInBounds_toArray, List.set_cons_zero, List.set_cons_succ]
      (refine take_at 14 (some 27) rfl rfl (by kernel_rfl) (by kernel_rfl) (by kernel_rfl) (fun _ _ _ h => h) (v := ?_) (by kernel_rfl) ?_ (by assumption) ?_; rotate_left; (focus (intro wS hSw; skip; go_simp; try with_reducible rfl)); (try simp only [Act.put, List.setIfInBounds_toArray, List.set_cons_zero, List.set_cons_succ]))
      (refine take_at 15 (some 42) rfl rfl (by kernel_rfl) (by kernel_rfl) (by kernel_rfl) (fun _ _ _ h => h) (v := ?_) (by kernel_rfl) ?_ (by assumption) ?_; rotate_left; (focus (intro wS hSw; skip; go_simp; try with_reducible rfl)); (try simp only [Act.put, List.setIfInBounds_toArray, List.set_cons_zero, List.set_cons_succ]))
      (refine take_at 16 (some 43) rfl rfl (by kernel_rfl) (by kernel_rfl) (by kernel_rfl) (fun _ _ _ h => h) (v := ?_) (by kernel_rfl) ?_ (by assumption) ?_; rotate_left; (focus (intro wS hSw; skip; go_simp; try with_reducible rfl)); (try simp only [Act.put, List.setIfInBounds_toArray, List.set_cons_zero, List.set_cons_succ]))
      refine wpAnyH_ready (rs := [17]) (by kernel_rfl) (by simp) ?_
      refine AllReadyH.cons rfl (fun K hK => ?_) AllReadyH.nil
      go_simp
      have hbN := heap_alloc_new u1 (.cells #[.int .u8 0, .int .u32 0, .int .u16 0, .int .u32 0, .int .u16 0] 28)
      have hge0 : w1.heap.size ≤ u1.heap.size := hHeld.size
      refine hK.out _ _ (hHeld.alloc _) (fun hHeld2 => ?_)
      clear hK K hHeld
      try simp only [Act.put, List.setIfInBounds_toArray, List.set_cons_zero, List.set_cons_succ]
      generalize u1.alloc (.cells #[.int .u8 0, .int .u32 0, .int .u16 0, .int .u32 0, .int .u16 0] 28) = z2 at *
      obtain ⟨gN, hgN⟩ : ∃ gN, gN = u1.heap.size := ⟨_, rfl⟩
      rw [← hgN] at hbN hge0 ⊢
      have HGgN := Lib.hid hge0
      have BgN := Lib.hid hbN
      clear hgN hge0 hbN
      have hHeld := hHeld2
      clear hHeld2
      have n0 : z2.cell? ⟨gN, 0, none⟩ = some (.int .u8 0) := by simp [World.cell?, BgN.out]
      have zn0 : z2.frozen? ⟨gN, 0, none⟩ = false := by simp [World.frozen?, BgN.out]
      have n1 : z2.cell? ⟨gN, 1, none⟩ = some (.int .u32 0) := by simp [World.cell?, BgN.out]
      have zn1 : z2.frozen? ⟨gN, 1, none⟩ = false := by simp [World.frozen?, BgN.out]
      have n2 : z2.cell? ⟨gN, 2, none⟩ = some (.int .u16 0) := by simp [World.cell?, BgN.out]
      have zn2 : z2.frozen? ⟨gN, 2, none⟩ = false := by simp [World.frozen?, BgN.out]
      have n3 : z2.cell? ⟨gN, 3, none⟩ = some (.int .u32 0) := by simp [World.cell?, BgN.out]
      have zn3 : z2.frozen? ⟨gN, 3, none⟩ = false := by simp [World.frozen?, BgN.out]
      have n4 : z2.cell? ⟨gN, 4, none⟩ = some (.int .u16 0) := by simp [World.cell?, BgN.out]
      have zn4 : z2.frozen? ⟨gN, 4, none⟩ = false := by simp [World.frozen?, BgN.out]
      have lN := cell_lt n0
      refine wpAnyH_ready (rs := [18]) (by kernel_rfl) (by simp) ?_
      refine AllReadyH.cons rfl (fun K hK => ?_) AllReadyH.nil
      go_simp
      obtain ⟨W, hW, hb2, hf2⟩ := set5 z2 gN 28 (.int .u8 0) (.int .u32 0) (.int .u16 0) (.int .u32 0) (.int .u16 0) BgN.out (.int .u8 r1) (.int .u32 a1) (.int .u16 b1) (.int .u32 c1) (.int .u16 d1)
      rw [← hW]
      clear hW
      have hSW : NoW w1 W := hHeld.trans hf2 (fun i hi e => by have h1 : i = gN := e; have h2 := HGgN.out; omega)
      refine hK.out _ _ hSW (fun hHeld3 => ?_)
      clear hK K hf2 lN n0 zn0 n1 zn1 n2 zn2 n3 zn3 n4 zn4 hHeld
      try simp only [Act.put, List.setIfInBounds_toArray, List.set_cons_zero, List.set_cons_succ]
      have hHeld := hHeld3
      (refine take_at 19 (some 6) rfl rfl (by kernel_rfl) (by kernel_rfl) (by kernel_rfl) (fun _ _ _ h => h) (v := ?_) (by kernel_rfl) ?_ (by assumption) ?_; rotate_left; (focus (intro wS hSw; skip; go_simp; try with_reducible rfl)); (try simp only [Act.put, List.setIfInBounds_toArray, List.set_cons_zero, List.set_cons_succ]))
      refine wpAnyH_done (by kernel_rfl) ?_ _
      have HSW := Lib.hid hSW
      have HB2 := Lib.hid hb2
      clear hHeld hHeld3 hSW hb2 BgN
      go_wp2_with fail
      go_meet
      exact ⟨gN, rfl, rfl, HB2.out, HSW.out⟩
    · go_simp
      have hbN0 := heap_alloc_new w1 (.cells #[.int .u8 0, .int .u32 0, .int .u16 0, .int .u32 0, .int .u16 0] 28)
      have hbN : (w1.alloc (.cells #[.int .u8 0, .int .u32 0, .int .u16 0, .int .u32 0, .int .u16 0] 28)).drew.heap[w1.heap.size]? = some (.cells #[.int .u8 0, .int .u32 0, .int .u16 0, .int .u32 0, .int .u16 0] 28) := hbN0
      clear hbN0
      refine hK.out _ _ (show NoW w1 ((w1.alloc (.cells #[.int .u8 0, .int .u32 0, .int .u16 0, .int .u32 0, .int .u16 0] 28)).drew) from Fp.drew ((Fp.refl _ _).alloc _)) (fun hHeld2 => ?_)
      clear hK K hHeld
      try simp only [Act.put, List.setIfInBounds_toArray, List.set_cons_zero, List.set_cons_succ]
      generalize (w1.alloc (.cells #[.int .u8 0, .int .u32 0, .int .u16 0, .int .u32 0, .int .u16 0] 28)).drew = z1 at *
      obtain ⟨gN, hgN⟩ : ∃ gN, gN = w1.heap.size := ⟨_, rfl⟩
      rw [← hgN] at hbN ⊢
      have hge : w1.heap.size ≤ gN := by omega
      have HGgN := Lib.hid hge
      have BgN := Lib.hid hbN
      clear hgN hge hbN
      have hHeld := hHeld2
      clear hHeld2
      refine wpAnyH_ready (rs := [13]) (by kernel_rfl) (by simp) ?_
      refine AllReadyH.cons rfl (fun K hK => ?_) AllReadyH.nil
      go_simp
      go_at_call 27
      refine (K1.out _).mono ?_
      rintro e u2 ⟨rfl, hp⟩
      have hn : NoW w1 u2 := Fp.trans hHeld hp (fun _ _ h => h)
      have hbN := (hp.block _ (Array.getElem?_eq_some_iff.1 BgN.out).1 id).trans BgN.out
      clear BgN
      have BgN := Lib.hid hbN
      clear hbN
      clear hp hHeld
      refine hK.out _ _ hn (fun hHeld => ?_)
      clear hK K hn
      try simp only [Act.put, List.setIfInBounds_toArray, List.set_cons_zero, List.set_cons_succ]
      (refine take_at 14 (some 27) rfl rfl (by kernel_rfl) (by kernel_rfl) (by kernel_rfl) (fun _ _ _ h => h) (v := ?_) (by kernel_rfl) ?_ (by assumption) ?_; rotate_left; (focus (intro wS hSw; skip; go_simp; try with_reducible rfl)); (try simp only [Act.put, List.setIfInBounds_toArray, List.set_cons_zero, List.set_cons_succ]))
      (refine take_at 15 (some 42) rfl rfl (by kernel_rfl) (by kernel_rfl) (by kernel_rfl) (fun _ _ _ h => h) (v := ?_) (by kernel_rfl) ?_ (by assumption) ?_; rotate_left; (focus (intro wS hSw; skip; go_simp; try with_reducible rfl)); (try simp only [Act.put, List.setIfInBounds_toArray, List.set_cons_zero, List.set_cons_succ]))
      (refine take_at 16 (some 43) rfl rfl (by kernel_rfl) (by kernel_rfl) (by kernel_rfl) (fun _ _ _ h => h) (v := ?_) (by kernel_rfl) ?_ (by assumption) ?_; rotate_left; (focus (intro wS hSw; skip; go_simp; try with_reducible rfl)); (try simp only [Act.put, List.setIfInBounds_toArray, List.set_cons_zero, List.set_cons_succ]))
      have n0 : u2.cell? ⟨gN, 0, none⟩ = some (.int .u8 0) := by simp [World.cell?, BgN.out]
      have zn0 : u2.frozen? ⟨gN, 0, none⟩ = false := by simp [World.frozen?, BgN.out]
      have n1 : u2.cell? ⟨gN, 1, none⟩ = some (.int .u32 0) := by simp [World.cell?, BgN.out]
      have zn1 : u2.frozen? ⟨gN, 1, none⟩ = false := by simp [World.frozen?, BgN.out]
      have n2 : u2.cell? ⟨gN, 2, none⟩ = some (.int .u16 0) := by simp [World.cell?, BgN.out]
      have zn2 : u2.frozen? ⟨gN, 2, none⟩ = false := by simp [World.frozen?, BgN.out]
      have n3 : u2.cell? ⟨gN, 3, none⟩ = some (.int .u32 0) := by simp [World.cell?, BgN.out]
      have zn3 : u2.frozen? ⟨gN, 3, none⟩ = false := by simp [World.frozen?, BgN.out]
      have n4 : u2.cell? ⟨gN, 4, none⟩ = some (.int .u16 0) := by simp [World.cell?, BgN.out]
      have zn4 : u2.frozen? ⟨gN, 4, none⟩ = false := by simp [World.frozen?, BgN.out]
      have lN := cell_lt n0
      refine wpAnyH_ready (rs := [18]) (by kernel_rfl) (by simp) ?_
      refine AllReadyH.cons rfl (fun K hK => ?_) AllReadyH.nil
      go_simp
      obtain ⟨W, hW, hb2, hf2⟩ := set5 u2 gN 28 (.int .u8 0) (.int .u32 0) (.int .u16 0) (.int .u32 0) (.int .u16 0) BgN.out (.int .u8 r1) (.int .u32 a1) (.int .u16 b1) (.int .u32 c1) (.int .u16 d1)
      rw [← hW]
      clear hW
      have hSW : NoW w1 W := hHeld.trans hf2 (fun i hi e => by have h1 : i = gN := e; have h2 := HGgN.out; omega)
      refine hK.out _ _ hSW (fun hHeld3 => ?_)
      clear hK K hf2 lN n0 zn0 n1 zn1 n2 zn2 n3 zn3 n4 zn4 hHeld
      try simp only [Act.put, List.setIfInBounds_toArray, List.set_cons_zero, List.set_cons_succ]
      have hHeld := hHeld3
      (refine take_at 19 (some 6) rfl rfl (by kernel_rfl) (by kernel_rfl) (by kernel_rfl) (fun _ _ _ h => h) (v := ?_) (by kernel_rfl) ?_ (by assumption) ?_; rotate_left; (focus (intro wS hSw; skip; go_simp; try with_reducible rfl)); (try simp only [Act.put, List.setIfInBounds_toArray, List.set_cons_zero, List.set_cons_succ]))
      refine wpAnyH_done (by kernel_rfl) ?_ _
      have HSW := Lib.hid hSW
      have HB2 := Lib.hid hb2
      clear hHeld hHeld3 hSW hb2 BgN
      go_wp2_with fail
      go_meet
      exact ⟨gN, rfl, rfl, HB2.out, HSW.out⟩
  case rest =>
    obtain ⟨g5, rfl, rfl, hb5, hn5⟩ := hcut
    generalize wc = wA at *
    have B5 := Lib.hid hb5
    have hbR := (hn5.block _ (Array.getElem?_eq_some_iff.1 BR.out).1 id).trans BR.out
    clear BR
    have BR := Lib.hid hbR
    have WS := Lib.hid (show ∀ j x, (p0 :: p1 :: p2 :: p3 :: p4 :: p5 :: p6 :: p7 :: p8 :: hs)[j]? = some x → wA.cell? ⟨gP, j, none⟩ = some (str x) from fun j x hj => (hn5.cell (p := ⟨gP, j, none⟩) lP id).trans (Hws.out j x hj))
    have lPA : gP < wA.heap.size := Nat.lt_of_lt_of_le lP hn5.size
    have HnA := Lib.hid (Hn1.out.trans hn5 (fun _ _ h => h))
    clear hb5 hn5 hbR Hws lP Hn1
    have lP := lPA
    clear lPA
    go_upto_region 5 with fail
    go_cut [7, 8] (fun s7 s8 wx => ∃ g7, s7 = .pointer (some ⟨g7, 0, none⟩) ∧ s8 = .int .i64 e2 ∧ wx.heap[g7]? = some (.cells #[.int .u8 r2, .int .u32 a2, .int .u16 b2, .int .u32 c2, .int .u16 d2] 28) ∧ NoW wA wx)
    case first =>
      have x4 : wA.cell? ⟨gP, 4, none⟩ = some (str p4) := WS.out 4 p4 rfl
      have x5 : wA.cell? ⟨gP, 5, none⟩ = some (str p5) := WS.out 5 p5 rfl
      have x6 : wA.cell? ⟨gP, 6, none⟩ = some (str p6) := WS.out 6 p6 rfl
      obtain ⟨as1, as2, as3, as4⟩ := A2.out
      refine wp_region_held_drew (S := fun wx => NoW wA wx) (by kernel_rfl) (Fp.drew (Fp.refl _ _)) (fun hHeld => ?_)
      (refine take_at 0 (some 45) rfl rfl (by kernel_rfl) (by kernel_rfl) (by kernel_rfl) (fun _ _ _ h => h) (v := ?_) (by kernel_rfl) ?_ (by assumption) ?_; rotate_left; (focus (intro wS hSw; skip; go_simp; try with_reducible rfl)); (try simp only [Act.put, List.setIfInBounds_toArray, List.set_cons_zero, List.set_cons_succ]))
      (refine take_at 1 (some 46) rfl rfl (by kernel_rfl) (by kernel_rfl) (by kernel_rfl) (fun _ _ _ h => h) (v := ?_) (by kernel_rfl) ?_ (by assumption) ?_; rotate_left; (focus (intro wS hSw; skip; go_simp; try with_reducible rfl)); (try simp only [Act.put, List.setIfInBounds_toArray, List.set_cons_zero, List.set_cons_succ]))
      (refine take_at 2 (some 47) rfl rfl (by kernel_rfl) (by kernel_rfl) (by kernel_rfl) (fun _ _ _ h => h) (v := ?_) (by kernel_rfl) ?_ (by assumption) ?_; rotate_left; (focus (intro wS hSw; (have qx4 := (hSw.cell (p := ⟨gP, 4, none⟩) lP id).trans x4); go_simp; try with_reducible rfl)); (try simp only [Act.put, List.setIfInBounds_toArray, List.set_cons_zero, List.set_cons_succ]))
      (refine take_at 4 (some 49) rfl rfl (by kernel_rfl) (by kernel_rfl) (by kernel_rfl) (fun _ _ _ h => h) (v := ?_) (by kernel_rfl) ?_ (by assumption) ?_; rotate_left; (focus (intro wS hSw; skip; go_simp; try with_reducible rfl)); (try simp only [Act.put, List.setIfInBounds_toArray, List.set_cons_zero, List.set_cons_succ]))
      (refine take_at 5 (some 50) rfl rfl (by kernel_rfl) (by kernel_rfl) (by kernel_rfl) (fun _ _ _ h => h) (v := ?_) (by kernel_rfl) ?_ (by assumption) ?_; rotate_left; (focus (intro wS hSw; skip; go_simp; try with_reducible rfl)); (try simp only [Act.put, List.setIfInBounds_toArray, List.set_cons_zero, List.set_cons_succ]))
      (refine take_at 6 (some 51) rfl rfl (by kernel_rfl) (by kernel_rfl) (by kernel_rfl) (fun _ _ _ h => h) (v := ?_) (by kernel_rfl) ?_ (by assumption) ?_; rotate_left; (focus (intro wS hSw; (have qx5 := (hSw.cell (p := ⟨gP, 5, none⟩) lP id).trans x5); go_simp; try with_reducible rfl)); (try simp only [Act.put, List.setIfInBounds_toArray, List.set_cons_zero, List.set_cons_succ]))
      (refine take_at 9 (some 54) rfl rfl (by kernel_rfl) (by kernel_rfl) (by kernel_rfl) (fun _ _ _ h => h) (v := ?_) (by kernel_rfl) ?_ (by assumption) ?_; rotate_left; (focus (intro wS hSw; skip; go_simp; try with_reducible rfl)); (try simp only [Act.put, List.setIfInBounds_toArray, List.set_cons_zero, List.set_cons_succ]))
      (refine take_at 10 (some 55) rfl rfl (by kernel_rfl) (by kernel_rfl) (by kernel_rfl) (fun _ _ _ h => h) (v := ?_) (by kernel_rfl) ?_ (by assumption) ?_; rotate_left; (focus (intro wS hSw; skip; go_simp; try with_reducible rfl)); (try simp only [Act.put, List.setIfInBounds_toArray, List.set_cons_zero, List.set_cons_succ]))
      (refine take_at 11 (some 56) rfl rfl (by kernel_rfl) (by kernel_rfl) (by kernel_rfl) (fun _ _ _ h => h) (v := ?_) (by kernel_rfl) ?_ (by assumption) ?_; rotate_left; (focus (intro wS hSw; (have qx6 := (hSw.cell (p := ⟨gP, 6, none⟩) lP id).trans x6); go_simp; try with_reducible rfl)); (try simp only [Act.put, List.setIfInBounds_toArray, List.set_cons_zero, List.set_cons_succ]))
      (refine take_at 3 (some 48) rfl rfl (by kernel_rfl) (by kernel_rfl) (by kernel_rfl) (fun _ _ _ h => h) (v := ?_) (by kernel_rfl) ?_ (by assumption) ?_; rotate_left; (focus (intro wS hSw; skip; go_simp; try with_reducible rfl)); (try simp only [Act.put, List.setIfInBounds_toArray, List.set_cons_zero, List.set_cons_succ]))
      (refine take_at 7 (some 52) rfl rfl (by kernel_rfl) (by kernel_rfl) (by kernel_rfl) (fun _ _ _ h => h) (v := ?_) (by kernel_rfl) ?_ (by assumption) ?_; rotate_left; (focus (intro wS hSw; skip; go_simp; try with_reducible rfl)); (try simp only [Act.put, List.setIfInBounds_toArray, List.set_cons_zero, List.set_cons_succ]))
      (refine take_at 8 (some 53) rfl rfl (by kernel_rfl) (by kernel_rfl) (by kernel_rfl) (fun _ _ _ h => h) (v := ?_) (by kernel_rfl) ?_ (by assumption) ?_; rotate_left; (focus (intro wS hSw; skip; go_simp; try with_reducible rfl)); (try simp only [Act.put, List.setIfInBounds_toArray, List.set_cons_zero, List.set_cons_succ]))
      (refine take_at 12 (some 57) rfl rfl (by kernel_rfl) (by kernel_rfl) (by kernel_rfl) (fun _ _ _ h => h) (v := ?_) (by kernel_rfl) ?_ (by assumption) ?_; rotate_left; (focus (intro wS hSw; skip; go_simp; try with_reducible rfl)); (try simp only [Act.put, List.setIfInBounds_toArray, List.set_cons_zero, List.set_cons_succ]))
      refine wpAnyH_ready (rs := [13, 17]) (by kernel_rfl) (by simp) ?_
      refine AllReadyH.cons rfl (fun K hK => ?_) (AllReadyH.cons rfl (fun K hK => ?_) AllReadyH.nil)
      · go_simp
        go_at_call 27
        refine (K2.out _).mono ?_
        rintro e u1 ⟨rfl, hp⟩
        have hn : NoW wA u1 := Fp.trans hHeld hp (fun _ _ h => h)
        clear hp hHeld
        refine hK.out _ _ hn (fun hHeld => ?_)
        clear hK K hn
        try simp only [Act.put, List.setIfInBounds_toArray, List.set_cons_zero, List.set_cons_succ]
        (refine take_at 14 (some 44) rfl rfl (by kernel_rfl) (by kernel_rfl) (by kernel_rfl) (fun _ _ _ h => h) (v := ?_) (by kernel_rfl) ?_ (by assumption) ?_; rotate_left; (focus (intro wS hSw; skip; go_simp; try with_reducible rfl)); (try simp only [Act.put, List.setIfInBounds_toArray, List.set_cons_zero, List.set_cons_succ]))
        (refine take_at 15 (some 59) rfl rfl (by kernel_rfl) (by kernel_rfl) (by kernel_rfl) (fun _ _ _ h => h) (v := ?_) (by kernel_rfl) ?_ (by assumption) ?_; rotate_left; (focus (intro wS hSw; skip; go_simp; try with_reducible rfl)); (try simp only [Act.put, List.setIfInBounds_toArray, List.set_cons_zero, List.set_cons_succ]))
        (refine take_at 16 (some 60) rfl rfl (by kernel_rfl) (by kernel_rfl) (by kernel_rfl) (fun _ _ _ h => h) (v := ?_) (by kernel_rfl) ?_ (by assumption) ?_; rotate_left; (focus (intro wS hSw; skip; go_simp; try with_reducible rfl)); (try simp only [Act.put, List.setIfInBounds_toArray, List.set_cons_zero, List.set_cons_succ]))
        refine wpAnyH_ready (rs := [17]) (by kernel_rfl) (by simp) ?_
        refine AllReadyH.cons rfl (fun K hK => ?_) AllReadyH.nil
        go_simp
        have hbN := heap_alloc_new u1 (.cells #[.int .u8 0, .int .u32 0, .int .u16 0, .int .u32 0, .int .u16 0] 28)
        have hge0 : wA.heap.size ≤ u1.heap.size := hHeld.size
        refine hK.out _ _ (hHeld.alloc _) (fun hHeld2 => ?_)
        clear hK K hHeld
        try simp only [Act.put, List.setIfInBounds_toArray, List.set_cons_zero, List.set_cons_succ]
        generalize u1.alloc (.cells #[.int .u8 0, .int .u32 0, .int .u16 0, .int .u32 0, .int .u16 0] 28) = z2 at *
        obtain ⟨gN, hgN⟩ : ∃ gN, gN = u1.heap.size := ⟨_, rfl⟩
        rw [← hgN] at hbN hge0 ⊢
        have HGgN := Lib.hid hge0
        have BgN := Lib.hid hbN
        clear hgN hge0 hbN
        have hHeld := hHeld2
        clear hHeld2
        have n0 : z2.cell? ⟨gN, 0, none⟩ = some (.int .u8 0) := by simp [World.cell?, BgN.out]
        have zn0 : z2.frozen? ⟨gN, 0, none⟩ = false := by simp [World.frozen?, BgN.out]
        have n1 : z2.cell? ⟨gN, 1, none⟩ = some (.int .u32 0) := by simp [World.cell?, BgN.out]
        have zn1 : z2.frozen? ⟨gN, 1, none⟩ = false := by simp [World.frozen?, BgN.out]
        have n2 : z2.cell? ⟨gN, 2, none⟩ = some (.int .u16 0) := by simp [World.cell?, BgN.out]
        have zn2 : z2.frozen? ⟨gN, 2, none⟩ = false := by simp [World.frozen?, BgN.out]
        have n3 : z2.cell? ⟨gN, 3, none⟩ = some (.int .u32 0) := by simp [World.cell?, BgN.out]
        have zn3 : z2.frozen? ⟨gN, 3, none⟩ = false := by simp [World.frozen?, BgN.out]
        have n4 : z2.cell? ⟨gN, 4, none⟩ = some (.int .u16 0) := by simp [World.cell?, BgN.out]
        have zn4 : z2.frozen? ⟨gN, 4, none⟩ = false := by simp [World.frozen?, BgN.out]
        have lN := cell_lt n0
        refine wpAnyH_ready (rs := [18]) (by kernel_rfl) (by simp) ?_
        refine AllReadyH.cons rfl (fun K hK => ?_) AllReadyH.nil
        go_simp
        obtain ⟨W, hW, hb2, hf2⟩ := set5 z2 gN 28 (.int .u8 0) (.int .u32 0) (.int .u16 0) (.int .u32 0) (.int .u16 0) BgN.out (.int .u8 r2) (.int .u32 a2) (.int .u16 b2) (.int .u32 c2) (.int .u16 d2)
        rw [← hW]
        clear hW
        have hSW : NoW wA W := hHeld.trans hf2 (fun i hi e => by have h1 : i = gN := e; have h2 := HGgN.out; omega)
        refine hK.out _ _ hSW (fun hHeld3 => ?_)
        clear hK K hf2 lN n0 zn0 n1 zn1 n2 zn2 n3 zn3 n4 zn4 hHeld
        try simp only [Act.put, List.setIfInBounds_toArray, List.set_cons_zero, List.set_cons_succ]
        have hHeld := hHeld3
        (refine take_at 19 (some 8) rfl rfl (by kernel_rfl) (by kernel_rfl) (by kernel_rfl) (fun _ _ _ h => h) (v := ?_) (by kernel_rfl) ?_ (by assumption) ?_; rotate_left; (focus (intro wS hSw; skip; go_simp; try with_reducible rfl)); (try simp only [Act.put, List.setIfInBounds_toArray, List.set_cons_zero, List.set_cons_succ]))
        refine wpAnyH_done (by kernel_rfl) ?_ _
        have HSW := Lib.hid hSW
        have HB2 := Lib.hid hb2
        clear hHeld hHeld3 hSW hb2 BgN
        go_wp2_with fail
        go_meet
        exact ⟨gN, rfl, rfl, HB2.out, HSW.out⟩
      · go_simp
        have hbN0 := heap_alloc_new wA (.cells #[.int .u8 0, .int .u32 0, .int .u16 0, .int .u32 0, .int .u16 0] 28)
        have hbN : (wA.alloc (.cells #[.int .u8 0, .int .u32 0, .int .u16 0, .int .u32 0, .int .u16 0] 28)).drew.heap[wA.heap.size]? = some (.cells #[.int .u8 0, .int .u32 0, .int .u16 0, .int .u32 0, .int .u16 0] 28) := hbN0
        clear hbN0
        refine hK.out _ _ (show NoW wA ((wA.alloc (.cells #[.int .u8 0, .int .u32 0, .int .u16 0, .int .u32 0, .int .u16 0] 28)).drew) from Fp.drew ((Fp.refl _ _).alloc _)) (fun hHeld2 => ?_)
        clear hK K hHeld
        try simp only [Act.put, List.setIfInBounds_toArray, List.set_cons_zero, List.set_cons_succ]
        generalize (wA.alloc (.cells #[.int .u8 0, .int .u32 0, .int .u16 0, .int .u32 0, .int .u16 0] 28)).drew = z1 at *
        obtain ⟨gN, hgN⟩ : ∃ gN, gN = wA.heap.size := ⟨_, rfl⟩
        rw [← hgN] at hbN ⊢
        have hge : wA.heap.size ≤ gN := by omega
        have HGgN := Lib.hid hge
        have BgN := Lib.hid hbN
        clear hgN hge hbN
        have hHeld := hHeld2
        clear hHeld2
        refine wpAnyH_ready (rs := [13]) (by kernel_rfl) (by simp) ?_
        refine AllReadyH.cons rfl (fun K hK => ?_) AllReadyH.nil
        go_simp
        go_at_call 27
        refine (K2.out _).mono ?_
        rintro e u2 ⟨rfl, hp⟩
        have hn : NoW wA u2 := Fp.trans hHeld hp (fun _ _ h => h)
        have hbN := (hp.block _ (Array.getElem?_eq_some_iff.1 BgN.out).1 id).trans BgN.out
        clear BgN
        have BgN := Lib.hid hbN
        clear hbN
        clear hp hHeld
        refine hK.out _ _ hn (fun hHeld => ?_)
        clear hK K hn
        try simp only [Act.put, List.setIfInBounds_toArray, List.set_cons_zero, List.set_cons_succ]
        (refine take_at 14 (some 44) rfl rfl (by kernel_rfl) (by kernel_rfl) (by kernel_rfl) (fun _ _ _ h => h) (v := ?_) (by kernel_rfl) ?_ (by assumption) ?_; rotate_left; (focus (intro wS hSw; skip; go_simp; try with_reducible rfl)); (try simp only [Act.put, List.setIfInBounds_toArray, List.set_cons_zero, List.set_cons_succ]))
        (refine take_at 15 (some 59) rfl rfl (by kernel_rfl) (by kernel_rfl) (by kernel_rfl) (fun _ _ _ h => h) (v := ?_) (by kernel_rfl) ?_ (by assumption) ?_; rotate_left; (focus (intro wS hSw; skip; go_simp; try with_reducible rfl)); (try simp only [Act.put, List.setIfInBounds_toArray, List.set_cons_zero, List.set_cons_succ]))
        (refine take_at 16 (some 60) rfl rfl (by kernel_rfl) (by kernel_rfl) (by kernel_rfl) (fun _ _ _ h => h) (v := ?_) (by kernel_rfl) ?_ (by assumption) ?_; rotate_left; (focus (intro wS hSw; skip; go_simp; try with_reducible rfl)); (try simp only [Act.put, List.setIfInBounds_toArray, List.set_cons_zero, List.set_cons_succ]))
        have n0 : u2.cell? ⟨gN, 0, none⟩ = some (.int .u8 0) := by simp [World.cell?, BgN.out]
        have zn0 : u2.frozen? ⟨gN, 0, none⟩ = false := by simp [World.frozen?, BgN.out]
        have n1 : u2.cell? ⟨gN, 1, none⟩ = some (.int .u32 0) := by simp [World.cell?, BgN.out]
        have zn1 : u2.frozen? ⟨gN, 1, none⟩ = false := by simp [World.frozen?, BgN.out]
        have n2 : u2.cell? ⟨gN, 2, none⟩ = some (.int .u16 0) := by simp [World.cell?, BgN.out]
        have zn2 : u2.frozen? ⟨gN, 2, none⟩ = false := by simp [World.frozen?, BgN.out]
        have n3 : u2.cell? ⟨gN, 3, none⟩ = some (.int .u32 0) := by simp [World.cell?, BgN.out]
        have zn3 : u2.frozen? ⟨gN, 3, none⟩ = false := by simp [World.frozen?, BgN.out]
        have n4 : u2.cell? ⟨gN, 4, none⟩ = some (.int .u16 0) := by simp [World.cell?, BgN.out]
        have zn4 : u2.frozen? ⟨gN, 4, none⟩ = false := by simp [World.frozen?, BgN.out]
        have lN := cell_lt n0
        refine wpAnyH_ready (rs := [18]) (by kernel_rfl) (by simp) ?_
        refine AllReadyH.cons rfl (fun K hK => ?_) AllReadyH.nil
        go_simp
        obtain ⟨W, hW, hb2, hf2⟩ := set5 u2 gN 28 (.int .u8 0) (.int .u32 0) (.int .u16 0) (.int .u32 0) (.int .u16 0) BgN.out (.int .u8 r2) (.int .u32 a2) (.int .u16 b2) (.int .u32 c2) (.int .u16 d2)
        rw [← hW]
        clear hW
        have hSW : NoW wA W := hHeld.trans hf2 (fun i hi e => by have h1 : i = gN := e; have h2 := HGgN.out; omega)
        refine hK.out _ _ hSW (fun hHeld3 => ?_)
        clear hK K hf2 lN n0 zn0 n1 zn1 n2 zn2 n3 zn3 n4 zn4 hHeld
        try simp only [Act.put, List.setIfInBounds_toArray, List.set_cons_zero, List.set_cons_succ]
        have hHeld := hHeld3
        (refine take_at 19 (some 8) rfl rfl (by kernel_rfl) (by kernel_rfl) (by kernel_rfl) (fun _ _ _ h => h) (v := ?_) (by kernel_rfl) ?_ (by assumption) ?_; rotate_left; (focus (intro wS hSw; skip; go_simp; try with_reducible rfl)); (try simp only [Act.put, List.setIfInBounds_toArray, List.set_cons_zero, List.set_cons_succ]))
        refine wpAnyH_done (by kernel_rfl) ?_ _
        have HSW := Lib.hid hSW
        have HB2 := Lib.hid hb2
        clear hHeld hHeld3 hSW hb2 BgN
        go_wp2_with fail
        go_meet
        exact ⟨gN, rfl, rfl, HB2.out, HSW.out⟩
    case rest =>
      obtain ⟨g7, rfl, rfl, hb7, hn7⟩ := hcut
      generalize wc = wB at *
      have B7 := Lib.hid hb7
      have hb5 := (hn7.block _ (Array.getElem?_eq_some_iff.1 B5.out).1 id).trans B5.out
      clear B5
      have B5 := Lib.hid hb5
      have hbR := (hn7.block _ (Array.getElem?_eq_some_iff.1 BR.out).1 id).trans BR.out
      clear BR
      have BR := Lib.hid hbR
      have WS2 := Lib.hid (show ∀ j x, (p0 :: p1 :: p2 :: p3 :: p4 :: p5 :: p6 :: p7 :: p8 :: hs)[j]? = some x → wB.cell? ⟨gP, j, none⟩ = some (str x) from fun j x hj => (hn7.cell (p := ⟨gP, j, none⟩) lP id).trans (WS.out j x hj))
      have lPA : gP < wB.heap.size := Nat.lt_of_lt_of_le lP hn7.size
      have HnB := Lib.hid (HnA.out.trans hn7 (fun _ _ h => h))
      clear hb5 hb7 hn7 hbR WS lP HnA
      have lP := lPA
      have WS := Lib.hid WS2.out
      clear lPA WS2
      go_upto_region 6 with fail
      go_cut [9] (fun s9 wx => ∃ gE, s9 = .pointer (some ⟨gE, 0, none⟩) ∧ wx.heap[gE]? = some (.cells #[.int .u8 r1, .int .u32 a1, .int .u16 b1, .int .u32 c1, .int .u16 d1, .int .u8 r2, .int .u32 a2, .int .u16 b2, .int .u32 c2, .int .u16 d2, .int .i64 st, .int .i64 dl, .slice none 0 0] 41) ∧ wB.heap.size ≤ gE ∧ NoW wB wx)
      case first =>
        have x7 : wB.cell? ⟨gP, 7, none⟩ = some (str p7) := WS.out 7 p7 rfl
        have x8 : wB.cell? ⟨gP, 8, none⟩ = some (str p8) := WS.out 8 p8 rfl
        have t0 : wB.cell? ⟨g5, 0, none⟩ = some (.int .u8 r1) := by simp [World.cell?, B5.out]
        have t1 : wB.cell? ⟨g5, 1, none⟩ = some (.int .u32 a1) := by simp [World.cell?, B5.out]
        have t2 : wB.cell? ⟨g5, 2, none⟩ = some (.int .u16 b1) := by simp [World.cell?, B5.out]
        have t3 : wB.cell? ⟨g5, 3, none⟩ = some (.int .u32 c1) := by simp [World.cell?, B5.out]
        have t4 : wB.cell? ⟨g5, 4, none⟩ = some (.int .u16 d1) := by simp [World.cell?, B5.out]
        have v0 : wB.cell? ⟨g7, 0, none⟩ = some (.int .u8 r2) := by simp [World.cell?, B7.out]
        have v1 : wB.cell? ⟨g7, 1, none⟩ = some (.int .u32 a2) := by simp [World.cell?, B7.out]
        have v2 : wB.cell? ⟨g7, 2, none⟩ = some (.int .u16 b2) := by simp [World.cell?, B7.out]
        have v3 : wB.cell? ⟨g7, 3, none⟩ = some (.int .u32 c2) := by simp [World.cell?, B7.out]
        have v4 : wB.cell? ⟨g7, 4, none⟩ = some (.int .u16 d2) := by simp [World.cell?, B7.out]
        have l5 := cell_lt t0
        have l7 := cell_lt v0
        refine wp_region_held_drew (S := fun wx => NoW wB wx) (by kernel_rfl) (Fp.drew (Fp.refl _ _)) (fun hHeld => ?_)
        (refine take_at 0 (some 61) rfl rfl (by kernel_rfl) (by kernel_rfl) (by kernel_rfl) (fun _ _ _ h => h) (v := ?_) (by kernel_rfl) ?_ (by assumption) ?_; rotate_left; (focus (intro wS hSw; (have qt0 := (hSw.cell (p := ⟨g5, 0, none⟩) l5 id).trans t0); (have qt1 := (hSw.cell (p := ⟨g5, 1, none⟩) l5 id).trans t1); (have qt2 := (hSw.cell (p := ⟨g5, 2, none⟩) l5 id).trans t2); (have qt3 := (hSw.cell (p := ⟨g5, 3, none⟩) l5 id).trans t3); (have qt4 := (hSw.cell (p := ⟨g5, 4, none⟩) l5 id).trans t4); go_simp; try with_reducible rfl)); (try simp only [Act.put, List.setIfInBounds_toArray, List.set_cons_zero, List.set_cons_succ]))
        (refine take_at 1 (some 62) rfl rfl (by kernel_rfl) (by kernel_rfl) (by kernel_rfl) (fun _ _ _ h => h) (v := ?_) (by kernel_rfl) ?_ (by assumption) ?_; rotate_left; (focus (intro wS hSw; (have qv0 := (hSw.cell (p := ⟨g7, 0, none⟩) l7 id).trans v0); (have qv1 := (hSw.cell (p := ⟨g7, 1, none⟩) l7 id).trans v1); (have qv2 := (hSw.cell (p := ⟨g7, 2, none⟩) l7 id).trans v2); (have qv3 := (hSw.cell (p := ⟨g7, 3, none⟩) l7 id).trans v3); (have qv4 := (hSw.cell (p := ⟨g7, 4, none⟩) l7 id).trans v4); go_simp; try with_reducible rfl)); (try simp only [Act.put, List.setIfInBounds_toArray, List.set_cons_zero, List.set_cons_succ]))
        (refine take_at 2 (some 63) rfl rfl (by kernel_rfl) (by kernel_rfl) (by kernel_rfl) (fun _ _ _ h => h) (v := ?_) (by kernel_rfl) ?_ (by assumption) ?_; rotate_left; (focus (intro wS hSw; skip; go_simp; try with_reducible rfl)); (try simp only [Act.put, List.setIfInBounds_toArray, List.set_cons_zero, List.set_cons_succ]))
        (refine take_at 3 (some 64) rfl rfl (by kernel_rfl) (by kernel_rfl) (by kernel_rfl) (fun _ _ _ h => h) (v := ?_) (by kernel_rfl) ?_ (by assumption) ?_; rotate_left; (focus (intro wS hSw; skip; go_simp; try with_reducible rfl)); (try simp only [Act.put, List.setIfInBounds_toArray, List.set_cons_zero, List.set_cons_succ]))
        (refine take_at 4 (some 65) rfl rfl (by kernel_rfl) (by kernel_rfl) (by kernel_rfl) (fun _ _ _ h => h) (v := ?_) (by kernel_rfl) ?_ (by assumption) ?_; rotate_left; (focus (intro wS hSw; (have qx7 := (hSw.cell (p := ⟨gP, 7, none⟩) lP id).trans x7); go_simp; try with_reducible rfl)); (try simp only [Act.put, List.setIfInBounds_toArray, List.set_cons_zero, List.set_cons_succ]))
        (refine take_at 6 (some 67) rfl rfl (by kernel_rfl) (by kernel_rfl) (by kernel_rfl) (fun _ _ _ h => h) (v := ?_) (by kernel_rfl) ?_ (by assumption) ?_; rotate_left; (focus (intro wS hSw; skip; go_simp; try with_reducible rfl)); (try simp only [Act.put, List.setIfInBounds_toArray, List.set_cons_zero, List.set_cons_succ]))
        (refine take_at 7 (some 68) rfl rfl (by kernel_rfl) (by kernel_rfl) (by kernel_rfl) (fun _ _ _ h => h) (v := ?_) (by kernel_rfl) ?_ (by assumption) ?_; rotate_left; (focus (intro wS hSw; skip; go_simp; try with_reducible rfl)); (try simp only [Act.put, List.setIfInBounds_toArray, List.set_cons_zero, List.set_cons_succ]))
        (refine take_at 8 (some 69) rfl rfl (by kernel_rfl) (by kernel_rfl) (by kernel_rfl) (fun _ _ _ h => h) (v := ?_) (by kernel_rfl) ?_ (by assumption) ?_; rotate_left; (focus (intro wS hSw; (have qx8 := (hSw.cell (p := ⟨gP, 8, none⟩) lP id).trans x8); go_simp; try with_reducible rfl)); (try simp only [Act.put, List.setIfInBounds_toArray, List.set_cons_zero, List.set_cons_succ]))
        refine wpAnyH_ready (rs := [5, 11]) (by kernel_rfl) (by simp) ?_
        refine AllReadyH.cons rfl (fun K hK => ?_) (AllReadyH.cons rfl (fun K hK => ?_) AllReadyH.nil)
        · go_simp
          go_at_call 28
          refine (Kn7.out _).mono ?_
          rintro e u1 ⟨rfl, hp⟩
          have hn : NoW wB u1 := Fp.trans hHeld hp (fun _ _ h => h)
          clear hp hHeld
          refine hK.out _ _ hn (fun hHeld => ?_)
          clear hK K hn
          try simp only [Act.put, List.setIfInBounds_toArray, List.set_cons_zero, List.set_cons_succ]
          refine wpAnyH_ready (rs := [9, 11]) (by kernel_rfl) (by simp) ?_
          refine AllReadyH.cons rfl (fun K hK => ?_) (AllReadyH.cons rfl (fun K hK => ?_) AllReadyH.nil)
          · go_simp
            go_at_call 28
            refine (Kn8.out _).mono ?_
            rintro e u2 ⟨rfl, hp⟩
            have hn : NoW wB u2 := Fp.trans hHeld hp (fun _ _ h => h)
            clear hp hHeld
            refine hK.out _ _ hn (fun hHeld => ?_)
            clear hK K hn
            try simp only [Act.put, List.setIfInBounds_toArray, List.set_cons_zero, List.set_cons_succ]
            (refine take_at 10 (some 71) rfl rfl (by kernel_rfl) (by kernel_rfl) (by kernel_rfl) (fun _ _ _ h => h) (v := ?_) (by kernel_rfl) ?_ (by assumption) ?_; rotate_left; (focus (intro wS hSw; skip; go_simp; try with_reducible rfl)); (try simp only [Act.put, List.setIfInBounds_toArray, List.set_cons_zero, List.set_cons_succ]))
            refine wpAnyH_ready (rs := [11]) (by kernel_rfl) (by simp) ?_
            refine AllReadyH.cons rfl (fun K hK => ?_) AllReadyH.nil
            go_simp
            have hbN := heap_alloc_new u2 (.cells #[.int .u8 0, .int .u32 0, .int .u16 0, .int .u32 0, .int .u16 0, .int .u8 0, .int .u32 0, .int .u16 0, .int .u32 0, .int .u16 0, .int .i64 0, .int .i64 0, .slice none 0 0] 41)
            have hge0 : wB.heap.size ≤ u2.heap.size := hHeld.size
            refine hK.out _ _ (hHeld.alloc _) (fun hHeld2 => ?_)
            clear hK K hHeld
            try simp only [Act.put, List.setIfInBounds_toArray, List.set_cons_zero, List.set_cons_succ]
            generalize u2.alloc (.cells #[.int .u8 0, .int .u32 0, .int .u16 0, .int .u32 0, .int .u16 0, .int .u8 0, .int .u32 0, .int .u16 0, .int .u32 0, .int .u16 0, .int .i64 0, .int .i64 0, .slice none 0 0] 41) = z3 at *
            obtain ⟨gN, hgN⟩ : ∃ gN, gN = u2.heap.size := ⟨_, rfl⟩
            rw [← hgN] at hbN hge0 ⊢
            have HGgN := Lib.hid hge0
            have BgN := Lib.hid hbN
            clear hgN hge0 hbN
            have hHeld := hHeld2
            clear hHeld2
            have n0 : z3.cell? ⟨gN, 0, none⟩ = some (.int .u8 0) := by simp [World.cell?, BgN.out]
            have zn0 : z3.frozen? ⟨gN, 0, none⟩ = false := by simp [World.frozen?, BgN.out]
            have n1 : z3.cell? ⟨gN, 1, none⟩ = some (.int .u32 0) := by simp [World.cell?, BgN.out]
            have zn1 : z3.frozen? ⟨gN, 1, none⟩ = false := by simp [World.frozen?, BgN.out]
            have n2 : z3.cell? ⟨gN, 2, none⟩ = some (.int .u16 0) := by simp [World.cell?, BgN.out]
            have zn2 : z3.frozen? ⟨gN, 2, none⟩ = false := by simp [World.frozen?, BgN.out]
            have n3 : z3.cell? ⟨gN, 3, none⟩ = some (.int .u32 0) := by simp [World.cell?, BgN.out]
            have zn3 : z3.frozen? ⟨gN, 3, none⟩ = false := by simp [World.frozen?, BgN.out]
            have n4 : z3.cell? ⟨gN, 4, none⟩ = some (.int .u16 0) := by simp [World.cell?, BgN.out]
            have zn4 : z3.frozen? ⟨gN, 4, none⟩ = false := by simp [World.frozen?, BgN.out]
            have n5 : z3.cell? ⟨gN, 5, none⟩ = some (.int .u8 0) := by simp [World.cell?, BgN.out]
            have zn5 : z3.frozen? ⟨gN, 5, none⟩ = false := by simp [World.frozen?, BgN.out]
            have n6 : z3.cell? ⟨gN, 6, none⟩ = some (.int .u32 0) := by simp [World.cell?, BgN.out]
            have zn6 : z3.frozen? ⟨gN, 6, none⟩ = false := by simp [World.frozen?, BgN.out]
            have n7 : z3.cell? ⟨gN, 7, none⟩ = some (.int .u16 0) := by simp [World.cell?, BgN.out]
            have zn7 : z3.frozen? ⟨gN, 7, none⟩ = false := by simp [World.frozen?, BgN.out]
            have n8 : z3.cell? ⟨gN, 8, none⟩ = some (.int .u32 0) := by simp [World.cell?, BgN.out]
            have zn8 : z3.frozen? ⟨gN, 8, none⟩ = false := by simp [World.frozen?, BgN.out]
            have n9 : z3.cell? ⟨gN, 9, none⟩ = some (.int .u16 0) := by simp [World.cell?, BgN.out]
            have zn9 : z3.frozen? ⟨gN, 9, none⟩ = false := by simp [World.frozen?, BgN.out]
            have n10 : z3.cell? ⟨gN, 10, none⟩ = some (.int .i64 0) := by simp [World.cell?, BgN.out]
            have zn10 : z3.frozen? ⟨gN, 10, none⟩ = false := by simp [World.frozen?, BgN.out]
            have n11 : z3.cell? ⟨gN, 11, none⟩ = some (.int .i64 0) := by simp [World.cell?, BgN.out]
            have zn11 : z3.frozen? ⟨gN, 11, none⟩ = false := by simp [World.frozen?, BgN.out]
            have n12 : z3.cell? ⟨gN, 12, none⟩ = some (.slice none 0 0) := by simp [World.cell?, BgN.out]
            have zn12 : z3.frozen? ⟨gN, 12, none⟩ = false := by simp [World.frozen?, BgN.out]
            have lN := cell_lt n0
            refine wpAnyH_ready (rs := [12]) (by kernel_rfl) (by simp) ?_
            refine AllReadyH.cons rfl (fun K hK => ?_) AllReadyH.nil
            go_simp
            obtain ⟨W, hW, hb2, hf2⟩ := set13 z3 gN 41 (.int .u8 0) (.int .u32 0) (.int .u16 0) (.int .u32 0) (.int .u16 0) (.int .u8 0) (.int .u32 0) (.int .u16 0) (.int .u32 0) (.int .u16 0) (.int .i64 0) (.int .i64 0) (.slice none 0 0) BgN.out (.int .u8 r1) (.int .u32 a1) (.int .u16 b1) (.int .u32 c1) (.int .u16 d1) (.int .u8 r2) (.int .u32 a2) (.int .u16 b2) (.int .u32 c2) (.int .u16 d2) (.int .i64 st) (.int .i64 dl) (.slice none 0 0)
            rw [← hW]
            clear hW
            have hSW : NoW wB W := hHeld.trans hf2 (fun i hi e => by have h1 : i = gN := e; have h2 := HGgN.out; omega)
            refine hK.out _ _ hSW (fun hHeld3 => ?_)
            clear hK K hf2 lN n0 zn0 n1 zn1 n2 zn2 n3 zn3 n4 zn4 n5 zn5 n6 zn6 n7 zn7 n8 zn8 n9 zn9 n10 zn10 n11 zn11 n12 zn12 hHeld
            try simp only [Act.put, List.setIfInBounds_toArray, List.set_cons_zero, List.set_cons_succ]
            have hHeld := hHeld3
            refine wpAnyH_done (by kernel_rfl) ?_ _
            have HSW := Lib.hid hSW
            have HB2 := Lib.hid hb2
            clear hHeld hHeld3 hSW hb2 BgN
            go_wp2_with fail
            go_meet
            exact ⟨gN, rfl, HB2.out, HGgN.out, HSW.out⟩
          · go_simp
            have hbN := heap_alloc_new u1 (.cells #[.int .u8 0, .int .u32 0, .int .u16 0, .int .u32 0, .int .u16 0, .int .u8 0, .int .u32 0, .int .u16 0, .int .u32 0, .int .u16 0, .int .i64 0, .int .i64 0, .slice none 0 0] 41)
            have hge0 : wB.heap.size ≤ u1.heap.size := hHeld.size
            refine hK.out _ _ (hHeld.alloc _) (fun hHeld2 => ?_)
            clear hK K hHeld
            try simp only [Act.put, List.setIfInBounds_toArray, List.set_cons_zero, List.set_cons_succ]
            generalize u1.alloc (.cells #[.int .u8 0, .int .u32 0, .int .u16 0, .int .u32 0, .int .u16 0, .int .u8 0, .int .u32 0, .int .u16 0, .int .u32 0, .int .u16 0, .int .i64 0, .int .i64 0, .slice none 0 0] 41) = z2 at *
            obtain ⟨gN, hgN⟩ : ∃ gN, gN = u1.heap.size := ⟨_, rfl⟩
            rw [← hgN] at hbN hge0 ⊢
            have HGgN := Lib.hid hge0
            have BgN := Lib.hid hbN
            clear hgN hge0 hbN
            have hHeld := hHeld2
            clear hHeld2
            refine wpAnyH_ready (rs := [9]) (by kernel_rfl) (by simp) ?_
            refine AllReadyH.cons rfl (fun K hK => ?_) AllReadyH.nil
            go_simp
            go_at_call 28
            refine (Kn8.out _).mono ?_
            rintro e u3 ⟨rfl, hp⟩
            have hn : NoW wB u3 := Fp.trans hHeld hp (fun _ _ h => h)
            have hbN := (hp.block _ (Array.getElem?_eq_some_iff.1 BgN.out).1 id).trans BgN.out
            clear BgN
            have BgN := Lib.hid hbN
            clear hbN
            clear hp hHeld
            refine hK.out _ _ hn (fun hHeld => ?_)
            clear hK K hn
            try simp only [Act.put, List.setIfInBounds_toArray, List.set_cons_zero, List.set_cons_succ]
            (refine take_at 10 (some 71) rfl rfl (by kernel_rfl) (by kernel_rfl) (by kernel_rfl) (fun _ _ _ h => h) (v := ?_) (by kernel_rfl) ?_ (by assumption) ?_; rotate_left; (focus (intro wS hSw; skip; go_simp; try with_reducible rfl)); (try simp only [Act.put, List.setIfInBounds_toArray, List.set_cons_zero, List.set_cons_succ]))
            have n0 : u3.cell? ⟨gN, 0, none⟩ = some (.int .u8 0) := by simp [World.cell?, BgN.out]
            have zn0 : u3.frozen? ⟨gN, 0, none⟩ = false := by simp [World.frozen?, BgN.out]
            have n1 : u3.cell? ⟨gN, 1, none⟩ = some (.int .u32 0) := by simp [World.cell?, BgN.out]
            have zn1 : u3.frozen? ⟨gN, 1, none⟩ = false := by simp [World.frozen?, BgN.out]
            have n2 : u3.cell? ⟨gN, 2, none⟩ = some (.int .u16 0) := by simp [World.cell?, BgN.out]
            have zn2 : u3.frozen? ⟨gN, 2, none⟩ = false := by simp [World.frozen?, BgN.out]
            have n3 : u3.cell? ⟨gN, 3, none⟩ = some (.int .u32 0) := by simp [World.cell?, BgN.out]
            have zn3 : u3.frozen? ⟨gN, 3, none⟩ = false := by simp [World.frozen?, BgN.out]
            have n4 : u3.cell? ⟨gN, 4, none⟩ = some (.int .u16 0) := by simp [World.cell?, BgN.out]
            have zn4 : u3.frozen? ⟨gN, 4, none⟩ = false := by simp [World.frozen?, BgN.out]
            have n5 : u3.cell? ⟨gN, 5, none⟩ = some (.int .u8 0) := by simp [World.cell?, BgN.out]
            have zn5 : u3.frozen? ⟨gN, 5, none⟩ = false := by simp [World.frozen?, BgN.out]
            have n6 : u3.cell? ⟨gN, 6, none⟩ = some (.int .u32 0) := by simp [World.cell?, BgN.out]
            have zn6 : u3.frozen? ⟨gN, 6, none⟩ = false := by simp [World.frozen?, BgN.out]
            have n7 : u3.cell? ⟨gN, 7, none⟩ = some (.int .u16 0) := by simp [World.cell?, BgN.out]
            have zn7 : u3.frozen? ⟨gN, 7, none⟩ = false := by simp [World.frozen?, BgN.out]
            have n8 : u3.cell? ⟨gN, 8, none⟩ = some (.int .u32 0) := by simp [World.cell?, BgN.out]
            have zn8 : u3.frozen? ⟨gN, 8, none⟩ = false := by simp [World.frozen?, BgN.out]
            have n9 : u3.cell? ⟨gN, 9, none⟩ = some (.int .u16 0) := by simp [World.cell?, BgN.out]
            have zn9 : u3.frozen? ⟨gN, 9, none⟩ = false := by simp [World.frozen?, BgN.out]
            have n10 : u3.cell? ⟨gN, 10, none⟩ = some (.int .i64 0) := by simp [World.cell?, BgN.out]
            have zn10 : u3.frozen? ⟨gN, 10, none⟩ = false := by simp [World.frozen?, BgN.out]
            have n11 : u3.cell? ⟨gN, 11, none⟩ = some (.int .i64 0) := by simp [World.cell?, BgN.out]
            have zn11 : u3.frozen? ⟨gN, 11, none⟩ = false := by simp [World.frozen?, BgN.out]
            have n12 : u3.cell? ⟨gN, 12, none⟩ = some (.slice none 0 0) := by simp [World.cell?, BgN.out]
            have zn12 : u3.frozen? ⟨gN, 12, none⟩ = false := by simp [World.frozen?, BgN.out]
            have lN := cell_lt n0
            refine wpAnyH_ready (rs := [12]) (by kernel_rfl) (by simp) ?_
            refine AllReadyH.cons rfl (fun K hK => ?_) AllReadyH.nil
            go_simp
            obtain ⟨W, hW, hb2, hf2⟩ := set13 u3 gN 41 (.int .u8 0) (.int .u32 0) (.int .u16 0) (.int .u32 0) (.int .u16 0) (.int .u8 0) (.int .u32 0) (.int .u16 0) (.int .u32 0) (.int .u16 0) (.int .i64 0) (.int .i64 0) (.slice none 0 0) BgN.out (.int .u8 r1) (.int .u32 a1) (.int .u16 b1) (.int .u32 c1) (.int .u16 d1) (.int .u8 r2) (.int .u32 a2) (.int .u16 b2) (.int .u32 c2) (.int .u16 d2) (.int .i64 st) (.int .i64 dl) (.slice none 0 0)
            rw [← hW]
            clear hW
            have hSW : NoW wB W := hHeld.trans hf2 (fun i hi e => by have h1 : i = gN := e; have h2 := HGgN.out; omega)
            refine hK.out _ _ hSW (fun hHeld3 => ?_)
            clear hK K hf2 lN n0 zn0 n1 zn1 n2 zn2 n3 zn3 n4 zn4 n5 zn5 n6 zn6 n7 zn7 n8 zn8 n9 zn9 n10 zn10 n11 zn11 n12 zn12 hHeld
            try simp only [Act.put, List.setIfInBounds_toArray, List.set_cons_zero, List.set_cons_succ]
            have hHeld := hHeld3
            refine wpAnyH_done (by kernel_rfl) ?_ _
            have HSW := Lib.hid hSW
            have HB2 := Lib.hid hb2
            clear hHeld hHeld3 hSW hb2 BgN
            go_wp2_with fail
            go_meet
            exact ⟨gN, rfl, HB2.out, HGgN.out, HSW.out⟩
        · go_simp
          have hbN0 := heap_alloc_new wB (.cells #[.int .u8 0, .int .u32 0, .int .u16 0, .int .u32 0, .int .u16 0, .int .u8 0, .int .u32 0, .int .u16 0, .int .u32 0, .int .u16 0, .int .i64 0, .int .i64 0, .slice none 0 0] 41)
          have hbN : (wB.alloc (.cells #[.int .u8 0, .int .u32 0, .int .u16 0, .int .u32 0, .int .u16 0, .int .u8 0, .int .u32 0, .int .u16 0, .int .u32 0, .int .u16 0, .int .i64 0, .int .i64 0, .slice none 0 0] 41)).drew.heap[wB.heap.size]? = some (.cells #[.int .u8 0, .int .u32 0, .int .u16 0, .int .u32 0, .int .u16 0, .int .u8 0, .int .u32 0, .int .u16 0, .int .u32 0, .int .u16 0, .int .i64 0, .int .i64 0, .slice none 0 0] 41) := hbN0
          clear hbN0
          refine hK.out _ _ (show NoW wB ((wB.alloc (.cells #[.int .u8 0, .int .u32 0, .int .u16 0, .int .u32 0, .int .u16 0, .int .u8 0, .int .u32 0, .int .u16 0, .int .u32 0, .int .u16 0, .int .i64 0, .int .i64 0, .slice none 0 0] 41)).drew) from Fp.drew ((Fp.refl _ _).alloc _)) (fun hHeld2 => ?_)
          clear hK K hHeld
          try simp only [Act.put, List.setIfInBounds_toArray, List.set_cons_zero, List.set_cons_succ]
          generalize (wB.alloc (.cells #[.int .u8 0, .int .u32 0, .int .u16 0, .int .u32 0, .int .u16 0, .int .u8 0, .int .u32 0, .int .u16 0, .int .u32 0, .int .u16 0, .int .i64 0, .int .i64 0, .slice none 0 0] 41)).drew = z1 at *
          obtain ⟨gN, hgN⟩ : ∃ gN, gN = wB.heap.size := ⟨_, rfl⟩
          rw [← hgN] at hbN ⊢
          have hge : wB.heap.size ≤ gN := by omega
          have HGgN := Lib.hid hge
          have BgN := Lib.hid hbN
          clear hgN hge hbN
          have hHeld := hHeld2
          clear hHeld2
          refine wpAnyH_ready (rs := [5]) (by kernel_rfl) (by simp) ?_
          refine AllReadyH.cons rfl (fun K hK => ?_) AllReadyH.nil
          go_simp
          go_at_call 28
          refine (Kn7.out _).mono ?_
          rintro e u2 ⟨rfl, hp⟩
          have hn : NoW wB u2 := Fp.trans hHeld hp (fun _ _ h => h)
          have hbN := (hp.block _ (Array.getElem?_eq_some_iff.1 BgN.out).1 id).trans BgN.out
          clear BgN
          have BgN := Lib.hid hbN
          clear hbN
          clear hp hHeld
          refine hK.out _ _ hn (fun hHeld => ?_)
          clear hK K hn
          try simp only [Act.put, List.setIfInBounds_toArray, List.set_cons_zero, List.set_cons_succ]
          refine wpAnyH_ready (rs := [9]) (by kernel_rfl) (by simp) ?_
          refine AllReadyH.cons rfl (fun K hK => ?_) AllReadyH.nil
          go_simp
          go_at_call 28
          refine (Kn8.out _).mono ?_
          rintro e u3 ⟨rfl, hp⟩
          have hn : NoW wB u3 := Fp.trans hHeld hp (fun _ _ h => h)
          have hbN := (hp.block _ (Array.getElem?_eq_some_iff.1 BgN.out).1 id).trans BgN.out
          clear BgN
          have BgN := Lib.hid hbN
          clear hbN
          clear hp hHeld
          refine hK.out _ _ hn (fun hHeld => ?_)
          clear hK K hn
          try simp only [Act.put, List.setIfInBounds_toArray, List.set_cons_zero, List.set_cons_succ]
          (refine take_at 10 (some 71) rfl rfl (by kernel_rfl) (by kernel_rfl) (by kernel_rfl) (fun _ _ _ h => h) (v := ?_) (by kernel_rfl) ?_ (by assumption) ?_; rotate_left; (focus (intro wS hSw; skip; go_simp; try with_reducible rfl)); (try simp only [Act.put, List.setIfInBounds_toArray, List.set_cons_zero, List.set_cons_succ]))
          have n0 : u3.cell? ⟨gN, 0, none⟩ = some (.int .u8 0) := by simp [World.cell?, BgN.out]
          have zn0 : u3.frozen? ⟨gN, 0, none⟩ = false := by simp [World.frozen?, BgN.out]
          have n1 : u3.cell? ⟨gN, 1, none⟩ = some (.int .u32 0) := by simp [World.cell?, BgN.out]
          have zn1 : u3.frozen? ⟨gN, 1, none⟩ = false := by simp [World.frozen?, BgN.out]
          have n2 : u3.cell? ⟨gN, 2, none⟩ = some (.int .u16 0) := by simp [World.cell?, BgN.out]
          have zn2 : u3.frozen? ⟨gN, 2, none⟩ = false := by simp [World.frozen?, BgN.out]
          have n3 : u3.cell? ⟨gN, 3, none⟩ = some (.int .u32 0) := by simp [World.cell?, BgN.out]
          have zn3 : u3.frozen? ⟨gN, 3, none⟩ = false := by simp [World.frozen?, BgN.out]
          have n4 : u3.cell? ⟨gN, 4, none⟩ = some (.int .u16 0) := by simp [World.cell?, BgN.out]
          have zn4 : u3.frozen? ⟨gN, 4, none⟩ = false := by simp [World.frozen?, BgN.out]
          have n5 : u3.cell? ⟨gN, 5, none⟩ = some (.int .u8 0) := by simp [World.cell?, BgN.out]
          have zn5 : u3.frozen? ⟨gN, 5, none⟩ = false := by simp [World.frozen?, BgN.out]
          have n6 : u3.cell? ⟨gN, 6, none⟩ = some (.int .u32 0) := by simp [World.cell?, BgN.out]
          have zn6 : u3.frozen? ⟨gN, 6, none⟩ = false := by simp [World.frozen?, BgN.out]
          have n7 : u3.cell? ⟨gN, 7, none⟩ = some (.int .u16 0) := by simp [World.cell?, BgN.out]
          have zn7 : u3.frozen? ⟨gN, 7, none⟩ = false := by simp [World.frozen?, BgN.out]
          have n8 : u3.cell? ⟨gN, 8, none⟩ = some (.int .u32 0) := by simp [World.cell?, BgN.out]
          have zn8 : u3.frozen? ⟨gN, 8, none⟩ = false := by simp [World.frozen?, BgN.out]
          have n9 : u3.cell? ⟨gN, 9, none⟩ = some (.int .u16 0) := by simp [World.cell?, BgN.out]
          have zn9 : u3.frozen? ⟨gN, 9, none⟩ = false := by simp [World.frozen?, BgN.out]
          have n10 : u3.cell? ⟨gN, 10, none⟩ = some (.int .i64 0) := by simp [World.cell?, BgN.out]
          have zn10 : u3.frozen? ⟨gN, 10, none⟩ = false := by simp [World.frozen?, BgN.out]
          have n11 : u3.cell? ⟨gN, 11, none⟩ = some (.int .i64 0) := by simp [World.cell?, BgN.out]
          have zn11 : u3.frozen? ⟨gN, 11, none⟩ = false := by simp [World.frozen?, BgN.out]
          have n12 : u3.cell? ⟨gN, 12, none⟩ = some (.slice none 0 0) := by simp [World.cell?, BgN.out]
          have zn12 : u3.frozen? ⟨gN, 12, none⟩ = false := by simp [World.frozen?, BgN.out]
          have lN := cell_lt n0
          refine wpAnyH_ready (rs := [12]) (by kernel_rfl) (by simp) ?_
          refine AllReadyH.cons rfl (fun K hK => ?_) AllReadyH.nil
          go_simp
          obtain ⟨W, hW, hb2, hf2⟩ := set13 u3 gN 41 (.int .u8 0) (.int .u32 0) (.int .u16 0) (.int .u32 0) (.int .u16 0) (.int .u8 0) (.int .u32 0) (.int .u16 0) (.int .u32 0) (.int .u16 0) (.int .i64 0) (.int .i64 0) (.slice none 0 0) BgN.out (.int .u8 r1) (.int .u32 a1) (.int .u16 b1) (.int .u32 c1) (.int .u16 d1) (.int .u8 r2) (.int .u32 a2) (.int .u16 b2) (.int .u32 c2) (.int .u16 d2) (.int .i64 st) (.int .i64 dl) (.slice none 0 0)
          rw [← hW]
          clear hW
          have hSW : NoW wB W := hHeld.trans hf2 (fun i hi e => by have h1 : i = gN := e; have h2 := HGgN.out; omega)
          refine hK.out _ _ hSW (fun hHeld3 => ?_)
          clear hK K hf2 lN n0 zn0 n1 zn1 n2 zn2 n3 zn3 n4 zn4 n5 zn5 n6 zn6 n7 zn7 n8 zn8 n9 zn9 n10 zn10 n11 zn11 n12 zn12 hHeld
          try simp only [Act.put, List.setIfInBounds_toArray, List.set_cons_zero, List.set_cons_succ]
          have hHeld := hHeld3
          refine wpAnyH_done (by kernel_rfl) ?_ _
          have HSW := Lib.hid hSW
          have HB2 := Lib.hid hb2
          clear hHeld hHeld3 hSW hb2 BgN
          go_wp2_with fail
          go_meet
          exact ⟨gN, rfl, HB2.out, HGgN.out, HSW.out⟩
      case rest =>
        obtain ⟨gE, rfl, hbE, hgE, hnE⟩ := hcut
        generalize wc = wE at *
        have BE := Lib.hid hbE
        have hbR := (hnE.block _ (Array.getElem?_eq_some_iff.1 BR.out).1 id).trans BR.out
        have hRE : gR < gE := Nat.lt_of_lt_of_le (Array.getElem?_eq_some_iff.1 BR.out).1 hgE
        have hPE : gP < gE := Nat.lt_of_lt_of_le lP hgE
        clear BR
        have BR := Lib.hid hbR
        have WS2 := Lib.hid (show ∀ j x, (p0 :: p1 :: p2 :: p3 :: p4 :: p5 :: p6 :: p7 :: p8 :: hs)[j]? = some x → wE.cell? ⟨gP, j, none⟩ = some (str x) from fun j x hj => (hnE.cell (p := ⟨gP, j, none⟩) lP id).trans (WS.out j x hj))
        have lPA : gP < wE.heap.size := Nat.lt_of_lt_of_le lP hnE.size
        have HnE := Lib.hid (HnB.out.trans hnE (fun _ _ h => h))
        have HwE := Lib.hid (show w.heap.size ≤ gE from Nat.le_trans HnB.out.size hgE)
        clear hbE hgE hnE hbR WS lP HnB B5 B7
        have lP := lPA
        have WS := Lib.hid WS2.out
        clear lPA WS2 dd1 dd2
        go_wp2_with fail
        go_loopg [10] (hs.length + 1) (fun gg iv wx => ∃ (i : Nat) (v : Value), 9 ≤ i ∧ i ≤ 9 + hs.length ∧ gg = 10 + hs.length - i ∧ iv = .int .i64 (i : Int) ∧ wx.heap[gE]? = some (.cells #[.int .u8 r1, .int .u32 a1, .int .u16 b1, .int .u32 c1, .int .u16 d1, .int .u8 r2, .int .u32 a2, .int .u16 b2, .int .u32 c2, .int .u16 d2, .int .i64 st, .int .i64 dl, v] 41) ∧ wx.ownsRow (gE + 1) 75 4 v (i - 9) (holdsV (fun i => (F i).1) (fun i => (F i).2.1) (fun i => (F i).2.2.1) (fun i => (F i).2.2.2) (i - 9)) ∧ Fp (fun b => gE ≤ b) wE wx ∧ ∀ j, j < i - 9 → ∃ x, hs[j]? = some x ∧ holdOf x = some (F j))
        case atStart => exact ⟨9, _, by omega, by omega, by omega, rfl, BE.out, World.ownsRow_nil _ _ _ 4, Fp.refl _ _, fun j hj => by omega⟩
        case round =>
          obtain ⟨i, v, hi9, hi, hg, rfl, hb13, hown, hf, hho⟩ := hrel
          have Hg := Lib.hid hg
          have Hf := Lib.hid hf
          have Hown := Lib.hid hown
          have Hho := Lib.hid hho
          have C13 := Lib.hid hb13
          clear hg hf hown hho hb13
          have hbR := (Hf.out.block _ (Array.getElem?_eq_some_iff.1 BR.out).1 (by omega)).trans BR.out
          have CR := Lib.hid hbR
          clear hbR
          have lPr : gP < wr.heap.size := Nat.lt_of_lt_of_le lP Hf.out.size
          have hn9' := Hn9.out
          by_cases hlt : i < n9
          · obtain ⟨x, hx⟩ : ∃ x, hs[i - 9]? = some x := ⟨_, List.getElem?_eq_getElem (by omega)⟩
            have hxl : (p0 :: p1 :: p2 :: p3 :: p4 :: p5 :: p6 :: p7 :: p8 :: hs)[i]? = some x := by obtain ⟨m, rfl⟩ : ∃ m, i = m + 9 := ⟨i - 9, by omega⟩; simpa using hx
            have xc : wr.cell? ⟨gP, i, none⟩ = some (str x) := (Hf.out.cell (p := ⟨gP, i, none⟩) lP (by show ¬ gE ≤ gP; omega)).trans (WS.out i x hxl)
            have hxm : x.length ≤ 1000000 := Hlen.out x (List.mem_of_getElem? hxl)
            have hkk : decide ((i : Int) < (n9 : Int)) = true := decide_eq_true (by omega)
            have hii : (i : Int) < (n9 : Int) := by omega
            clear hn9'
            have Hx := Lib.hid hx
            clear hx hxl
            go_wp2_with fail
            go_loop [11] (fun kv => ∃ j : Nat, j ≤ x.length ∧ kv = .int .i64 (j : Int) ∧ (61 : UInt8) ∉ x.take j) (fun kv => x.length - (RowKit.intOf kv).toNat)
            case atStart => exact ⟨0, Nat.zero_le _, rfl, by simp⟩
            case round =>
              obtain ⟨j, hj, rfl, hno⟩ := hrel
              have Hno := Lib.hid hno
              clear hno
              by_cases hjl : j < x.length
              · have hszj : j < (⟨x.toArray⟩ : ByteArray).size := by simpa [ByteArray.size] using hjl
                have hat := at_list x j hjl hszj
                have hjd : decide ((j : Int) < (x.length : Int)) = true := decide_eq_true (by omega)
                by_cases hc : x[j] = 61
                · have hb : ((((⟨x.toArray⟩ : ByteArray)[j]'hszj).toNat : Int) != 61) = false := by rw [hat, hc]; rfl
                  have hb2 : ((((⟨x.toArray⟩ : ByteArray)[j]'hszj).toNat : Int) == 61) = true := by rw [hat, hc]; rfl
                  have hcut : cutFirst 61 x = some (x.take j, x.drop (j + 1)) := cutFirst_some.2 ⟨by rw [← hc, List.getElem_cons_drop, List.take_append_drop], Hno.out⟩
                  have Hcut := Lib.hid hcut
                  have hjne : ((j : Int) == (x.length : Int)) = false := by simp; omega
                  have hw1 : IntKind.i64.wrap ((j : Int) + 1) = (j : Int) + 1 := IntWalk.i64_in _ (by omega)
                  have hk0 : (0 : Int) ≤ (j : Int) + 1 ∧ (j : Int) + 1 ≤ (x.length : Int) := by omega
                  have hk1 : (0 : Int) ≤ (j : Int) ∧ (j : Int) ≤ (x.length : Int) := by omega
                  have hkt : ((j : Int) + 1).toNat = j + 1 := by omega
                  obtain ⟨ha, hp', e3, z3, hv3, hz3, hs3, hn3⟩ := pt_val (withOf 58 65535 (x.take j))
                  obtain ⟨hb', hq', e4, z4, hv4, hz4, hs4, hn4⟩ := pt_val (withOf 58 65535 (x.drop (j + 1)))
                  have k3 := fun W => rt_point (x.take j) (by simp; omega) W
                  have k4 := fun W => rt_point (x.drop (j + 1)) (by simp; omega) W
                  rw [hv3] at k3
                  rw [hv4] at k4
                  have ex3 : str (x.take j) = .string ((⟨x.toArray⟩ : ByteArray).extract 0 j) := by rw [ext_take]
                  have ex4 : str (x.drop (j + 1)) = .string ((⟨x.toArray⟩ : ByteArray).extract (j + 1) x.length) := by rw [ext_drop]
                  rw [ex3] at k3
                  rw [ex4] at k4
                  clear ex3 ex4
                  have hnone : (z3 = false ∨ z4 = false) → holdOf x = none := by
                    intro h
                    unfold holdOf
                    rw [Hcut.out]
                    dsimp only
                    rcases z3 with _ | _
                    · rw [hn3 rfl]
                    rcases z4 with _ | _
                    · rw [hn4 rfl]; rcases withOf 58 65535 (x.take j) with _ | ⟨u, v'⟩ <;> rfl
                    · simp at h
                  have hsome : z3 = true → z4 = true → holdOf x = some (ha, hp', hb', hq') := by
                    intro h1 h2
                    unfold holdOf
                    rw [Hcut.out]
                    dsimp only
                    rw [hs3 h1, hs4 h2]
                  have K3 := Lib.hid k3
                  have K4 := Lib.hid k4
                  have Hnone := Lib.hid hnone
                  have Hsome := Lib.hid hsome
                  clear k3 k4 hnone hsome hv3 hv4 hs3 hs4 hn3 hn4 hcut hat hc Hcut Hno
                  go_wp2_with fail
                  refine (K3.out _).mono ?_
                  rintro e y1 ⟨rfl, hp⟩
                  have Hp1 := Lib.hid hp
                  have xc1 : y1.cell? ⟨gP, i, none⟩ = some (str x) := (hp.cell (p := ⟨gP, i, none⟩) lPr id).trans xc
                  have lP1 : gP < y1.heap.size := Nat.lt_of_lt_of_le lPr hp.size
                  clear hp
                  go_wp2_with fail
                  have hqa : NoW y1 (y1.alloc (.cells #[.int .u32 ha, .int .u16 hp'] 26)) := (Fp.refl _ _).alloc _
                  have hba := heap_alloc_new y1 (.cells #[.int .u32 ha, .int .u16 hp'] 26)
                  have hfa := Hf.out.trans (Hp1.out.trans hqa (fun _ _ h => h)) (fun _ _ h => absurd h id)
                  generalize y1.alloc (.cells #[.int .u32 ha, .int .u16 hp'] 26) = y2 at *
                  generalize y1.heap.size = gA at *
                  clear xc1 lP1
                  have hfaN := hqa
                  clear hqa
                  refine (K4.out _).mono ?_
                  rintro e y3 ⟨rfl, hp3⟩
                  go_upto_region 17 with fail
                  have hqb : NoW y3 (y3.alloc (.cells #[.int .u32 hb', .int .u16 hq'] 26)) := (Fp.refl _ _).alloc _
                  have hbb := heap_alloc_new y3 (.cells #[.int .u32 hb', .int .u16 hq'] 26)
                  have hp : NoW y2 (y3.alloc (.cells #[.int .u32 hb', .int .u16 hq'] 26)) := hp3.trans hqb (fun _ _ h => h)
                  generalize y3.alloc (.cells #[.int .u32 hb', .int .u16 hq'] 26) = y4 at *
                  generalize y3.heap.size = gB at *
                  clear hqb hp3
                  have hba3 := (hp.block _ (Array.getElem?_eq_some_iff.1 hba).1 id).trans hba
                  have hf3 : Fp (fun b => gE ≤ b) wE y4 := hfa.trans hp (fun _ _ h => absurd h id)
                  have BA := Lib.hid hba3
                  have BB := Lib.hid hbb
                  have Hf3 := Lib.hid hf3
                  have hn13 : NoW wr y4 := (Hp1.out.trans hfaN (fun _ _ h => h)).trans hp (fun _ _ h => h)
                  have h13 := (hn13.block _ (Array.getElem?_eq_some_iff.1 C13.out).1 id).trans C13.out
                  have D13 := Lib.hid h13
                  have hRr := (hn13.block _ (Array.getElem?_eq_some_iff.1 CR.out).1 id).trans CR.out
                  have DR := Lib.hid hRr
                  have hown3 := ownsRow_of_block Hown.out fun g e => hn13.block g (World.ownsRow.lt Hown.out g e).2 id
                  have Hown3 := Lib.hid hown3
                  clear hp hba hba3 hbb hf3 hfa hfaN hn13 h13 hRr hown3 Hp1 xc lPr C13 CR Hown
                  rcases z3 with _ | _
                  · have q3 : (e3 != 0) = true := by simp [bne, hz3]
                    have yr0 : y4.cell? ⟨gR, 0, none⟩ = some (.int .u8 0) := by simp [World.cell?, DR.out]
                    have zyr0 : y4.frozen? ⟨gR, 0, none⟩ = false := by simp [World.frozen?, DR.out]
                    have yr1 : y4.cell? ⟨gR, 1, none⟩ = some (.int .u32 0) := by simp [World.cell?, DR.out]
                    have zyr1 : y4.frozen? ⟨gR, 1, none⟩ = false := by simp [World.frozen?, DR.out]
                    have yr2 : y4.cell? ⟨gR, 2, none⟩ = some (.int .u16 0) := by simp [World.cell?, DR.out]
                    have zyr2 : y4.frozen? ⟨gR, 2, none⟩ = false := by simp [World.frozen?, DR.out]
                    have yr3 : y4.cell? ⟨gR, 3, none⟩ = some (.int .u32 0) := by simp [World.cell?, DR.out]
                    have zyr3 : y4.frozen? ⟨gR, 3, none⟩ = false := by simp [World.frozen?, DR.out]
                    have yr4 : y4.cell? ⟨gR, 4, none⟩ = some (.int .u16 0) := by simp [World.cell?, DR.out]
                    have zyr4 : y4.frozen? ⟨gR, 4, none⟩ = false := by simp [World.frozen?, DR.out]
                    have yr5 : y4.cell? ⟨gR, 5, none⟩ = some (.int .u8 0) := by simp [World.cell?, DR.out]
                    have zyr5 : y4.frozen? ⟨gR, 5, none⟩ = false := by simp [World.frozen?, DR.out]
                    have yr6 : y4.cell? ⟨gR, 6, none⟩ = some (.int .u32 0) := by simp [World.cell?, DR.out]
                    have zyr6 : y4.frozen? ⟨gR, 6, none⟩ = false := by simp [World.frozen?, DR.out]
                    have yr7 : y4.cell? ⟨gR, 7, none⟩ = some (.int .u16 0) := by simp [World.cell?, DR.out]
                    have zyr7 : y4.frozen? ⟨gR, 7, none⟩ = false := by simp [World.frozen?, DR.out]
                    have yr8 : y4.cell? ⟨gR, 8, none⟩ = some (.int .u32 0) := by simp [World.cell?, DR.out]
                    have zyr8 : y4.frozen? ⟨gR, 8, none⟩ = false := by simp [World.frozen?, DR.out]
                    have yr9 : y4.cell? ⟨gR, 9, none⟩ = some (.int .u16 0) := by simp [World.cell?, DR.out]
                    have zyr9 : y4.frozen? ⟨gR, 9, none⟩ = false := by simp [World.frozen?, DR.out]
                    have yr10 : y4.cell? ⟨gR, 10, none⟩ = some (.int .i64 0) := by simp [World.cell?, DR.out]
                    have zyr10 : y4.frozen? ⟨gR, 10, none⟩ = false := by simp [World.frozen?, DR.out]
                    have yr11 : y4.cell? ⟨gR, 11, none⟩ = some (.int .i64 0) := by simp [World.cell?, DR.out]
                    have zyr11 : y4.frozen? ⟨gR, 11, none⟩ = false := by simp [World.frozen?, DR.out]
                    have yr12 : y4.cell? ⟨gR, 12, none⟩ = some (.slice none 0 0) := by simp [World.cell?, DR.out]
                    have zyr12 : y4.frozen? ⟨gR, 12, none⟩ = false := by simp [World.frozen?, DR.out]
                    have lR := cell_lt yr0
                    go_wp2_with fail
                    obtain ⟨W, hW, hb2, hf2⟩ := set13 y4 gR 41 (.int .u8 0) (.int .u32 0) (.int .u16 0) (.int .u32 0) (.int .u16 0) (.int .u8 0) (.int .u32 0) (.int .u16 0) (.int .u32 0) (.int .u16 0) (.int .i64 0) (.int .i64 0) (.slice none 0 0) DR.out (.int .u8 0) (.int .u32 0) (.int .u16 0) (.int .u32 0) (.int .u16 0) (.int .u8 0) (.int .u32 0) (.int .u16 0) (.int .u32 0) (.int .u16 0) (.int .i64 0) (.int .i64 0) (.slice none 0 0)
                    rw [← hW]
                    clear hW lR yr0 zyr0 yr1 zyr1 yr2 zyr2 yr3 zyr3 yr4 zyr4 yr5 zyr5 yr6 zyr6 yr7 zyr7 yr8 zyr8 yr9 zyr9 yr10 zyr10 yr11 zyr11 yr12 zyr12
                    have yr0 : W.cell? ⟨gR, 0, none⟩ = some (.int .u8 0) := by simp [World.cell?, hb2]
                    have yr1 : W.cell? ⟨gR, 1, none⟩ = some (.int .u32 0) := by simp [World.cell?, hb2]
                    have yr2 : W.cell? ⟨gR, 2, none⟩ = some (.int .u16 0) := by simp [World.cell?, hb2]
                    have yr3 : W.cell? ⟨gR, 3, none⟩ = some (.int .u32 0) := by simp [World.cell?, hb2]
                    have yr4 : W.cell? ⟨gR, 4, none⟩ = some (.int .u16 0) := by simp [World.cell?, hb2]
                    have yr5 : W.cell? ⟨gR, 5, none⟩ = some (.int .u8 0) := by simp [World.cell?, hb2]
                    have yr6 : W.cell? ⟨gR, 6, none⟩ = some (.int .u32 0) := by simp [World.cell?, hb2]
                    have yr7 : W.cell? ⟨gR, 7, none⟩ = some (.int .u16 0) := by simp [World.cell?, hb2]
                    have yr8 : W.cell? ⟨gR, 8, none⟩ = some (.int .u32 0) := by simp [World.cell?, hb2]
                    have yr9 : W.cell? ⟨gR, 9, none⟩ = some (.int .u16 0) := by simp [World.cell?, hb2]
                    have yr10 : W.cell? ⟨gR, 10, none⟩ = some (.int .i64 0) := by simp [World.cell?, hb2]
                    have yr11 : W.cell? ⟨gR, 11, none⟩ = some (.int .i64 0) := by simp [World.cell?, hb2]
                    have yr12 : W.cell? ⟨gR, 12, none⟩ = some (.slice none 0 0) := by simp [World.cell?, hb2]
                    have lR : gR < W.heap.size := cell_lt yr0
                    have HF := Lib.hid ((HnE.out.trans Hf3.out (fun i hi e => by have h1 : gE ≤ i := e; have h2 := HwE.out; omega)).trans hf2 (fun i hi e => by have h1 : i = gR := e; have h2 := HgR.out; omega))
                    have HNP := Lib.hid (Hnh.out _ _ Hx.out (Hnone.out (by simp)))
                    clear hf2 hb2
                    refine bodyPost_ret (v := .tuple #[.agg #[.int .u8 0, .int .u32 0, .int .u16 0, .int .u32 0, .int .u16 0, .int .u8 0, .int .u32 0, .int .u16 0, .int .u32 0, .int .u16 0, .int .i64 0, .int .i64 0, .slice none 0 0], .int .i64 3]) (by simp only [results, Tryz.results8]; go_simp) rfl ⟨HF.out, .inl ⟨rfl, HNP.out⟩⟩
                  · have q3 : (e3 != 0) = false := by simp [bne, hz3]
                    rcases z4 with _ | _
                    · have q4 : (e4 != 0) = true := by simp [bne, hz4]
                      have yr0 : y4.cell? ⟨gR, 0, none⟩ = some (.int .u8 0) := by simp [World.cell?, DR.out]
                      have zyr0 : y4.frozen? ⟨gR, 0, none⟩ = false := by simp [World.frozen?, DR.out]
                      have yr1 : y4.cell? ⟨gR, 1, none⟩ = some (.int .u32 0) := by simp [World.cell?, DR.out]
                      have zyr1 : y4.frozen? ⟨gR, 1, none⟩ = false := by simp [World.frozen?, DR.out]
                      have yr2 : y4.cell? ⟨gR, 2, none⟩ = some (.int .u16 0) := by simp [World.cell?, DR.out]
                      have zyr2 : y4.frozen? ⟨gR, 2, none⟩ = false := by simp [World.frozen?, DR.out]
                      have yr3 : y4.cell? ⟨gR, 3, none⟩ = some (.int .u32 0) := by simp [World.cell?, DR.out]
                      have zyr3 : y4.frozen? ⟨gR, 3, none⟩ = false := by simp [World.frozen?, DR.out]
                      have yr4 : y4.cell? ⟨gR, 4, none⟩ = some (.int .u16 0) := by simp [World.cell?, DR.out]
                      have zyr4 : y4.frozen? ⟨gR, 4, none⟩ = false := by simp [World.frozen?, DR.out]
                      have yr5 : y4.cell? ⟨gR, 5, none⟩ = some (.int .u8 0) := by simp [World.cell?, DR.out]
                      have zyr5 : y4.frozen? ⟨gR, 5, none⟩ = false := by simp [World.frozen?, DR.out]
                      have yr6 : y4.cell? ⟨gR, 6, none⟩ = some (.int .u32 0) := by simp [World.cell?, DR.out]
                      have zyr6 : y4.frozen? ⟨gR, 6, none⟩ = false := by simp [World.frozen?, DR.out]
                      have yr7 : y4.cell? ⟨gR, 7, none⟩ = some (.int .u16 0) := by simp [World.cell?, DR.out]
                      have zyr7 : y4.frozen? ⟨gR, 7, none⟩ = false := by simp [World.frozen?, DR.out]
                      have yr8 : y4.cell? ⟨gR, 8, none⟩ = some (.int .u32 0) := by simp [World.cell?, DR.out]
                      have zyr8 : y4.frozen? ⟨gR, 8, none⟩ = false := by simp [World.frozen?, DR.out]
                      have yr9 : y4.cell? ⟨gR, 9, none⟩ = some (.int .u16 0) := by simp [World.cell?, DR.out]
                      have zyr9 : y4.frozen? ⟨gR, 9, none⟩ = false := by simp [World.frozen?, DR.out]
                      have yr10 : y4.cell? ⟨gR, 10, none⟩ = some (.int .i64 0) := by simp [World.cell?, DR.out]
                      have zyr10 : y4.frozen? ⟨gR, 10, none⟩ = false := by simp [World.frozen?, DR.out]
                      have yr11 : y4.cell? ⟨gR, 11, none⟩ = some (.int .i64 0) := by simp [World.cell?, DR.out]
                      have zyr11 : y4.frozen? ⟨gR, 11, none⟩ = false := by simp [World.frozen?, DR.out]
                      have yr12 : y4.cell? ⟨gR, 12, none⟩ = some (.slice none 0 0) := by simp [World.cell?, DR.out]
                      have zyr12 : y4.frozen? ⟨gR, 12, none⟩ = false := by simp [World.frozen?, DR.out]
                      have lR := cell_lt yr0
                      go_wp2_with fail
                      obtain ⟨W, hW, hb2, hf2⟩ := set13 y4 gR 41 (.int .u8 0) (.int .u32 0) (.int .u16 0) (.int .u32 0) (.int .u16 0) (.int .u8 0) (.int .u32 0) (.int .u16 0) (.int .u32 0) (.int .u16 0) (.int .i64 0) (.int .i64 0) (.slice none 0 0) DR.out (.int .u8 0) (.int .u32 0) (.int .u16 0) (.int .u32 0) (.int .u16 0) (.int .u8 0) (.int .u32 0) (.int .u16 0) (.int .u32 0) (.int .u16 0) (.int .i64 0) (.int .i64 0) (.slice none 0 0)
                      rw [← hW]
                      clear hW lR yr0 zyr0 yr1 zyr1 yr2 zyr2 yr3 zyr3 yr4 zyr4 yr5 zyr5 yr6 zyr6 yr7 zyr7 yr8 zyr8 yr9 zyr9 yr10 zyr10 yr11 zyr11 yr12 zyr12
                      have yr0 : W.cell? ⟨gR, 0, none⟩ = some (.int .u8 0) := by simp [World.cell?, hb2]
                      have yr1 : W.cell? ⟨gR, 1, none⟩ = some (.int .u32 0) := by simp [World.cell?, hb2]
                      have yr2 : W.cell? ⟨gR, 2, none⟩ = some (.int .u16 0) := by simp [World.cell?, hb2]
                      have yr3 : W.cell? ⟨gR, 3, none⟩ = some (.int .u32 0) := by simp [World.cell?, hb2]
                      have yr4 : W.cell? ⟨gR, 4, none⟩ = some (.int .u16 0) := by simp [World.cell?, hb2]
                      have yr5 : W.cell? ⟨gR, 5, none⟩ = some (.int .u8 0) := by simp [World.cell?, hb2]
                      have yr6 : W.cell? ⟨gR, 6, none⟩ = some (.int .u32 0) := by simp [World.cell?, hb2]
                      have yr7 : W.cell? ⟨gR, 7, none⟩ = some (.int .u16 0) := by simp [World.cell?, hb2]
                      have yr8 : W.cell? ⟨gR, 8, none⟩ = some (.int .u32 0) := by simp [World.cell?, hb2]
                      have yr9 : W.cell? ⟨gR, 9, none⟩ = some (.int .u16 0) := by simp [World.cell?, hb2]
                      have yr10 : W.cell? ⟨gR, 10, none⟩ = some (.int .i64 0) := by simp [World.cell?, hb2]
                      have yr11 : W.cell? ⟨gR, 11, none⟩ = some (.int .i64 0) := by simp [World.cell?, hb2]
                      have yr12 : W.cell? ⟨gR, 12, none⟩ = some (.slice none 0 0) := by simp [World.cell?, hb2]
                      have lR : gR < W.heap.size := cell_lt yr0
                      have HF := Lib.hid ((HnE.out.trans Hf3.out (fun i hi e => by have h1 : gE ≤ i := e; have h2 := HwE.out; omega)).trans hf2 (fun i hi e => by have h1 : i = gR := e; have h2 := HgR.out; omega))
                      have HNP := Lib.hid (Hnh.out _ _ Hx.out (Hnone.out (by simp)))
                      clear hf2 hb2
                      refine bodyPost_ret (v := .tuple #[.agg #[.int .u8 0, .int .u32 0, .int .u16 0, .int .u32 0, .int .u16 0, .int .u8 0, .int .u32 0, .int .u16 0, .int .u32 0, .int .u16 0, .int .i64 0, .int .i64 0, .slice none 0 0], .int .i64 3]) (by simp only [results, Tryz.results8]; go_simp) rfl ⟨HF.out, .inl ⟨rfl, HNP.out⟩⟩
                    · have q4 : (e4 != 0) = false := by simp [bne, hz4]
                      have hHo := Hsome.out (by first | rfl | trivial) (by first | rfl | trivial)
                      have hFk : F (i - 9) = (ha, hp', hb', hq') := HFF.out (i - 9) x _ Hx.out hHo
                      have HFk := Lib.hid hFk
                      have HHo := Lib.hid hHo
                      clear hFk hHo
                      have k12 : y4.cell? ⟨gE, 12, none⟩ = some v := by simp [World.cell?, D13.out]
                      have lE : gE < y4.heap.size := cell_lt k12
                      have ka0 : y4.cell? ⟨gA, 0, none⟩ = some (.int .u32 ha) := by simp [World.cell?, BA.out]
                      have ka1 : y4.cell? ⟨gA, 1, none⟩ = some (.int .u16 hp') := by simp [World.cell?, BA.out]
                      have lA : gA < y4.heap.size := cell_lt ka0
                      have kb0 : y4.cell? ⟨gB, 0, none⟩ = some (.int .u32 hb') := by simp [World.cell?, BB.out]
                      have kb1 : y4.cell? ⟨gB, 1, none⟩ = some (.int .u16 hq') := by simp [World.cell?, BB.out]
                      have lB : gB < y4.heap.size := cell_lt kb0
                      go_wp2_with (at_builtin; refine wp_append1 rfl _ _ 39 rfl (gE + 1) 75 rholdZ 4 Tryz.underlying39 infoRHold rfl (by decide) v (i - 9) _ rfl (World.ownsRow.alloc Hown3.out _) y4.heap.size [.int .u32 ha, .int .u16 hp', .int .u32 hb', .int .u16 hq'] rfl rfl (heap_new _ _ _ (by simp)) ?_ ?_ ?_ ?_)
                      · first | exact ⟨rfl, rfl, rfl, rfl⟩ | (intro u hu; simp at hu; rcases hu with rfl | rfl | rfl | rfl <;> rfl)
                      · omega
                      · (try simp); omega
                      intro v2 w3 hown4 hgr3 hne3 _
                      obtain ⟨gv, cv, rfl⟩ : ∃ gv cv, v2 = .slice (some ⟨gv, 0, none⟩) (i - 9 + 1) cv := by rcases hown4.2 with ⟨_, h⟩ | ⟨g, cap, cur, e, _⟩; (omega); exact ⟨g, cap, e⟩
                      have hf4 : Fp (fun b => gE < b) y4 w3 := Fp.grown ((Fp.refl _ y4).alloc _) hgr3 (fun i e => Or.inr (by have h1 := (World.ownsRow.lt Hown3.out i e).1; omega))
                      have h13 := (hf4.block _ (Array.getElem?_eq_some_iff.1 D13.out).1 (by omega)).trans D13.out
                      have Hf4 := Lib.hid hf4
                      have E13 := Lib.hid h13
                      have Hown4 := Lib.hid hown4
                      clear hf4 h13 hown4 hgr3 hne3 k12 lE ka0 ka1 lA kb0 kb1 lB
                      have k12 : w3.cell? ⟨gE, 12, none⟩ = some v := by simp [World.cell?, E13.out]
                      have z12 : w3.frozen? ⟨gE, 12, none⟩ = false := by simp [World.frozen?, E13.out]
                      go_wp2_with fail
                      go_roundg (9 + hs.length - i)
                      case measure => have := Hg.out; omega
                      case rel =>
                        have hset := heap_set w3 gE 12 _ _ (.slice (some ⟨gv, 0, none⟩) (i - 9 + 1) cv) E13.out
                        simp only [List.setIfInBounds_toArray, List.set_cons_zero, List.set_cons_succ] at hset
                        have hrow : holdsV (fun i => (F i).1) (fun i => (F i).2.1) (fun i => (F i).2.2.1) (fun i => (F i).2.2.2) (i - 9 + 1) = holdsV (fun i => (F i).1) (fun i => (F i).2.1) (fun i => (F i).2.2.1) (fun i => (F i).2.2.2) (i - 9) ++ [.int .u32 ha, .int .u16 hp', .int .u32 hb', .int .u16 hq'] := by rw [holdsV_succ]; simp only [holdV, HFk.out]
                        have e9 : i + 1 - 9 = i - 9 + 1 := by omega
                        have hn9' := Hn9.out
                        have hgg := Hg.out
                        refine ⟨i + 1, _, by omega, by omega, by omega, by go_num, hset, ?_, ?_, ?_⟩
                        · rw [e9, hrow]; exact ownsRow_of_block Hown4.out fun g e => heap_set_other w3 gE g 12 _ (by have := (World.ownsRow.lt Hown4.out g e).1; omega)
                        · exact (Hf3.out.trans Hf4.out (fun i hi e => Nat.le_of_lt e)).setCell (p := ⟨gE, 12, none⟩) (Or.inr (Nat.le_refl _)) _
                        · intro j hj
                          by_cases e : j = i - 9
                          · rw [e, HFk.out]; exact ⟨x, Hx.out, HHo.out⟩
                          · exact Hho.out j (by omega)
                · have hb : ((((⟨x.toArray⟩ : ByteArray)[j]'hszj).toNat : Int) != 61) = true := by
                    rw [hat, bne_iff_ne]
                    intro e
                    exact hc (UInt8.toNat_inj.1 (by show (x[j]).toNat = 61; omega))
                  have hb2 : ((((⟨x.toArray⟩ : ByteArray)[j]'hszj).toNat : Int) == 61) = false := by
                    rw [hat, beq_eq_false_iff_ne]
                    intro e
                    exact hc (UInt8.toNat_inj.1 (by show (x[j]).toNat = 61; omega))
                  clear hat
                  go_wp2_with fail
                  go_round
                  case rel =>
                    refine ⟨j + 1, by omega, by go_num, ?_⟩
                    rw [List.take_succ_eq_append_getElem hjl, List.mem_append, List.mem_singleton]
                    rintro (h | h)
                    · exact Hno.out h
                    · exact hc h.symm
                  case measure => simp [RowKit.intOf]; omega
              · obtain rfl : j = x.length := by omega
                have hjd : decide ((x.length : Int) < (x.length : Int)) = false := by simp
                have hnone : holdOf x = none := by
                  unfold holdOf
                  rw [cutFirst_none.2 (by have := Hno.out; rwa [List.take_length] at this)]
                have Hnone := Lib.hid hnone
                clear hnone
                have yr0 : wr.cell? ⟨gR, 0, none⟩ = some (.int .u8 0) := by simp [World.cell?, CR.out]
                have zyr0 : wr.frozen? ⟨gR, 0, none⟩ = false := by simp [World.frozen?, CR.out]
                have yr1 : wr.cell? ⟨gR, 1, none⟩ = some (.int .u32 0) := by simp [World.cell?, CR.out]
                have zyr1 : wr.frozen? ⟨gR, 1, none⟩ = false := by simp [World.frozen?, CR.out]
                have yr2 : wr.cell? ⟨gR, 2, none⟩ = some (.int .u16 0) := by simp [World.cell?, CR.out]
                have zyr2 : wr.frozen? ⟨gR, 2, none⟩ = false := by simp [World.frozen?, CR.out]
                have yr3 : wr.cell? ⟨gR, 3, none⟩ = some (.int .u32 0) := by simp [World.cell?, CR.out]
                have zyr3 : wr.frozen? ⟨gR, 3, none⟩ = false := by simp [World.frozen?, CR.out]
                have yr4 : wr.cell? ⟨gR, 4, none⟩ = some (.int .u16 0) := by simp [World.cell?, CR.out]
                have zyr4 : wr.frozen? ⟨gR, 4, none⟩ = false := by simp [World.frozen?, CR.out]
                have yr5 : wr.cell? ⟨gR, 5, none⟩ = some (.int .u8 0) := by simp [World.cell?, CR.out]
                have zyr5 : wr.frozen? ⟨gR, 5, none⟩ = false := by simp [World.frozen?, CR.out]
                have yr6 : wr.cell? ⟨gR, 6, none⟩ = some (.int .u32 0) := by simp [World.cell?, CR.out]
                have zyr6 : wr.frozen? ⟨gR, 6, none⟩ = false := by simp [World.frozen?, CR.out]
                have yr7 : wr.cell? ⟨gR, 7, none⟩ = some (.int .u16 0) := by simp [World.cell?, CR.out]
                have zyr7 : wr.frozen? ⟨gR, 7, none⟩ = false := by simp [World.frozen?, CR.out]
                have yr8 : wr.cell? ⟨gR, 8, none⟩ = some (.int .u32 0) := by simp [World.cell?, CR.out]
                have zyr8 : wr.frozen? ⟨gR, 8, none⟩ = false := by simp [World.frozen?, CR.out]
                have yr9 : wr.cell? ⟨gR, 9, none⟩ = some (.int .u16 0) := by simp [World.cell?, CR.out]
                have zyr9 : wr.frozen? ⟨gR, 9, none⟩ = false := by simp [World.frozen?, CR.out]
                have yr10 : wr.cell? ⟨gR, 10, none⟩ = some (.int .i64 0) := by simp [World.cell?, CR.out]
                have zyr10 : wr.frozen? ⟨gR, 10, none⟩ = false := by simp [World.frozen?, CR.out]
                have yr11 : wr.cell? ⟨gR, 11, none⟩ = some (.int .i64 0) := by simp [World.cell?, CR.out]
                have zyr11 : wr.frozen? ⟨gR, 11, none⟩ = false := by simp [World.frozen?, CR.out]
                have yr12 : wr.cell? ⟨gR, 12, none⟩ = some (.slice none 0 0) := by simp [World.cell?, CR.out]
                have zyr12 : wr.frozen? ⟨gR, 12, none⟩ = false := by simp [World.frozen?, CR.out]
                have lR := cell_lt yr0
                go_wp2_with fail
                obtain ⟨W, hW, hb2, hf2⟩ := set13 wr gR 41 (.int .u8 0) (.int .u32 0) (.int .u16 0) (.int .u32 0) (.int .u16 0) (.int .u8 0) (.int .u32 0) (.int .u16 0) (.int .u32 0) (.int .u16 0) (.int .i64 0) (.int .i64 0) (.slice none 0 0) CR.out (.int .u8 0) (.int .u32 0) (.int .u16 0) (.int .u32 0) (.int .u16 0) (.int .u8 0) (.int .u32 0) (.int .u16 0) (.int .u32 0) (.int .u16 0) (.int .i64 0) (.int .i64 0) (.slice none 0 0)
                rw [← hW]
                clear hW lR yr0 zyr0 yr1 zyr1 yr2 zyr2 yr3 zyr3 yr4 zyr4 yr5 zyr5 yr6 zyr6 yr7 zyr7 yr8 zyr8 yr9 zyr9 yr10 zyr10 yr11 zyr11 yr12 zyr12
                have yr0 : W.cell? ⟨gR, 0, none⟩ = some (.int .u8 0) := by simp [World.cell?, hb2]
                have yr1 : W.cell? ⟨gR, 1, none⟩ = some (.int .u32 0) := by simp [World.cell?, hb2]
                have yr2 : W.cell? ⟨gR, 2, none⟩ = some (.int .u16 0) := by simp [World.cell?, hb2]
                have yr3 : W.cell? ⟨gR, 3, none⟩ = some (.int .u32 0) := by simp [World.cell?, hb2]
                have yr4 : W.cell? ⟨gR, 4, none⟩ = some (.int .u16 0) := by simp [World.cell?, hb2]
                have yr5 : W.cell? ⟨gR, 5, none⟩ = some (.int .u8 0) := by simp [World.cell?, hb2]
                have yr6 : W.cell? ⟨gR, 6, none⟩ = some (.int .u32 0) := by simp [World.cell?, hb2]
                have yr7 : W.cell? ⟨gR, 7, none⟩ = some (.int .u16 0) := by simp [World.cell?, hb2]
                have yr8 : W.cell? ⟨gR, 8, none⟩ = some (.int .u32 0) := by simp [World.cell?, hb2]
                have yr9 : W.cell? ⟨gR, 9, none⟩ = some (.int .u16 0) := by simp [World.cell?, hb2]
                have yr10 : W.cell? ⟨gR, 10, none⟩ = some (.int .i64 0) := by simp [World.cell?, hb2]
                have yr11 : W.cell? ⟨gR, 11, none⟩ = some (.int .i64 0) := by simp [World.cell?, hb2]
                have yr12 : W.cell? ⟨gR, 12, none⟩ = some (.slice none 0 0) := by simp [World.cell?, hb2]
                have lR : gR < W.heap.size := cell_lt yr0
                have HF := Lib.hid ((HnE.out.trans Hf.out (fun i hi e => by have h1 : gE ≤ i := e; have h2 := HwE.out; omega)).trans hf2 (fun i hi e => by have h1 : i = gR := e; have h2 := HgR.out; omega))
                have HNP := Lib.hid (Hnh.out _ _ Hx.out Hnone.out)
                clear hf2 hb2
                refine bodyPost_ret (v := .tuple #[.agg #[.int .u8 0, .int .u32 0, .int .u16 0, .int .u32 0, .int .u16 0, .int .u8 0, .int .u32 0, .int .u16 0, .int .u32 0, .int .u16 0, .int .i64 0, .int .i64 0, .slice none 0 0], .int .i64 3]) (by simp only [results, Tryz.results8]; go_simp) rfl ⟨HF.out, .inl ⟨rfl, HNP.out⟩⟩
          · have hin : i = 9 + hs.length := by omega
            have hi9l : i - 9 = hs.length := by omega
            rw [hi9l] at Hown Hho
            have hkk : decide ((i : Int) < (n9 : Int)) = false := decide_eq_false (by omega)
            clear hn9'
            have HnR := Lib.hid (HnE.out.trans Hf.out (fun i hi e => by have h1 : gE ≤ i := e; have h2 := HwE.out; omega))
            rcases z1 with _ | _
            · have q1 : (e1 != 0) = true := by simp [bne, hz1]
              have yr0 : wr.cell? ⟨gR, 0, none⟩ = some (.int .u8 0) := by simp [World.cell?, CR.out]
              have zyr0 : wr.frozen? ⟨gR, 0, none⟩ = false := by simp [World.frozen?, CR.out]
              have yr1 : wr.cell? ⟨gR, 1, none⟩ = some (.int .u32 0) := by simp [World.cell?, CR.out]
              have zyr1 : wr.frozen? ⟨gR, 1, none⟩ = false := by simp [World.frozen?, CR.out]
              have yr2 : wr.cell? ⟨gR, 2, none⟩ = some (.int .u16 0) := by simp [World.cell?, CR.out]
              have zyr2 : wr.frozen? ⟨gR, 2, none⟩ = false := by simp [World.frozen?, CR.out]
              have yr3 : wr.cell? ⟨gR, 3, none⟩ = some (.int .u32 0) := by simp [World.cell?, CR.out]
              have zyr3 : wr.frozen? ⟨gR, 3, none⟩ = false := by simp [World.frozen?, CR.out]
              have yr4 : wr.cell? ⟨gR, 4, none⟩ = some (.int .u16 0) := by simp [World.cell?, CR.out]
              have zyr4 : wr.frozen? ⟨gR, 4, none⟩ = false := by simp [World.frozen?, CR.out]
              have yr5 : wr.cell? ⟨gR, 5, none⟩ = some (.int .u8 0) := by simp [World.cell?, CR.out]
              have zyr5 : wr.frozen? ⟨gR, 5, none⟩ = false := by simp [World.frozen?, CR.out]
              have yr6 : wr.cell? ⟨gR, 6, none⟩ = some (.int .u32 0) := by simp [World.cell?, CR.out]
              have zyr6 : wr.frozen? ⟨gR, 6, none⟩ = false := by simp [World.frozen?, CR.out]
              have yr7 : wr.cell? ⟨gR, 7, none⟩ = some (.int .u16 0) := by simp [World.cell?, CR.out]
              have zyr7 : wr.frozen? ⟨gR, 7, none⟩ = false := by simp [World.frozen?, CR.out]
              have yr8 : wr.cell? ⟨gR, 8, none⟩ = some (.int .u32 0) := by simp [World.cell?, CR.out]
              have zyr8 : wr.frozen? ⟨gR, 8, none⟩ = false := by simp [World.frozen?, CR.out]
              have yr9 : wr.cell? ⟨gR, 9, none⟩ = some (.int .u16 0) := by simp [World.cell?, CR.out]
              have zyr9 : wr.frozen? ⟨gR, 9, none⟩ = false := by simp [World.frozen?, CR.out]
              have yr10 : wr.cell? ⟨gR, 10, none⟩ = some (.int .i64 0) := by simp [World.cell?, CR.out]
              have zyr10 : wr.frozen? ⟨gR, 10, none⟩ = false := by simp [World.frozen?, CR.out]
              have yr11 : wr.cell? ⟨gR, 11, none⟩ = some (.int .i64 0) := by simp [World.cell?, CR.out]
              have zyr11 : wr.frozen? ⟨gR, 11, none⟩ = false := by simp [World.frozen?, CR.out]
              have yr12 : wr.cell? ⟨gR, 12, none⟩ = some (.slice none 0 0) := by simp [World.cell?, CR.out]
              have zyr12 : wr.frozen? ⟨gR, 12, none⟩ = false := by simp [World.frozen?, CR.out]
              have lR := cell_lt yr0
              go_wp2_with fail
              obtain ⟨W, hW, hb2, hf2⟩ := set13 wr gR 41 (.int .u8 0) (.int .u32 0) (.int .u16 0) (.int .u32 0) (.int .u16 0) (.int .u8 0) (.int .u32 0) (.int .u16 0) (.int .u32 0) (.int .u16 0) (.int .i64 0) (.int .i64 0) (.slice none 0 0) CR.out (.int .u8 0) (.int .u32 0) (.int .u16 0) (.int .u32 0) (.int .u16 0) (.int .u8 0) (.int .u32 0) (.int .u16 0) (.int .u32 0) (.int .u16 0) (.int .i64 0) (.int .i64 0) (.slice none 0 0)
              rw [← hW]
              clear hW lR yr0 zyr0 yr1 zyr1 yr2 zyr2 yr3 zyr3 yr4 zyr4 yr5 zyr5 yr6 zyr6 yr7 zyr7 yr8 zyr8 yr9 zyr9 yr10 zyr10 yr11 zyr11 yr12 zyr12
              have yr0 : W.cell? ⟨gR, 0, none⟩ = some (.int .u8 0) := by simp [World.cell?, hb2]
              have yr1 : W.cell? ⟨gR, 1, none⟩ = some (.int .u32 0) := by simp [World.cell?, hb2]
              have yr2 : W.cell? ⟨gR, 2, none⟩ = some (.int .u16 0) := by simp [World.cell?, hb2]
              have yr3 : W.cell? ⟨gR, 3, none⟩ = some (.int .u32 0) := by simp [World.cell?, hb2]
              have yr4 : W.cell? ⟨gR, 4, none⟩ = some (.int .u16 0) := by simp [World.cell?, hb2]
              have yr5 : W.cell? ⟨gR, 5, none⟩ = some (.int .u8 0) := by simp [World.cell?, hb2]
              have yr6 : W.cell? ⟨gR, 6, none⟩ = some (.int .u32 0) := by simp [World.cell?, hb2]
              have yr7 : W.cell? ⟨gR, 7, none⟩ = some (.int .u16 0) := by simp [World.cell?, hb2]
              have yr8 : W.cell? ⟨gR, 8, none⟩ = some (.int .u32 0) := by simp [World.cell?, hb2]
              have yr9 : W.cell? ⟨gR, 9, none⟩ = some (.int .u16 0) := by simp [World.cell?, hb2]
              have yr10 : W.cell? ⟨gR, 10, none⟩ = some (.int .i64 0) := by simp [World.cell?, hb2]
              have yr11 : W.cell? ⟨gR, 11, none⟩ = some (.int .i64 0) := by simp [World.cell?, hb2]
              have yr12 : W.cell? ⟨gR, 12, none⟩ = some (.slice none 0 0) := by simp [World.cell?, hb2]
              have lR : gR < W.heap.size := cell_lt yr0
              have HF := Lib.hid ((HnR.out).trans hf2 (fun i hi e => by have h1 : i = gR := e; have h2 := HgR.out; omega))
              have HNP := Lib.hid (N1.out (by first | rfl | trivial))
              clear hf2 hb2
              refine bodyPost_ret (v := .tuple #[.agg #[.int .u8 0, .int .u32 0, .int .u16 0, .int .u32 0, .int .u16 0, .int .u8 0, .int .u32 0, .int .u16 0, .int .u32 0, .int .u16 0, .int .i64 0, .int .i64 0, .slice none 0 0], .int .i64 3]) (by simp only [results, Tryz.results8]; go_simp) rfl ⟨HF.out, .inl ⟨rfl, HNP.out⟩⟩
            · have q1 : (e1 != 0) = false := by simp [bne, hz1]
              rcases z2 with _ | _
              · have q2 : (e2 != 0) = true := by simp [bne, hz2]
                have yr0 : wr.cell? ⟨gR, 0, none⟩ = some (.int .u8 0) := by simp [World.cell?, CR.out]
                have zyr0 : wr.frozen? ⟨gR, 0, none⟩ = false := by simp [World.frozen?, CR.out]
                have yr1 : wr.cell? ⟨gR, 1, none⟩ = some (.int .u32 0) := by simp [World.cell?, CR.out]
                have zyr1 : wr.frozen? ⟨gR, 1, none⟩ = false := by simp [World.frozen?, CR.out]
                have yr2 : wr.cell? ⟨gR, 2, none⟩ = some (.int .u16 0) := by simp [World.cell?, CR.out]
                have zyr2 : wr.frozen? ⟨gR, 2, none⟩ = false := by simp [World.frozen?, CR.out]
                have yr3 : wr.cell? ⟨gR, 3, none⟩ = some (.int .u32 0) := by simp [World.cell?, CR.out]
                have zyr3 : wr.frozen? ⟨gR, 3, none⟩ = false := by simp [World.frozen?, CR.out]
                have yr4 : wr.cell? ⟨gR, 4, none⟩ = some (.int .u16 0) := by simp [World.cell?, CR.out]
                have zyr4 : wr.frozen? ⟨gR, 4, none⟩ = false := by simp [World.frozen?, CR.out]
                have yr5 : wr.cell? ⟨gR, 5, none⟩ = some (.int .u8 0) := by simp [World.cell?, CR.out]
                have zyr5 : wr.frozen? ⟨gR, 5, none⟩ = false := by simp [World.frozen?, CR.out]
                have yr6 : wr.cell? ⟨gR, 6, none⟩ = some (.int .u32 0) := by simp [World.cell?, CR.out]
                have zyr6 : wr.frozen? ⟨gR, 6, none⟩ = false := by simp [World.frozen?, CR.out]
                have yr7 : wr.cell? ⟨gR, 7, none⟩ = some (.int .u16 0) := by simp [World.cell?, CR.out]
                have zyr7 : wr.frozen? ⟨gR, 7, none⟩ = false := by simp [World.frozen?, CR.out]
                have yr8 : wr.cell? ⟨gR, 8, none⟩ = some (.int .u32 0) := by simp [World.cell?, CR.out]
                have zyr8 : wr.frozen? ⟨gR, 8, none⟩ = false := by simp [World.frozen?, CR.out]
                have yr9 : wr.cell? ⟨gR, 9, none⟩ = some (.int .u16 0) := by simp [World.cell?, CR.out]
                have zyr9 : wr.frozen? ⟨gR, 9, none⟩ = false := by simp [World.frozen?, CR.out]
                have yr10 : wr.cell? ⟨gR, 10, none⟩ = some (.int .i64 0) := by simp [World.cell?, CR.out]
                have zyr10 : wr.frozen? ⟨gR, 10, none⟩ = false := by simp [World.frozen?, CR.out]
                have yr11 : wr.cell? ⟨gR, 11, none⟩ = some (.int .i64 0) := by simp [World.cell?, CR.out]
                have zyr11 : wr.frozen? ⟨gR, 11, none⟩ = false := by simp [World.frozen?, CR.out]
                have yr12 : wr.cell? ⟨gR, 12, none⟩ = some (.slice none 0 0) := by simp [World.cell?, CR.out]
                have zyr12 : wr.frozen? ⟨gR, 12, none⟩ = false := by simp [World.frozen?, CR.out]
                have lR := cell_lt yr0
                go_wp2_with fail
                obtain ⟨W, hW, hb2, hf2⟩ := set13 wr gR 41 (.int .u8 0) (.int .u32 0) (.int .u16 0) (.int .u32 0) (.int .u16 0) (.int .u8 0) (.int .u32 0) (.int .u16 0) (.int .u32 0) (.int .u16 0) (.int .i64 0) (.int .i64 0) (.slice none 0 0) CR.out (.int .u8 0) (.int .u32 0) (.int .u16 0) (.int .u32 0) (.int .u16 0) (.int .u8 0) (.int .u32 0) (.int .u16 0) (.int .u32 0) (.int .u16 0) (.int .i64 0) (.int .i64 0) (.slice none 0 0)
                rw [← hW]
                clear hW lR yr0 zyr0 yr1 zyr1 yr2 zyr2 yr3 zyr3 yr4 zyr4 yr5 zyr5 yr6 zyr6 yr7 zyr7 yr8 zyr8 yr9 zyr9 yr10 zyr10 yr11 zyr11 yr12 zyr12
                have yr0 : W.cell? ⟨gR, 0, none⟩ = some (.int .u8 0) := by simp [World.cell?, hb2]
                have yr1 : W.cell? ⟨gR, 1, none⟩ = some (.int .u32 0) := by simp [World.cell?, hb2]
                have yr2 : W.cell? ⟨gR, 2, none⟩ = some (.int .u16 0) := by simp [World.cell?, hb2]
                have yr3 : W.cell? ⟨gR, 3, none⟩ = some (.int .u32 0) := by simp [World.cell?, hb2]
                have yr4 : W.cell? ⟨gR, 4, none⟩ = some (.int .u16 0) := by simp [World.cell?, hb2]
                have yr5 : W.cell? ⟨gR, 5, none⟩ = some (.int .u8 0) := by simp [World.cell?, hb2]
                have yr6 : W.cell? ⟨gR, 6, none⟩ = some (.int .u32 0) := by simp [World.cell?, hb2]
                have yr7 : W.cell? ⟨gR, 7, none⟩ = some (.int .u16 0) := by simp [World.cell?, hb2]
                have yr8 : W.cell? ⟨gR, 8, none⟩ = some (.int .u32 0) := by simp [World.cell?, hb2]
                have yr9 : W.cell? ⟨gR, 9, none⟩ = some (.int .u16 0) := by simp [World.cell?, hb2]
                have yr10 : W.cell? ⟨gR, 10, none⟩ = some (.int .i64 0) := by simp [World.cell?, hb2]
                have yr11 : W.cell? ⟨gR, 11, none⟩ = some (.int .i64 0) := by simp [World.cell?, hb2]
                have yr12 : W.cell? ⟨gR, 12, none⟩ = some (.slice none 0 0) := by simp [World.cell?, hb2]
                have lR : gR < W.heap.size := cell_lt yr0
                have HF := Lib.hid ((HnR.out).trans hf2 (fun i hi e => by have h1 : i = gR := e; have h2 := HgR.out; omega))
                have HNP := Lib.hid (N2.out (by first | rfl | trivial))
                clear hf2 hb2
                refine bodyPost_ret (v := .tuple #[.agg #[.int .u8 0, .int .u32 0, .int .u16 0, .int .u32 0, .int .u16 0, .int .u8 0, .int .u32 0, .int .u16 0, .int .u32 0, .int .u16 0, .int .i64 0, .int .i64 0, .slice none 0 0], .int .i64 3]) (by simp only [results, Tryz.results8]; go_simp) rfl ⟨HF.out, .inl ⟨rfl, HNP.out⟩⟩
              · have q2 : (e2 != 0) = false := by simp [bne, hz2]
                obtain ⟨gv, cv, rfl, hcv, hgv, hhv⟩ := holds_of_ownR Hown.out (holdsV_one _ _ _ _ _) (fun e => by rcases Hown.out.2 with ⟨_, h⟩ | ⟨g, cap, cur, e2, _⟩; (omega); (rw [e2] at e; cases e))
                have Hhv := Lib.hid hhv
                have Hcv := Lib.hid hcv
                have HgvE := Lib.hid hgv
                clear hhv hcv hgv Hown
                obtain ⟨hr1, hr2⟩ := Hrd.out (Hs1.out (by first | rfl | trivial)) (Hs2.out (by first | rfl | trivial)) Hho.out
                have f0 : wr.cell? ⟨gE, 0, none⟩ = some (.int .u8 r1) := by simp [World.cell?, C13.out]
                have f1 : wr.cell? ⟨gE, 1, none⟩ = some (.int .u32 a1) := by simp [World.cell?, C13.out]
                have f2 : wr.cell? ⟨gE, 2, none⟩ = some (.int .u16 b1) := by simp [World.cell?, C13.out]
                have f3 : wr.cell? ⟨gE, 3, none⟩ = some (.int .u32 c1) := by simp [World.cell?, C13.out]
                have f4 : wr.cell? ⟨gE, 4, none⟩ = some (.int .u16 d1) := by simp [World.cell?, C13.out]
                have f5 : wr.cell? ⟨gE, 5, none⟩ = some (.int .u8 r2) := by simp [World.cell?, C13.out]
                have f6 : wr.cell? ⟨gE, 6, none⟩ = some (.int .u32 a2) := by simp [World.cell?, C13.out]
                have f7 : wr.cell? ⟨gE, 7, none⟩ = some (.int .u16 b2) := by simp [World.cell?, C13.out]
                have f8 : wr.cell? ⟨gE, 8, none⟩ = some (.int .u32 c2) := by simp [World.cell?, C13.out]
                have f9 : wr.cell? ⟨gE, 9, none⟩ = some (.int .u16 d2) := by simp [World.cell?, C13.out]
                have f10 : wr.cell? ⟨gE, 10, none⟩ = some (.int .i64 st) := by simp [World.cell?, C13.out]
                have f11 : wr.cell? ⟨gE, 11, none⟩ = some (.int .i64 dl) := by simp [World.cell?, C13.out]
                have f12 : wr.cell? ⟨gE, 12, none⟩ = some (.slice (some ⟨gv, 0, none⟩) hs.length cv) := by simp [World.cell?, C13.out]
                have lE := cell_lt f0
                rcases hchk : chkB r1 b1 d1 r2 b2 d2 (decide (r1 = r2 ∧ a1 = a2 ∧ b1 = b2 ∧ c1 = c2 ∧ d1 = d2)) st dl hs.length with _ | _
                · have np := hr1 hchk
                  go_wp2_with fail
                  clear lE f0 f1 f2 f3 f4 f5 f6 f7 f8 f9 f10 f11 f12
                  refine (rtext_bad r1 a1 b1 c1 d1 r2 a2 b2 c2 d2 st dl (some ⟨gv, 0, none⟩) hs.length cv hchk _).mono ?_
                  rintro e w9 ⟨rfl, hp⟩
                  have hl0 : l ≠ [] := fun e => by have h := Hps.out; rw [e] at h; cases h
                  have hl1 : (([] : List UInt8) == l) = false := beq_eq_false_iff_ne.2 (fun e => hl0 e.symm)
                  have hl2 : (([] : List UInt8) != l) = true := by simp [bne, hl1]
                  have HB9 := Lib.hid ((hp.block _ (Array.getElem?_eq_some_iff.1 CR.out).1 id).trans CR.out)
                  have HN9 := Lib.hid (HnR.out.trans hp (fun _ _ h => h))
                  have HNP9 := Lib.hid np
                  clear hp hl0 np hr1 hr2
                  have yr0 : w9.cell? ⟨gR, 0, none⟩ = some (.int .u8 0) := by simp [World.cell?, HB9.out]
                  have zyr0 : w9.frozen? ⟨gR, 0, none⟩ = false := by simp [World.frozen?, HB9.out]
                  have yr1 : w9.cell? ⟨gR, 1, none⟩ = some (.int .u32 0) := by simp [World.cell?, HB9.out]
                  have zyr1 : w9.frozen? ⟨gR, 1, none⟩ = false := by simp [World.frozen?, HB9.out]
                  have yr2 : w9.cell? ⟨gR, 2, none⟩ = some (.int .u16 0) := by simp [World.cell?, HB9.out]
                  have zyr2 : w9.frozen? ⟨gR, 2, none⟩ = false := by simp [World.frozen?, HB9.out]
                  have yr3 : w9.cell? ⟨gR, 3, none⟩ = some (.int .u32 0) := by simp [World.cell?, HB9.out]
                  have zyr3 : w9.frozen? ⟨gR, 3, none⟩ = false := by simp [World.frozen?, HB9.out]
                  have yr4 : w9.cell? ⟨gR, 4, none⟩ = some (.int .u16 0) := by simp [World.cell?, HB9.out]
                  have zyr4 : w9.frozen? ⟨gR, 4, none⟩ = false := by simp [World.frozen?, HB9.out]
                  have yr5 : w9.cell? ⟨gR, 5, none⟩ = some (.int .u8 0) := by simp [World.cell?, HB9.out]
                  have zyr5 : w9.frozen? ⟨gR, 5, none⟩ = false := by simp [World.frozen?, HB9.out]
                  have yr6 : w9.cell? ⟨gR, 6, none⟩ = some (.int .u32 0) := by simp [World.cell?, HB9.out]
                  have zyr6 : w9.frozen? ⟨gR, 6, none⟩ = false := by simp [World.frozen?, HB9.out]
                  have yr7 : w9.cell? ⟨gR, 7, none⟩ = some (.int .u16 0) := by simp [World.cell?, HB9.out]
                  have zyr7 : w9.frozen? ⟨gR, 7, none⟩ = false := by simp [World.frozen?, HB9.out]
                  have yr8 : w9.cell? ⟨gR, 8, none⟩ = some (.int .u32 0) := by simp [World.cell?, HB9.out]
                  have zyr8 : w9.frozen? ⟨gR, 8, none⟩ = false := by simp [World.frozen?, HB9.out]
                  have yr9 : w9.cell? ⟨gR, 9, none⟩ = some (.int .u16 0) := by simp [World.cell?, HB9.out]
                  have zyr9 : w9.frozen? ⟨gR, 9, none⟩ = false := by simp [World.frozen?, HB9.out]
                  have yr10 : w9.cell? ⟨gR, 10, none⟩ = some (.int .i64 0) := by simp [World.cell?, HB9.out]
                  have zyr10 : w9.frozen? ⟨gR, 10, none⟩ = false := by simp [World.frozen?, HB9.out]
                  have yr11 : w9.cell? ⟨gR, 11, none⟩ = some (.int .i64 0) := by simp [World.cell?, HB9.out]
                  have zyr11 : w9.frozen? ⟨gR, 11, none⟩ = false := by simp [World.frozen?, HB9.out]
                  have yr12 : w9.cell? ⟨gR, 12, none⟩ = some (.slice none 0 0) := by simp [World.cell?, HB9.out]
                  have zyr12 : w9.frozen? ⟨gR, 12, none⟩ = false := by simp [World.frozen?, HB9.out]
                  have lR := cell_lt yr0
                  go_wp2_with fail
                  obtain ⟨W, hW, hb2, hf2⟩ := set13 w9 gR 41 (.int .u8 0) (.int .u32 0) (.int .u16 0) (.int .u32 0) (.int .u16 0) (.int .u8 0) (.int .u32 0) (.int .u16 0) (.int .u32 0) (.int .u16 0) (.int .i64 0) (.int .i64 0) (.slice none 0 0) HB9.out (.int .u8 0) (.int .u32 0) (.int .u16 0) (.int .u32 0) (.int .u16 0) (.int .u8 0) (.int .u32 0) (.int .u16 0) (.int .u32 0) (.int .u16 0) (.int .i64 0) (.int .i64 0) (.slice none 0 0)
                  rw [← hW]
                  clear hW lR yr0 zyr0 yr1 zyr1 yr2 zyr2 yr3 zyr3 yr4 zyr4 yr5 zyr5 yr6 zyr6 yr7 zyr7 yr8 zyr8 yr9 zyr9 yr10 zyr10 yr11 zyr11 yr12 zyr12
                  have yr0 : W.cell? ⟨gR, 0, none⟩ = some (.int .u8 0) := by simp [World.cell?, hb2]
                  have yr1 : W.cell? ⟨gR, 1, none⟩ = some (.int .u32 0) := by simp [World.cell?, hb2]
                  have yr2 : W.cell? ⟨gR, 2, none⟩ = some (.int .u16 0) := by simp [World.cell?, hb2]
                  have yr3 : W.cell? ⟨gR, 3, none⟩ = some (.int .u32 0) := by simp [World.cell?, hb2]
                  have yr4 : W.cell? ⟨gR, 4, none⟩ = some (.int .u16 0) := by simp [World.cell?, hb2]
                  have yr5 : W.cell? ⟨gR, 5, none⟩ = some (.int .u8 0) := by simp [World.cell?, hb2]
                  have yr6 : W.cell? ⟨gR, 6, none⟩ = some (.int .u32 0) := by simp [World.cell?, hb2]
                  have yr7 : W.cell? ⟨gR, 7, none⟩ = some (.int .u16 0) := by simp [World.cell?, hb2]
                  have yr8 : W.cell? ⟨gR, 8, none⟩ = some (.int .u32 0) := by simp [World.cell?, hb2]
                  have yr9 : W.cell? ⟨gR, 9, none⟩ = some (.int .u16 0) := by simp [World.cell?, hb2]
                  have yr10 : W.cell? ⟨gR, 10, none⟩ = some (.int .i64 0) := by simp [World.cell?, hb2]
                  have yr11 : W.cell? ⟨gR, 11, none⟩ = some (.int .i64 0) := by simp [World.cell?, hb2]
                  have yr12 : W.cell? ⟨gR, 12, none⟩ = some (.slice none 0 0) := by simp [World.cell?, hb2]
                  have lR : gR < W.heap.size := cell_lt yr0
                  have HF := Lib.hid ((HN9.out).trans hf2 (fun i hi e => by have h1 : i = gR := e; have h2 := HgR.out; omega))
                  have HNP := Lib.hid (HNP9.out)
                  clear hf2 hb2
                  refine bodyPost_ret (v := .tuple #[.agg #[.int .u8 0, .int .u32 0, .int .u16 0, .int .u32 0, .int .u16 0, .int .u8 0, .int .u32 0, .int .u16 0, .int .u32 0, .int .u16 0, .int .i64 0, .int .i64 0, .slice none 0 0], .int .i64 3]) (by simp only [results, Tryz.results8]; go_simp) rfl ⟨HF.out, .inl ⟨rfl, HNP.out⟩⟩
                · have hrd2 := hr2 hchk
                  obtain ⟨sn, dn, hsn7, hdn7, hsn, hdn, R⟩ := hrd2
                  subst hsn
                  subst hdn
                  have hT1 := tupOf_some.1 R.t1
                  have hT2 := tupOf_some.1 R.t2
                  have hHo : ∀ i, i < hs.length → (F i).1 < 4294967296 ∧ (F i).2.1 ≤ 65535 ∧ (F i).2.2.1 < 4294967296 ∧ (F i).2.2.2 ≤ 65535 := by
                    intro i hi
                    obtain ⟨x, _, hh⟩ := Hho.out i hi
                    rcases hf : F i with ⟨a, p, b, q⟩
                    rw [hf] at hh
                    exact (holdOf_some.1 hh).2
                  have kt := rtext_ok r1 a1 b1 c1 d1 r2 a2 b2 c2 d2 sn dn (fun i => (F i).1) (fun i => (F i).2.1) (fun i => (F i).2.2.1) (fun i => (F i).2.2.2) gv 0 hs.length cv (holdsV (fun i => (F i).1) (fun i => (F i).2.1) (fun i => (F i).2.2.1) (fun i => (F i).2.2.2) hs.length) hT1.2.2.1 (by omega) hT1.2.2.2.2.1 (by omega) hT2.2.2.1 (by omega) hT2.2.2.2.2.1 (by omega) hsn7 hdn7 (by omega) hT1.2.1 hT2.2.1
                    (fun i hi => ⟨⟨holdsV_get _ _ _ _ _ i 0 hi (by omega), holdsV_get _ _ _ _ _ i 1 hi (by omega), holdsV_get _ _ _ _ _ i 2 hi (by omega), holdsV_get _ _ _ _ _ i 3 hi (by omega)⟩, by have := hHo i hi; omega⟩) wr Hhv.out hchk
                  have HR := Lib.hid R
                  have Hchk := Lib.hid hchk
                  have KT := Lib.hid kt
                  clear hT1 hT2 hHo R hchk kt hr1 hr2 hsn7 hdn7
                  go_wp2_with fail
                  clear lE f0 f1 f2 f3 f4 f5 f6 f7 f8 f9 f10 f11 f12
                  refine KT.out.mono ?_
                  rintro e w9 ⟨rfl, hp⟩
                  obtain ⟨tx, htx⟩ : ∃ tx, tx = entT r1 a1 b1 c1 d1 r2 a2 b2 c2 d2 sn dn (fun i => (F i).1) (fun i => (F i).2.1) (fun i => (F i).2.2.1) (fun i => (F i).2.2.2) hs.length := ⟨_, rfl⟩
                  rw [← htx]
                  have HB9 := Lib.hid ((hp.block _ (Array.getElem?_eq_some_iff.1 CR.out).1 id).trans CR.out)
                  have HN9 := Lib.hid (HnR.out.trans hp (fun _ _ h => h))
                  have H13 := Lib.hid ((hp.block _ (Array.getElem?_eq_some_iff.1 C13.out).1 id).trans C13.out)
                  have Hh9 := Lib.hid (Hhv.out.low hp)
                  rcases hq : (tx == l) with _ | _
                  · have HNP9 := Lib.hid (show NP l from HR.out.np2 (fun h => (beq_eq_false_iff_ne.1 hq) (htx.trans h)))
                    have hq2 : (tx != l) = true := by simp [bne, hq]
                    clear hp htx
                    have yr0 : w9.cell? ⟨gR, 0, none⟩ = some (.int .u8 0) := by simp [World.cell?, HB9.out]
                    have zyr0 : w9.frozen? ⟨gR, 0, none⟩ = false := by simp [World.frozen?, HB9.out]
                    have yr1 : w9.cell? ⟨gR, 1, none⟩ = some (.int .u32 0) := by simp [World.cell?, HB9.out]
                    have zyr1 : w9.frozen? ⟨gR, 1, none⟩ = false := by simp [World.frozen?, HB9.out]
                    have yr2 : w9.cell? ⟨gR, 2, none⟩ = some (.int .u16 0) := by simp [World.cell?, HB9.out]
                    have zyr2 : w9.frozen? ⟨gR, 2, none⟩ = false := by simp [World.frozen?, HB9.out]
                    have yr3 : w9.cell? ⟨gR, 3, none⟩ = some (.int .u32 0) := by simp [World.cell?, HB9.out]
                    have zyr3 : w9.frozen? ⟨gR, 3, none⟩ = false := by simp [World.frozen?, HB9.out]
                    have yr4 : w9.cell? ⟨gR, 4, none⟩ = some (.int .u16 0) := by simp [World.cell?, HB9.out]
                    have zyr4 : w9.frozen? ⟨gR, 4, none⟩ = false := by simp [World.frozen?, HB9.out]
                    have yr5 : w9.cell? ⟨gR, 5, none⟩ = some (.int .u8 0) := by simp [World.cell?, HB9.out]
                    have zyr5 : w9.frozen? ⟨gR, 5, none⟩ = false := by simp [World.frozen?, HB9.out]
                    have yr6 : w9.cell? ⟨gR, 6, none⟩ = some (.int .u32 0) := by simp [World.cell?, HB9.out]
                    have zyr6 : w9.frozen? ⟨gR, 6, none⟩ = false := by simp [World.frozen?, HB9.out]
                    have yr7 : w9.cell? ⟨gR, 7, none⟩ = some (.int .u16 0) := by simp [World.cell?, HB9.out]
                    have zyr7 : w9.frozen? ⟨gR, 7, none⟩ = false := by simp [World.frozen?, HB9.out]
                    have yr8 : w9.cell? ⟨gR, 8, none⟩ = some (.int .u32 0) := by simp [World.cell?, HB9.out]
                    have zyr8 : w9.frozen? ⟨gR, 8, none⟩ = false := by simp [World.frozen?, HB9.out]
                    have yr9 : w9.cell? ⟨gR, 9, none⟩ = some (.int .u16 0) := by simp [World.cell?, HB9.out]
                    have zyr9 : w9.frozen? ⟨gR, 9, none⟩ = false := by simp [World.frozen?, HB9.out]
                    have yr10 : w9.cell? ⟨gR, 10, none⟩ = some (.int .i64 0) := by simp [World.cell?, HB9.out]
                    have zyr10 : w9.frozen? ⟨gR, 10, none⟩ = false := by simp [World.frozen?, HB9.out]
                    have yr11 : w9.cell? ⟨gR, 11, none⟩ = some (.int .i64 0) := by simp [World.cell?, HB9.out]
                    have zyr11 : w9.frozen? ⟨gR, 11, none⟩ = false := by simp [World.frozen?, HB9.out]
                    have yr12 : w9.cell? ⟨gR, 12, none⟩ = some (.slice none 0 0) := by simp [World.cell?, HB9.out]
                    have zyr12 : w9.frozen? ⟨gR, 12, none⟩ = false := by simp [World.frozen?, HB9.out]
                    have lR := cell_lt yr0
                    go_wp2_with fail
                    obtain ⟨W, hW, hb2, hf2⟩ := set13 w9 gR 41 (.int .u8 0) (.int .u32 0) (.int .u16 0) (.int .u32 0) (.int .u16 0) (.int .u8 0) (.int .u32 0) (.int .u16 0) (.int .u32 0) (.int .u16 0) (.int .i64 0) (.int .i64 0) (.slice none 0 0) HB9.out (.int .u8 0) (.int .u32 0) (.int .u16 0) (.int .u32 0) (.int .u16 0) (.int .u8 0) (.int .u32 0) (.int .u16 0) (.int .u32 0) (.int .u16 0) (.int .i64 0) (.int .i64 0) (.slice none 0 0)
                    rw [← hW]
                    clear hW lR yr0 zyr0 yr1 zyr1 yr2 zyr2 yr3 zyr3 yr4 zyr4 yr5 zyr5 yr6 zyr6 yr7 zyr7 yr8 zyr8 yr9 zyr9 yr10 zyr10 yr11 zyr11 yr12 zyr12
                    have yr0 : W.cell? ⟨gR, 0, none⟩ = some (.int .u8 0) := by simp [World.cell?, hb2]
                    have yr1 : W.cell? ⟨gR, 1, none⟩ = some (.int .u32 0) := by simp [World.cell?, hb2]
                    have yr2 : W.cell? ⟨gR, 2, none⟩ = some (.int .u16 0) := by simp [World.cell?, hb2]
                    have yr3 : W.cell? ⟨gR, 3, none⟩ = some (.int .u32 0) := by simp [World.cell?, hb2]
                    have yr4 : W.cell? ⟨gR, 4, none⟩ = some (.int .u16 0) := by simp [World.cell?, hb2]
                    have yr5 : W.cell? ⟨gR, 5, none⟩ = some (.int .u8 0) := by simp [World.cell?, hb2]
                    have yr6 : W.cell? ⟨gR, 6, none⟩ = some (.int .u32 0) := by simp [World.cell?, hb2]
                    have yr7 : W.cell? ⟨gR, 7, none⟩ = some (.int .u16 0) := by simp [World.cell?, hb2]
                    have yr8 : W.cell? ⟨gR, 8, none⟩ = some (.int .u32 0) := by simp [World.cell?, hb2]
                    have yr9 : W.cell? ⟨gR, 9, none⟩ = some (.int .u16 0) := by simp [World.cell?, hb2]
                    have yr10 : W.cell? ⟨gR, 10, none⟩ = some (.int .i64 0) := by simp [World.cell?, hb2]
                    have yr11 : W.cell? ⟨gR, 11, none⟩ = some (.int .i64 0) := by simp [World.cell?, hb2]
                    have yr12 : W.cell? ⟨gR, 12, none⟩ = some (.slice none 0 0) := by simp [World.cell?, hb2]
                    have lR : gR < W.heap.size := cell_lt yr0
                    have HF := Lib.hid ((HN9.out).trans hf2 (fun i hi e => by have h1 : i = gR := e; have h2 := HgR.out; omega))
                    have HNP := Lib.hid (HNP9.out)
                    clear hf2 hb2
                    refine bodyPost_ret (v := .tuple #[.agg #[.int .u8 0, .int .u32 0, .int .u16 0, .int .u32 0, .int .u16 0, .int .u8 0, .int .u32 0, .int .u16 0, .int .u32 0, .int .u16 0, .int .i64 0, .int .i64 0, .slice none 0 0], .int .i64 3]) (by simp only [results, Tryz.results8]; go_simp) rfl ⟨HF.out, .inl ⟨rfl, HNP.out⟩⟩
                  · have hq2 : (tx != l) = false := by simp [bne, hq]
                    have HY := Lib.hid (show Parsed l r1 a1 b1 c1 d1 r2 a2 b2 c2 d2 sn dn hs.length (fun i => (F i).1) (fun i => (F i).2.1) (fun i => (F i).2.2.1) (fun i => (F i).2.2.2) from HR.out.yes Hchk.out (htx.symm.trans (beq_iff_eq.1 hq)))
                    clear hp htx
                    have f0 : w9.cell? ⟨gE, 0, none⟩ = some (.int .u8 r1) := by simp [World.cell?, H13.out]
                    have f1 : w9.cell? ⟨gE, 1, none⟩ = some (.int .u32 a1) := by simp [World.cell?, H13.out]
                    have f2 : w9.cell? ⟨gE, 2, none⟩ = some (.int .u16 b1) := by simp [World.cell?, H13.out]
                    have f3 : w9.cell? ⟨gE, 3, none⟩ = some (.int .u32 c1) := by simp [World.cell?, H13.out]
                    have f4 : w9.cell? ⟨gE, 4, none⟩ = some (.int .u16 d1) := by simp [World.cell?, H13.out]
                    have f5 : w9.cell? ⟨gE, 5, none⟩ = some (.int .u8 r2) := by simp [World.cell?, H13.out]
                    have f6 : w9.cell? ⟨gE, 6, none⟩ = some (.int .u32 a2) := by simp [World.cell?, H13.out]
                    have f7 : w9.cell? ⟨gE, 7, none⟩ = some (.int .u16 b2) := by simp [World.cell?, H13.out]
                    have f8 : w9.cell? ⟨gE, 8, none⟩ = some (.int .u32 c2) := by simp [World.cell?, H13.out]
                    have f9 : w9.cell? ⟨gE, 9, none⟩ = some (.int .u16 d2) := by simp [World.cell?, H13.out]
                    have f10 : w9.cell? ⟨gE, 10, none⟩ = some (.int .i64 (sn : Nat)) := by simp [World.cell?, H13.out]
                    have f11 : w9.cell? ⟨gE, 11, none⟩ = some (.int .i64 (dn : Nat)) := by simp [World.cell?, H13.out]
                    have f12 : w9.cell? ⟨gE, 12, none⟩ = some (.slice (some ⟨gv, 0, none⟩) hs.length cv) := by simp [World.cell?, H13.out]
                    have lE := cell_lt f0
                    have yr0 : w9.cell? ⟨gR, 0, none⟩ = some (.int .u8 0) := by simp [World.cell?, HB9.out]
                    have zyr0 : w9.frozen? ⟨gR, 0, none⟩ = false := by simp [World.frozen?, HB9.out]
                    have yr1 : w9.cell? ⟨gR, 1, none⟩ = some (.int .u32 0) := by simp [World.cell?, HB9.out]
                    have zyr1 : w9.frozen? ⟨gR, 1, none⟩ = false := by simp [World.frozen?, HB9.out]
                    have yr2 : w9.cell? ⟨gR, 2, none⟩ = some (.int .u16 0) := by simp [World.cell?, HB9.out]
                    have zyr2 : w9.frozen? ⟨gR, 2, none⟩ = false := by simp [World.frozen?, HB9.out]
                    have yr3 : w9.cell? ⟨gR, 3, none⟩ = some (.int .u32 0) := by simp [World.cell?, HB9.out]
                    have zyr3 : w9.frozen? ⟨gR, 3, none⟩ = false := by simp [World.frozen?, HB9.out]
                    have yr4 : w9.cell? ⟨gR, 4, none⟩ = some (.int .u16 0) := by simp [World.cell?, HB9.out]
                    have zyr4 : w9.frozen? ⟨gR, 4, none⟩ = false := by simp [World.frozen?, HB9.out]
                    have yr5 : w9.cell? ⟨gR, 5, none⟩ = some (.int .u8 0) := by simp [World.cell?, HB9.out]
                    have zyr5 : w9.frozen? ⟨gR, 5, none⟩ = false := by simp [World.frozen?, HB9.out]
                    have yr6 : w9.cell? ⟨gR, 6, none⟩ = some (.int .u32 0) := by simp [World.cell?, HB9.out]
                    have zyr6 : w9.frozen? ⟨gR, 6, none⟩ = false := by simp [World.frozen?, HB9.out]
                    have yr7 : w9.cell? ⟨gR, 7, none⟩ = some (.int .u16 0) := by simp [World.cell?, HB9.out]
                    have zyr7 : w9.frozen? ⟨gR, 7, none⟩ = false := by simp [World.frozen?, HB9.out]
                    have yr8 : w9.cell? ⟨gR, 8, none⟩ = some (.int .u32 0) := by simp [World.cell?, HB9.out]
                    have zyr8 : w9.frozen? ⟨gR, 8, none⟩ = false := by simp [World.frozen?, HB9.out]
                    have yr9 : w9.cell? ⟨gR, 9, none⟩ = some (.int .u16 0) := by simp [World.cell?, HB9.out]
                    have zyr9 : w9.frozen? ⟨gR, 9, none⟩ = false := by simp [World.frozen?, HB9.out]
                    have yr10 : w9.cell? ⟨gR, 10, none⟩ = some (.int .i64 0) := by simp [World.cell?, HB9.out]
                    have zyr10 : w9.frozen? ⟨gR, 10, none⟩ = false := by simp [World.frozen?, HB9.out]
                    have yr11 : w9.cell? ⟨gR, 11, none⟩ = some (.int .i64 0) := by simp [World.cell?, HB9.out]
                    have zyr11 : w9.frozen? ⟨gR, 11, none⟩ = false := by simp [World.frozen?, HB9.out]
                    have yr12 : w9.cell? ⟨gR, 12, none⟩ = some (.slice none 0 0) := by simp [World.cell?, HB9.out]
                    have zyr12 : w9.frozen? ⟨gR, 12, none⟩ = false := by simp [World.frozen?, HB9.out]
                    have lR := cell_lt yr0
                    go_wp2_with fail
                    obtain ⟨W, hW, hb2, hf2⟩ := set13 w9 gR 41 (.int .u8 0) (.int .u32 0) (.int .u16 0) (.int .u32 0) (.int .u16 0) (.int .u8 0) (.int .u32 0) (.int .u16 0) (.int .u32 0) (.int .u16 0) (.int .i64 0) (.int .i64 0) (.slice none 0 0) HB9.out (.int .u8 r1) (.int .u32 a1) (.int .u16 b1) (.int .u32 c1) (.int .u16 d1) (.int .u8 r2) (.int .u32 a2) (.int .u16 b2) (.int .u32 c2) (.int .u16 d2) (.int .i64 (sn : Nat)) (.int .i64 (dn : Nat)) (.slice (some ⟨gv, 0, none⟩) hs.length cv)
                    rw [← hW]
                    clear hW lE lR yr0 zyr0 yr1 zyr1 yr2 zyr2 yr3 zyr3 yr4 zyr4 yr5 zyr5 yr6 zyr6 yr7 zyr7 yr8 zyr8 yr9 zyr9 yr10 zyr10 yr11 zyr11 yr12 zyr12 f0 f1 f2 f3 f4 f5 f6 f7 f8 f9 f10 f11 f12
                    have yr0 : W.cell? ⟨gR, 0, none⟩ = some (.int .u8 r1) := by simp [World.cell?, hb2]
                    have yr1 : W.cell? ⟨gR, 1, none⟩ = some (.int .u32 a1) := by simp [World.cell?, hb2]
                    have yr2 : W.cell? ⟨gR, 2, none⟩ = some (.int .u16 b1) := by simp [World.cell?, hb2]
                    have yr3 : W.cell? ⟨gR, 3, none⟩ = some (.int .u32 c1) := by simp [World.cell?, hb2]
                    have yr4 : W.cell? ⟨gR, 4, none⟩ = some (.int .u16 d1) := by simp [World.cell?, hb2]
                    have yr5 : W.cell? ⟨gR, 5, none⟩ = some (.int .u8 r2) := by simp [World.cell?, hb2]
                    have yr6 : W.cell? ⟨gR, 6, none⟩ = some (.int .u32 a2) := by simp [World.cell?, hb2]
                    have yr7 : W.cell? ⟨gR, 7, none⟩ = some (.int .u16 b2) := by simp [World.cell?, hb2]
                    have yr8 : W.cell? ⟨gR, 8, none⟩ = some (.int .u32 c2) := by simp [World.cell?, hb2]
                    have yr9 : W.cell? ⟨gR, 9, none⟩ = some (.int .u16 d2) := by simp [World.cell?, hb2]
                    have yr10 : W.cell? ⟨gR, 10, none⟩ = some (.int .i64 (sn : Nat)) := by simp [World.cell?, hb2]
                    have yr11 : W.cell? ⟨gR, 11, none⟩ = some (.int .i64 (dn : Nat)) := by simp [World.cell?, hb2]
                    have yr12 : W.cell? ⟨gR, 12, none⟩ = some (.slice (some ⟨gv, 0, none⟩) hs.length cv) := by simp [World.cell?, hb2]
                    have lR : gR < W.heap.size := cell_lt yr0
                    have HF := Lib.hid (HN9.out.trans hf2 (fun i hi e => by have h1 : i = gR := e; have h2 := HgR.out; omega))
                    have hgv : gR ≠ gv := fun e => by have := HgvE.out; omega
                    have Hhw := Lib.hid (show HoldsIn W (some ⟨gv, 0, none⟩) hs.length (holdsV (fun i => (F i).1) (fun i => (F i).2.1) (fun i => (F i).2.2.1) (fun i => (F i).2.2.2) hs.length) from fun _ => ⟨gv, 0, rfl, Hh9.out.len, fun j x hj => (hf2.cell (p := ⟨gv, 0 + j, none⟩) Hh9.out.lt (fun e => hgv e.symm)).trans (Hh9.out.cell j x hj), Hh9.out.one, Nat.lt_of_lt_of_le Hh9.out.lt hf2.size⟩)
                    clear hf2 hb2
                    refine bodyPost_ret (v := .tuple #[.agg #[.int .u8 r1, .int .u32 a1, .int .u16 b1, .int .u32 c1, .int .u16 d1, .int .u8 r2, .int .u32 a2, .int .u16 b2, .int .u32 c2, .int .u16 d2, .int .i64 (sn : Nat), .int .i64 (dn : Nat), .slice (some ⟨gv, 0, none⟩) hs.length cv], .int .i64 0]) (by simp only [results, Tryz.results8]; go_simp) rfl ⟨HF.out, .inr ⟨r1, a1, b1, c1, d1, r2, a2, b2, c2, d2, sn, dn, hs.length, _, _, _, _, (some ⟨gv, 0, none⟩), cv, rfl, HY.out, Hcv.out, Hhw.out⟩⟩

theorem rparse_ok (l : List UInt8) (hl : l.length ≤ 1000000) (w : World) : Calls Tryz.prog 8 #[str l] w (fun e w' => NoW w w' ∧ ((e = .returned (.tuple #[.agg #[.int .u8 0, .int .u32 0, .int .u16 0, .int .u32 0, .int .u16 0, .int .u8 0, .int .u32 0, .int .u16 0, .int .u32 0, .int .u16 0, .int .i64 0, .int .i64 0, .slice none 0 0], .int .i64 3]) ∧ NP l) ∨ ∃ (r a p b q r2 a2 p2 b2 q2 st dl n : Nat) (oa op ia ip : Nat → Nat) (o : Option Addr) (c : Nat), e = .returned (.tuple #[.agg #[.int .u8 r, .int .u32 a, .int .u16 p, .int .u32 b, .int .u16 q, .int .u8 r2, .int .u32 a2, .int .u16 p2, .int .u32 b2, .int .u16 q2, .int .i64 (st : Nat), .int .i64 (dl : Nat), .slice o n c], .int .i64 0]) ∧ Parsed l r a p b q r2 a2 p2 b2 q2 st dl n oa op ia ip ∧ n ≤ c ∧ HoldsIn w' o n (holdsV oa op ia ip n))) := by
  by_cases h1 : (pieces 32 l).length < 10
  · exact rparse_no l hl _ rfl (.inl h1) w
  by_cases h2 : 11 < (pieces 32 l).length
  · exact rparse_no l hl _ rfl (.inr h2) w
  rcases hp : pieces 32 l with _ | ⟨p0, _ | ⟨p1, _ | ⟨p2, _ | ⟨p3, _ | ⟨p4, _ | ⟨p5, _ | ⟨p6, _ | ⟨p7, _ | ⟨p8, hs⟩⟩⟩⟩⟩⟩⟩⟩⟩
  all_goals (rw [hp] at h1 h2; simp at h1 h2)
  exact rparse_main l hl p0 p1 p2 p3 p4 p5 p6 p7 p8 hs hp (by omega) w
end Go.Proofs.YtdmbjndhdldggaaGreatDoor
