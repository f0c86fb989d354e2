/- Chapter 18: entries.Parse (written by genparsee.py). -/
import Derived.Test.YtdmbjndhdldggaaGreatDoorEpL
import Derived.Test.YtdmbjndhdldggaaGreatDoorZc
namespace Go.Proofs.YtdmbjndhdldggaaGreatDoor
set_option linter.unusedVariables false
set_option linter.unusedSimpArgs false
open Go.RowKit Go.Lib Go.Sort

/-- The text is no entry's. -/
def NP (l : List UInt8) : Prop := ∀ (r a p b q r2 a2 p2 b2 q2 st dl n : Nat) (oa op ia ip : Nat → Nat), ¬ Parsed l r a p b q r2 a2 p2 b2 q2 st dl n oa op ia ip
theorem tup_val (o : Option (Nat × Nat × Nat × Nat × Nat)) : ∃ (k a p b q : Nat) (e : Int) (z : Bool), tupRV o = .tuple #[.agg #[.int .u8 k, .int .u32 a, .int .u16 p, .int .u32 b, .int .u16 q], .int .i64 e] ∧ (e == 0) = z ∧ (z = true → o = some (k, a, p, b, q)) ∧ (z = false → o = none) := by
  rcases o with _ | ⟨k, a, p, b, q⟩
  · exact ⟨0, 0, 0, 0, 0, 3, false, rfl, rfl, (fun h => by cases h), fun _ => rfl⟩
  · exact ⟨k, a, p, b, q, 0, true, rfl, rfl, fun _ => rfl, fun h => by cases h⟩

set_option maxHeartbeats 4000000 in
set_option maxRecDepth 100000 in
theorem parse_few (l : List UInt8) (hl : l.length ≤ 4000000) (ps : List (List UInt8)) (hps : pieces 32 l = ps) (hf : ps.length < 10) (w : World) (ht : TbQ w) :
    Calls Tryz.prog 7 #[str l] w (fun e w' => NoW w w' ∧ ((e = .returned (.tuple #[.agg #[.int .u8 0, .int .u32 0, .int .u16 0, .int .u32 0, .int .u16 0, .int .u8 0, .int .u32 0, .int .u16 0, .int .u32 0, .int .u16 0, .int .i64 0, .int .i64 0, .slice none 0 0], .int .i64 3]) ∧ NP l) ∨ ∃ (r a p b q r2 a2 p2 b2 q2 st dl n : Nat) (oa op ia ip : Nat → Nat) (o : Option Addr) (c : Nat), e = .returned (.tuple #[.agg #[.int .u8 r, .int .u32 a, .int .u16 p, .int .u32 b, .int .u16 q, .int .u8 r2, .int .u32 a2, .int .u16 p2, .int .u32 b2, .int .u16 q2, .int .i64 (st : Nat), .int .i64 (dl : Nat), .slice o n c], .int .i64 0]) ∧ Parsed l r a p b q r2 a2 p2 b2 q2 st dl n oa op ia ip ∧ n ≤ c ∧ HoldsIn w' o n (holdsV oa op ia ip n))) := by
  obtain ⟨mm, hmx0⟩ := ht.toP.mx
  have hsz : (⟨l.toArray⟩ : ByteArray).size = l.length := by simp [ByteArray.size]
  have Ht := Lib.hid ht
  have hcnt := count_list 32 l
  have hsplit := split_list 32 l
  rw [hps] at hcnt hsplit
  have Hps := Lib.hid hps
  have hwz : NoW w (w.alloc (.cells #[.int .u8 0, .int .u32 0, .int .u16 0, .int .u32 0, .int .u16 0, .int .u8 0, .int .u32 0, .int .u16 0, .int .u32 0, .int .u16 0, .int .i64 0, .int .i64 0, .slice none 0 0] 31)) := (Fp.refl _ _).alloc _
  have hmx := (hwz.cell (cell_lt hmx0) id).trans hmx0
  clear ht hps
  go_enter Tryz.func7, Tryz.ntmps7
  go_wp2_with fail
  have hbR := heap_alloc_new w (.cells #[.int .u8 0, .int .u32 0, .int .u16 0, .int .u32 0, .int .u16 0, .int .u8 0, .int .u32 0, .int .u16 0, .int .u32 0, .int .u16 0, .int .i64 0, .int .i64 0, .slice none 0 0] 31)
  generalize w.alloc (.cells #[.int .u8 0, .int .u32 0, .int .u16 0, .int .u32 0, .int .u16 0, .int .u8 0, .int .u32 0, .int .u16 0, .int .u32 0, .int .u16 0, .int .i64 0, .int .i64 0, .slice none 0 0] 31) = w0 at *
  obtain ⟨gR, hgR⟩ : ∃ gR, gR = w.heap.size := ⟨_, rfl⟩
  rw [← hgR] at hbR ⊢
  have HgR := Lib.hid (show w.heap.size ≤ gR by omega)
  clear hgR
  refine (Tryz.strings_Split ⟨l.toArray⟩ ⟨#[32]⟩ mm w0 (by rw [hsz]; omega) hmx (by decide)).mono ?_
  rintro e w1 ⟨rfl, rfl⟩
  rw [hcnt, hsplit]
  have hq1 : NoW w0 (w0.alloc (.cells ((ps.map (fun p => (⟨p.toArray⟩ : ByteArray))).map Value.string).toArray 9)) := (Fp.refl _ _).alloc _
  have hbR1 := (hq1.block _ (Array.getElem?_eq_some_iff.1 hbR).1 id).trans hbR
  have hn1 := hwz.trans hq1 (fun _ _ h => h)
  generalize w0.alloc (.cells ((ps.map (fun p => (⟨p.toArray⟩ : ByteArray))).map Value.string).toArray 9) = w1 at *
  generalize w0.heap.size = gP at *
  have BR := Lib.hid hbR1
  have Hn1 := Lib.hid hn1
  have np : NP l := by
    intro r a p b q r2 a2 p2 b2 q2 st dl n oa op ia ip h
    have h1 := h.len
    rw [Hps.out] at h1
    omega
  have d1 : decide (((ps.length : Nat) : Int) < 10) = true := decide_eq_true (by omega)
  clear hf
  clear hq1 hbR hbR1 hn1 hwz hmx hmx0 hcnt hsplit hsz
  have y0 : w1.cell? ⟨gR, 0, none⟩ = some (.int .u8 0) := by simp [World.cell?, BR.out]
  have zy0 : w1.frozen? ⟨gR, 0, none⟩ = false := by simp [World.frozen?, BR.out]
  have y1 : w1.cell? ⟨gR, 1, none⟩ = some (.int .u32 0) := by simp [World.cell?, BR.out]
  have zy1 : w1.frozen? ⟨gR, 1, none⟩ = false := by simp [World.frozen?, BR.out]
  have y2 : w1.cell? ⟨gR, 2, none⟩ = some (.int .u16 0) := by simp [World.cell?, BR.out]
  have zy2 : w1.frozen? ⟨gR, 2, none⟩ = false := by simp [World.frozen?, BR.out]
  have y3 : w1.cell? ⟨gR, 3, none⟩ = some (.int .u32 0) := by simp [World.cell?, BR.out]
  have zy3 : w1.frozen? ⟨gR, 3, none⟩ = false := by simp [World.frozen?, BR.out]
  have y4 : w1.cell? ⟨gR, 4, none⟩ = some (.int .u16 0) := by simp [World.cell?, BR.out]
  have zy4 : w1.frozen? ⟨gR, 4, none⟩ = false := by simp [World.frozen?, BR.out]
  have y5 : w1.cell? ⟨gR, 5, none⟩ = some (.int .u8 0) := by simp [World.cell?, BR.out]
  have zy5 : w1.frozen? ⟨gR, 5, none⟩ = false := by simp [World.frozen?, BR.out]
  have y6 : w1.cell? ⟨gR, 6, none⟩ = some (.int .u32 0) := by simp [World.cell?, BR.out]
  have zy6 : w1.frozen? ⟨gR, 6, none⟩ = false := by simp [World.frozen?, BR.out]
  have y7 : w1.cell? ⟨gR, 7, none⟩ = some (.int .u16 0) := by simp [World.cell?, BR.out]
  have zy7 : w1.frozen? ⟨gR, 7, none⟩ = false := by simp [World.frozen?, BR.out]
  have y8 : w1.cell? ⟨gR, 8, none⟩ = some (.int .u32 0) := by simp [World.cell?, BR.out]
  have zy8 : w1.frozen? ⟨gR, 8, none⟩ = false := by simp [World.frozen?, BR.out]
  have y9 : w1.cell? ⟨gR, 9, none⟩ = some (.int .u16 0) := by simp [World.cell?, BR.out]
  have zy9 : w1.frozen? ⟨gR, 9, none⟩ = false := by simp [World.frozen?, BR.out]
  have y10 : w1.cell? ⟨gR, 10, none⟩ = some (.int .i64 0) := by simp [World.cell?, BR.out]
  have zy10 : w1.frozen? ⟨gR, 10, none⟩ = false := by simp [World.frozen?, BR.out]
  have y11 : w1.cell? ⟨gR, 11, none⟩ = some (.int .i64 0) := by simp [World.cell?, BR.out]
  have zy11 : w1.frozen? ⟨gR, 11, none⟩ = false := by simp [World.frozen?, BR.out]
  have y12 : w1.cell? ⟨gR, 12, none⟩ = some (.slice none 0 0) := by simp [World.cell?, BR.out]
  have zy12 : w1.frozen? ⟨gR, 12, none⟩ = false := by simp [World.frozen?, BR.out]
  go_wp2_with fail
  obtain ⟨W, hW, hb2, hf2⟩ := set13 w1 gR 31 (.int .u8 0) (.int .u32 0) (.int .u16 0) (.int .u32 0) (.int .u16 0) (.int .u8 0) (.int .u32 0) (.int .u16 0) (.int .u32 0) (.int .u16 0) (.int .i64 0) (.int .i64 0) (.slice none 0 0) BR.out (.int .u8 0) (.int .u32 0) (.int .u16 0) (.int .u32 0) (.int .u16 0) (.int .u8 0) (.int .u32 0) (.int .u16 0) (.int .u32 0) (.int .u16 0) (.int .i64 0) (.int .i64 0) (.slice none 0 0)
  rw [← hW]
  clear hW y0 zy0 y1 zy1 y2 zy2 y3 zy3 y4 zy4 y5 zy5 y6 zy6 y7 zy7 y8 zy8 y9 zy9 y10 zy10 y11 zy11 y12 zy12
  have y0 : W.cell? ⟨gR, 0, none⟩ = some (.int .u8 0) := by simp [World.cell?, hb2]
  have y1 : W.cell? ⟨gR, 1, none⟩ = some (.int .u32 0) := by simp [World.cell?, hb2]
  have y2 : W.cell? ⟨gR, 2, none⟩ = some (.int .u16 0) := by simp [World.cell?, hb2]
  have y3 : W.cell? ⟨gR, 3, none⟩ = some (.int .u32 0) := by simp [World.cell?, hb2]
  have y4 : W.cell? ⟨gR, 4, none⟩ = some (.int .u16 0) := by simp [World.cell?, hb2]
  have y5 : W.cell? ⟨gR, 5, none⟩ = some (.int .u8 0) := by simp [World.cell?, hb2]
  have y6 : W.cell? ⟨gR, 6, none⟩ = some (.int .u32 0) := by simp [World.cell?, hb2]
  have y7 : W.cell? ⟨gR, 7, none⟩ = some (.int .u16 0) := by simp [World.cell?, hb2]
  have y8 : W.cell? ⟨gR, 8, none⟩ = some (.int .u32 0) := by simp [World.cell?, hb2]
  have y9 : W.cell? ⟨gR, 9, none⟩ = some (.int .u16 0) := by simp [World.cell?, hb2]
  have y10 : W.cell? ⟨gR, 10, none⟩ = some (.int .i64 0) := by simp [World.cell?, hb2]
  have y11 : W.cell? ⟨gR, 11, none⟩ = some (.int .i64 0) := by simp [World.cell?, hb2]
  have y12 : W.cell? ⟨gR, 12, none⟩ = some (.slice none 0 0) := by simp [World.cell?, hb2]
  have HF := Lib.hid (Hn1.out.trans hf2 (fun i hi e => by have h1 : i = gR := e; have h2 := HgR.out; omega))
  have HNP := Lib.hid np
  clear hf2 hb2
  refine bodyPost_ret (v := .tuple #[.agg #[.int .u8 0, .int .u32 0, .int .u16 0, .int .u32 0, .int .u16 0, .int .u8 0, .int .u32 0, .int .u16 0, .int .u32 0, .int .u16 0, .int .i64 0, .int .i64 0, .slice none 0 0], .int .i64 3]) (by simp only [results, Tryz.results7]; go_simp) rfl ⟨HF.out, .inl ⟨rfl, HNP.out⟩⟩

set_option maxHeartbeats 4000000 in
set_option maxRecDepth 100000 in
theorem parse_many (l : List UInt8) (hl : l.length ≤ 4000000) (ps : List (List UInt8)) (hps : pieces 32 l = ps) (hf : 11 < ps.length) (w : World) (ht : TbQ w) :
    Calls Tryz.prog 7 #[str l] w (fun e w' => NoW w w' ∧ ((e = .returned (.tuple #[.agg #[.int .u8 0, .int .u32 0, .int .u16 0, .int .u32 0, .int .u16 0, .int .u8 0, .int .u32 0, .int .u16 0, .int .u32 0, .int .u16 0, .int .i64 0, .int .i64 0, .slice none 0 0], .int .i64 3]) ∧ NP l) ∨ ∃ (r a p b q r2 a2 p2 b2 q2 st dl n : Nat) (oa op ia ip : Nat → Nat) (o : Option Addr) (c : Nat), e = .returned (.tuple #[.agg #[.int .u8 r, .int .u32 a, .int .u16 p, .int .u32 b, .int .u16 q, .int .u8 r2, .int .u32 a2, .int .u16 p2, .int .u32 b2, .int .u16 q2, .int .i64 (st : Nat), .int .i64 (dl : Nat), .slice o n c], .int .i64 0]) ∧ Parsed l r a p b q r2 a2 p2 b2 q2 st dl n oa op ia ip ∧ n ≤ c ∧ HoldsIn w' o n (holdsV oa op ia ip n))) := by
  obtain ⟨mm, hmx0⟩ := ht.toP.mx
  have hsz : (⟨l.toArray⟩ : ByteArray).size = l.length := by simp [ByteArray.size]
  have Ht := Lib.hid ht
  have hcnt := count_list 32 l
  have hsplit := split_list 32 l
  rw [hps] at hcnt hsplit
  have Hps := Lib.hid hps
  have hwz : NoW w (w.alloc (.cells #[.int .u8 0, .int .u32 0, .int .u16 0, .int .u32 0, .int .u16 0, .int .u8 0, .int .u32 0, .int .u16 0, .int .u32 0, .int .u16 0, .int .i64 0, .int .i64 0, .slice none 0 0] 31)) := (Fp.refl _ _).alloc _
  have hmx := (hwz.cell (cell_lt hmx0) id).trans hmx0
  clear ht hps
  go_enter Tryz.func7, Tryz.ntmps7
  go_wp2_with fail
  have hbR := heap_alloc_new w (.cells #[.int .u8 0, .int .u32 0, .int .u16 0, .int .u32 0, .int .u16 0, .int .u8 0, .int .u32 0, .int .u16 0, .int .u32 0, .int .u16 0, .int .i64 0, .int .i64 0, .slice none 0 0] 31)
  generalize w.alloc (.cells #[.int .u8 0, .int .u32 0, .int .u16 0, .int .u32 0, .int .u16 0, .int .u8 0, .int .u32 0, .int .u16 0, .int .u32 0, .int .u16 0, .int .i64 0, .int .i64 0, .slice none 0 0] 31) = w0 at *
  obtain ⟨gR, hgR⟩ : ∃ gR, gR = w.heap.size := ⟨_, rfl⟩
  rw [← hgR] at hbR ⊢
  have HgR := Lib.hid (show w.heap.size ≤ gR by omega)
  clear hgR
  refine (Tryz.strings_Split ⟨l.toArray⟩ ⟨#[32]⟩ mm w0 (by rw [hsz]; omega) hmx (by decide)).mono ?_
  rintro e w1 ⟨rfl, rfl⟩
  rw [hcnt, hsplit]
  have hq1 : NoW w0 (w0.alloc (.cells ((ps.map (fun p => (⟨p.toArray⟩ : ByteArray))).map Value.string).toArray 9)) := (Fp.refl _ _).alloc _
  have hbR1 := (hq1.block _ (Array.getElem?_eq_some_iff.1 hbR).1 id).trans hbR
  have hn1 := hwz.trans hq1 (fun _ _ h => h)
  generalize w0.alloc (.cells ((ps.map (fun p => (⟨p.toArray⟩ : ByteArray))).map Value.string).toArray 9) = w1 at *
  generalize w0.heap.size = gP at *
  have BR := Lib.hid hbR1
  have Hn1 := Lib.hid hn1
  have np : NP l := by
    intro r a p b q r2 a2 p2 b2 q2 st dl n oa op ia ip h
    have h1 := h.len
    rw [Hps.out] at h1
    omega
  have d1 : decide (((ps.length : Nat) : Int) < 10) = false := decide_eq_false (by omega)
  have d2 : decide ((11 : Int) < ((ps.length : Nat) : Int)) = true := decide_eq_true (by omega)
  clear hf
  clear hq1 hbR hbR1 hn1 hwz hmx hmx0 hcnt hsplit hsz
  have y0 : w1.cell? ⟨gR, 0, none⟩ = some (.int .u8 0) := by simp [World.cell?, BR.out]
  have zy0 : w1.frozen? ⟨gR, 0, none⟩ = false := by simp [World.frozen?, BR.out]
  have y1 : w1.cell? ⟨gR, 1, none⟩ = some (.int .u32 0) := by simp [World.cell?, BR.out]
  have zy1 : w1.frozen? ⟨gR, 1, none⟩ = false := by simp [World.frozen?, BR.out]
  have y2 : w1.cell? ⟨gR, 2, none⟩ = some (.int .u16 0) := by simp [World.cell?, BR.out]
  have zy2 : w1.frozen? ⟨gR, 2, none⟩ = false := by simp [World.frozen?, BR.out]
  have y3 : w1.cell? ⟨gR, 3, none⟩ = some (.int .u32 0) := by simp [World.cell?, BR.out]
  have zy3 : w1.frozen? ⟨gR, 3, none⟩ = false := by simp [World.frozen?, BR.out]
  have y4 : w1.cell? ⟨gR, 4, none⟩ = some (.int .u16 0) := by simp [World.cell?, BR.out]
  have zy4 : w1.frozen? ⟨gR, 4, none⟩ = false := by simp [World.frozen?, BR.out]
  have y5 : w1.cell? ⟨gR, 5, none⟩ = some (.int .u8 0) := by simp [World.cell?, BR.out]
  have zy5 : w1.frozen? ⟨gR, 5, none⟩ = false := by simp [World.frozen?, BR.out]
  have y6 : w1.cell? ⟨gR, 6, none⟩ = some (.int .u32 0) := by simp [World.cell?, BR.out]
  have zy6 : w1.frozen? ⟨gR, 6, none⟩ = false := by simp [World.frozen?, BR.out]
  have y7 : w1.cell? ⟨gR, 7, none⟩ = some (.int .u16 0) := by simp [World.cell?, BR.out]
  have zy7 : w1.frozen? ⟨gR, 7, none⟩ = false := by simp [World.frozen?, BR.out]
  have y8 : w1.cell? ⟨gR, 8, none⟩ = some (.int .u32 0) := by simp [World.cell?, BR.out]
  have zy8 : w1.frozen? ⟨gR, 8, none⟩ = false := by simp [World.frozen?, BR.out]
  have y9 : w1.cell? ⟨gR, 9, none⟩ = some (.int .u16 0) := by simp [World.cell?, BR.out]
  have zy9 : w1.frozen? ⟨gR, 9, none⟩ = false := by simp [World.frozen?, BR.out]
  have y10 : w1.cell? ⟨gR, 10, none⟩ = some (.int .i64 0) := by simp [World.cell?, BR.out]
  have zy10 : w1.frozen? ⟨gR, 10, none⟩ = false := by simp [World.frozen?, BR.out]
  have y11 : w1.cell? ⟨gR, 11, none⟩ = some (.int .i64 0) := by simp [World.cell?, BR.out]
  have zy11 : w1.frozen? ⟨gR, 11, none⟩ = false := by simp [World.frozen?, BR.out]
  have y12 : w1.cell? ⟨gR, 12, none⟩ = some (.slice none 0 0) := by simp [World.cell?, BR.out]
  have zy12 : w1.frozen? ⟨gR, 12, none⟩ = false := by simp [World.frozen?, BR.out]
  go_wp2_with fail
  obtain ⟨W, hW, hb2, hf2⟩ := set13 w1 gR 31 (.int .u8 0) (.int .u32 0) (.int .u16 0) (.int .u32 0) (.int .u16 0) (.int .u8 0) (.int .u32 0) (.int .u16 0) (.int .u32 0) (.int .u16 0) (.int .i64 0) (.int .i64 0) (.slice none 0 0) BR.out (.int .u8 0) (.int .u32 0) (.int .u16 0) (.int .u32 0) (.int .u16 0) (.int .u8 0) (.int .u32 0) (.int .u16 0) (.int .u32 0) (.int .u16 0) (.int .i64 0) (.int .i64 0) (.slice none 0 0)
  rw [← hW]
  clear hW y0 zy0 y1 zy1 y2 zy2 y3 zy3 y4 zy4 y5 zy5 y6 zy6 y7 zy7 y8 zy8 y9 zy9 y10 zy10 y11 zy11 y12 zy12
  have y0 : W.cell? ⟨gR, 0, none⟩ = some (.int .u8 0) := by simp [World.cell?, hb2]
  have y1 : W.cell? ⟨gR, 1, none⟩ = some (.int .u32 0) := by simp [World.cell?, hb2]
  have y2 : W.cell? ⟨gR, 2, none⟩ = some (.int .u16 0) := by simp [World.cell?, hb2]
  have y3 : W.cell? ⟨gR, 3, none⟩ = some (.int .u32 0) := by simp [World.cell?, hb2]
  have y4 : W.cell? ⟨gR, 4, none⟩ = some (.int .u16 0) := by simp [World.cell?, hb2]
  have y5 : W.cell? ⟨gR, 5, none⟩ = some (.int .u8 0) := by simp [World.cell?, hb2]
  have y6 : W.cell? ⟨gR, 6, none⟩ = some (.int .u32 0) := by simp [World.cell?, hb2]
  have y7 : W.cell? ⟨gR, 7, none⟩ = some (.int .u16 0) := by simp [World.cell?, hb2]
  have y8 : W.cell? ⟨gR, 8, none⟩ = some (.int .u32 0) := by simp [World.cell?, hb2]
  have y9 : W.cell? ⟨gR, 9, none⟩ = some (.int .u16 0) := by simp [World.cell?, hb2]
  have y10 : W.cell? ⟨gR, 10, none⟩ = some (.int .i64 0) := by simp [World.cell?, hb2]
  have y11 : W.cell? ⟨gR, 11, none⟩ = some (.int .i64 0) := by simp [World.cell?, hb2]
  have y12 : W.cell? ⟨gR, 12, none⟩ = some (.slice none 0 0) := by simp [World.cell?, hb2]
  have HF := Lib.hid (Hn1.out.trans hf2 (fun i hi e => by have h1 : i = gR := e; have h2 := HgR.out; omega))
  have HNP := Lib.hid np
  clear hf2 hb2
  refine bodyPost_ret (v := .tuple #[.agg #[.int .u8 0, .int .u32 0, .int .u16 0, .int .u32 0, .int .u16 0, .int .u8 0, .int .u32 0, .int .u16 0, .int .u32 0, .int .u16 0, .int .i64 0, .int .i64 0, .slice none 0 0], .int .i64 3]) (by simp only [results, Tryz.results7]; go_simp) rfl ⟨HF.out, .inl ⟨rfl, HNP.out⟩⟩
end Go.Proofs.YtdmbjndhdldggaaGreatDoor
