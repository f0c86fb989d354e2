/- Chapter 18: what a text that is an entry's says (plain); Atoi; Join of a part of a row. -/
import Derived.Test.YtdmbjndhdldggaaGreatDoorEpH
import Derived.Lib.AtoiAllCases
import Derived.Lib.ParseIntBCases
namespace Go.Proofs.YtdmbjndhdldggaaGreatDoor
set_option linter.unusedVariables false
set_option linter.unusedSimpArgs false
open Go.RowKit Go.Lib Go.Sort

theorem atoi_dec (n : Nat) (hn : n < 9223372036854775808) : Lib.atoiAll (decDigits n) = .ok (n : Int) := by
  have hd := dec_digits n
  have hv : (decDigits n).foldl (fun a c => a * 10 + (c.toNat - 48)) 0 = n := val_of_dec n
  have hp := parse_val 18446744073709551615 (by omega) (decDigits n) 0 hd (by rw [hv]; omega)
  rw [hv, parseUintM_64] at hp
  rcases hl : decDigits n with _ | ⟨c, r⟩
  · exact absurd hl (dec_ne n)
  · rw [hl] at hp hd
    have hc := hd c (by simp)
    rw [Lib.atoiAll_plain c r (by omega) (by omega)]
    unfold Lib.parseMag
    rw [if_neg (by simp), hp]
    simp only [Lib.signless]
    rw [if_neg (by omega)]

theorem atoi_any (l : List UInt8) (hl : l.length ≤ 281474976710656) : ∃ (v : Int) (z : Bool), (z = true → Lib.atoiAll l = .ok v) ∧ (z = false → ∀ u, Lib.atoiAll l ≠ .ok u) ∧
    ∀ w : World, TbP w → Calls Tryz.prog 24 #[str l] w fun e w' => NoW w w' ∧ ((z = true ∧ e = .returned (.tuple #[.int .i64 v, .nilIface])) ∨ (z = false ∧ ∃ N : Nat, e = .returned (.tuple #[.int .i64 v, .iface 121 (.pointer (some ⟨N, 0, none⟩))]))) := by
  have hsz : (⟨l.toArray⟩ : ByteArray).size ≤ 281474976710656 := by simpa [ByteArray.size] using hl
  rcases hp : Lib.atoiAll l with v | _ | _
  · refine ⟨v, true, fun _ => rfl, fun h => (by cases h), fun w ht => (Tryz.strconv_Atoi_ok ⟨l.toArray⟩ (by omega) v hp w).mono ?_⟩
    rintro e w' ⟨rfl, hw⟩
    refine ⟨?_, .inl ⟨rfl, rfl⟩⟩
    rcases hw with rfl | ⟨t, rfl⟩
    · exact Fp.refl _ _
    · exact noW_bytes _ _ _
  · refine ⟨0, false, fun h => (by cases h), fun _ u h => (by cases h), fun w ht => ?_⟩
    obtain ⟨ev, h1, h2⟩ := ht.es
    refine (Tryz.strconv_Atoi_syntax ⟨l.toArray⟩ hsz hp ev w h1 h2).mono ?_
    rintro e w' ⟨N, rfl, _, _, hb⟩
    exact ⟨Fp.of_below hb, .inr ⟨rfl, N, rfl⟩⟩
  · refine ⟨Lib.atoiSat l, false, fun h => (by cases h), fun _ u h => (by cases h), fun w ht => ?_⟩
    obtain ⟨ev, h1, h2⟩ := ht.er
    refine (Tryz.strconv_Atoi_range ⟨l.toArray⟩ hsz hp ev w h1 h2).mono ?_
    rintro e w' ⟨N, rfl, _, _, hb⟩
    exact ⟨Fp.of_below hb, .inr ⟨rfl, N, rfl⟩⟩

theorem join_at (g o n c : Nat) (ps : List (List UInt8)) (w : World) (hc : ∀ j x, ps[j]? = some x → w.cell? ⟨g, o + j, none⟩ = some (str x)) (hg : g < w.heap.size) (hn : ps.length = n) (hnc : n ≤ c) (hs : (joinB ps).length ≤ 140737488355327) :
    Calls Tryz.prog 21 #[.slice (some ⟨g, o, none⟩) n c, .string ⟨#[32]⟩] w (Ret1 (str (joinB ps)) w) := by
  subst hn
  have e : Lib.join ((ps.map fun p => (⟨p.toArray⟩ : ByteArray)).map (·.data.toList)) (⟨#[32]⟩ : ByteArray).data.toList = joinB ps := by
    have : ((ps.map fun p => (⟨p.toArray⟩ : ByteArray)).map (·.data.toList)) = ps := by simp [Function.comp_def]
    rw [this]; rfl
  have hj := Tryz.strings_Join g o c (ps.map fun p => (⟨p.toArray⟩ : ByteArray)) ⟨#[32]⟩ w (fun j x hx => by
    rw [List.getElem?_map] at hx
    rcases hp : ps[j]? with _ | p
    · simp [hp] at hx
    · simp only [hp, Option.map_some, Option.some.injEq] at hx
      rw [← hx]
      exact hc j p hp) hg (by simp; have := join_lenB ps; omega) (by simpa using hnc) (by rw [e]; omega)
  rw [e] at hj
  simp only [List.length_map] at hj
  refine (show Calls _ _ _ _ _ from hj).mono ?_
  rintro e w2 ⟨rfl, hb2⟩
  exact ⟨rfl, Fp.of_below hb2⟩

/-- A text that is the text of that entry, which may be. -/
structure Parsed (l : List UInt8) (r a p b q r2 a2 p2 b2 q2 st dl n : Nat) (oa op ia ip : Nat → Nat) : Prop where
  text : l = entT r a p b q r2 a2 p2 b2 q2 st dl oa op ia ip n
  chk : chkB r p q r2 p2 q2 (decide (r = r2 ∧ a = a2 ∧ p = p2 ∧ b = b2 ∧ q = q2)) (st : Int) (dl : Int) n = true
  o : a < 4294967296 ∧ p ≤ 65535 ∧ b < 4294967296 ∧ q ≤ 65535
  y : a2 < 4294967296 ∧ p2 ≤ 65535 ∧ b2 < 4294967296 ∧ q2 ≤ 65535
  h : ∀ i, i < n → oa i < 4294967296 ∧ op i ≤ 65535 ∧ ia i < 4294967296 ∧ ip i ≤ 65535
theorem chkB_parts {r p q r2 p2 q2 : Nat} {same : Bool} {st dl : Int} {n : Nat} (h : chkB r p q r2 p2 q2 same st dl n = true) :
    tupB r p q = true ∧ tupB r2 p2 q2 = true ∧ same = false ∧ r = r2 ∧ 0 < toN (flowN r) st ∧ (0 ≤ dl ∧ dl ≤ 1099511635216) ∧ (1 ≤ n ∧ n ≤ 2) := by
  unfold chkB at h
  simp only [Bool.and_eq_true, decide_eq_true_eq, Bool.not_eq_true'] at h
  obtain ⟨⟨⟨⟨⟨⟨h1, h2⟩, h3⟩, h4⟩, h5⟩, h6⟩, h7⟩ := h
  exact ⟨h1, h2, h3, h4, h5, h6, h7⟩
section
variable {l : List UInt8} {r a p b q r2 a2 p2 b2 q2 st dl n : Nat} {oa op ia ip : Nat → Nat}
theorem Parsed.pcs (h : Parsed l r a p b q r2 a2 p2 b2 q2 st dl n oa op ia ip) : pieces 32 l = [wordOf r, withT 58 a p, withT 58 b q, [124], wordOf r2, withT 58 a2 p2, withT 58 b2 q2, decDigits st, decDigits dl] ++ (List.range n).map (holdT oa op ia ip) := by
  rw [h.text]; exact entT_pieces _ _ _ _ _ _ _ _ _ _ _ _ _ _ _ _ _
theorem Parsed.len (h : Parsed l r a p b q r2 a2 p2 b2 q2 st dl n oa op ia ip) : (pieces 32 l).length = 9 + n ∧ 1 ≤ n ∧ n ≤ 2 := by
  rw [h.pcs]
  exact ⟨by simp; omega, (chkB_parts h.chk).2.2.2.2.2.2⟩
theorem Parsed.small (h : Parsed l r a p b q r2 a2 p2 b2 q2 st dl n oa op ia ip) : st < 9223372036854775808 ∧ dl < 9223372036854775808 := by
  have h5 := (chkB_parts h.chk).2.2.2.2.1
  have h6 := (chkB_parts h.chk).2.2.2.2.2.1
  have : (st : Int) ≤ 7 := by
    unfold toN at h5
    split at h5
    · rename_i hh; exact hh.2
    · omega
  omega
theorem Parsed.hold (h : Parsed l r a p b q r2 a2 p2 b2 q2 st dl n oa op ia ip) {i : Nat} (hi : i < n) : holdOf (holdT oa op ia ip i) = some (oa i, op i, ia i, ip i) :=
  holdOf_some.2 ⟨rfl, h.h i hi⟩
theorem Parsed.tup1 (h : Parsed l r a p b q r2 a2 p2 b2 q2 st dl n oa op ia ip) : tupOf (joinB [wordOf r, withT 58 a p, withT 58 b q]) = some (r, a, p, b, q) :=
  tupOf_some.2 ⟨rfl, (chkB_parts h.chk).1, h.o⟩
theorem Parsed.tup2 (h : Parsed l r a p b q r2 a2 p2 b2 q2 st dl n oa op ia ip) : tupOf (joinB [wordOf r2, withT 58 a2 p2, withT 58 b2 q2]) = some (r2, a2, p2, b2, q2) :=
  tupOf_some.2 ⟨rfl, (chkB_parts h.chk).2.1, h.y⟩
end
end Go.Proofs.YtdmbjndhdldggaaGreatDoor
