/- Chapter 18: entries.hold; Text of an entry that may not be (written by genhold.py). · Chapter 18: what a text that is an entry's says (plain); Atoi; Join of a part of a row. · Chapter 18: entries.Parse (written by genparsee.py). · Chapter 18: why a text is no entry's (plain; written by genparse10.py). · Chapter 18: what was read is the one entry whose text it may be (plain). · Chapter 18: a text is the text of one entry (plain). -/
import Derived.Test.YtmghjaoodnkjlaaGreatDoorEpT
import Derived.Lib.AtoiAllCases
import Derived.Lib.ParseIntBCases
import Derived.Test.YtmghjaoodnkjlaaGreatDoorZc
namespace Go.Proofs.YtmghjaoodnkjlaaGreatDoor
set_option linter.unusedVariables false
set_option linter.unusedSimpArgs false
open Go.RowKit Go.Lib Go.Sort
end Go.Proofs.YtmghjaoodnkjlaaGreatDoor
namespace Go.Proofs.YtmghjaoodnkjlaaGreatDoor
set_option linter.unusedVariables false
set_option linter.unusedSimpArgs false
open Go.RowKit Go.Lib Go.Sort

theorem atoi_dec (n : Nat) (hn : n < 9223372036854775808) : Lib.atoiAll (decDigits n) = .ok (n : Int) := by
  have hd := dec_digits n
  have hv : (decDigits n).foldl (fun a c => a * 10 + (c.toNat - 48)) 0 = n := val_of_dec n
  have hp := parse_val 18446744073709551615 (by omega) (decDigits n) 0 hd (by rw [hv]; omega)
  rw [hv, parseUintM_64] at hp
  rcases hl : decDigits n with _ | ⟨c, r⟩
  · exact absurd hl (dec_ne n)
  · rw [hl] at hp hd
    have hc := hd c (by simp)
    rw [Lib.atoiAll_plain c r (by omega) (by omega)]
    unfold Lib.parseMag
    rw [if_neg (by simp), hp]
    simp only [Lib.signless]
    rw [if_neg (by omega)]

theorem join_at (g o n c : Nat) (ps : List (List UInt8)) (w : World) (hc : ∀ j x, ps[j]? = some x → w.cell? ⟨g, o + j, none⟩ = some (str x)) (hg : g < w.heap.size) (hn : ps.length = n) (hnc : n ≤ c) (hs : (joinB ps).length ≤ 140737488355327) :
    Calls Tryz.prog 37 #[.slice (some ⟨g, o, none⟩) n c, .string ⟨#[32]⟩] w (Ret1 (str (joinB ps)) w) := by
  subst hn
  have e : Lib.join ((ps.map fun p => (⟨p.toArray⟩ : ByteArray)).map (·.data.toList)) (⟨#[32]⟩ : ByteArray).data.toList = joinB ps := by
    have : ((ps.map fun p => (⟨p.toArray⟩ : ByteArray)).map (·.data.toList)) = ps := by simp [Function.comp_def]
    rw [this]; rfl
  have hj := Tryz.strings_Join g o c (ps.map fun p => (⟨p.toArray⟩ : ByteArray)) ⟨#[32]⟩ w (fun j x hx => by
    rw [List.getElem?_map] at hx
    rcases hp : ps[j]? with _ | p
    · simp [hp] at hx
    · simp only [hp, Option.map_some, Option.some.injEq] at hx
      rw [← hx]
      exact hc j p hp) hg (by simp; have := join_lenB ps; omega) (by simpa using hnc) (by rw [e]; omega)
  rw [e] at hj
  simp only [List.length_map] at hj
  refine (show Calls _ _ _ _ _ from hj).mono ?_
  rintro e w2 ⟨rfl, hb2⟩
  exact ⟨rfl, Fp.of_below hb2⟩

/-- A text that is the text of that entry, which may be. -/
structure Parsed (l : List UInt8) (r a p b q r2 a2 p2 b2 q2 st dl n : Nat) (oa op ia ip : Nat → Nat) : Prop where
  text : l = entT r a p b q r2 a2 p2 b2 q2 st dl oa op ia ip n
  chk : chkB r p q r2 p2 q2 (decide (r = r2 ∧ a = a2 ∧ p = p2 ∧ b = b2 ∧ q = q2)) (st : Int) (dl : Int) n = true
  o : a < 4294967296 ∧ p ≤ 65535 ∧ b < 4294967296 ∧ q ≤ 65535
  y : a2 < 4294967296 ∧ p2 ≤ 65535 ∧ b2 < 4294967296 ∧ q2 ≤ 65535
  h : ∀ i, i < n → oa i < 4294967296 ∧ op i ≤ 65535 ∧ ia i < 4294967296 ∧ ip i ≤ 65535
theorem chkB_parts {r p q r2 p2 q2 : Nat} {same : Bool} {st dl : Int} {n : Nat} (h : chkB r p q r2 p2 q2 same st dl n = true) :
    tupB r p q = true ∧ tupB r2 p2 q2 = true ∧ same = false ∧ r = r2 ∧ 0 < toN (flowN r) st ∧ (0 ≤ dl ∧ dl ≤ 1099511635216) ∧ (1 ≤ n ∧ n ≤ 2) := by
  unfold chkB at h
  simp only [Bool.and_eq_true, decide_eq_true_eq, Bool.not_eq_true'] at h
  obtain ⟨⟨⟨⟨⟨⟨h1, h2⟩, h3⟩, h4⟩, h5⟩, h6⟩, h7⟩ := h
  exact ⟨h1, h2, h3, h4, h5, h6, h7⟩
section
variable {l : List UInt8} {r a p b q r2 a2 p2 b2 q2 st dl n : Nat} {oa op ia ip : Nat → Nat}
theorem Parsed.pcs (h : Parsed l r a p b q r2 a2 p2 b2 q2 st dl n oa op ia ip) : pieces 32 l = [wordOf r, withT 58 a p, withT 58 b q, [124], wordOf r2, withT 58 a2 p2, withT 58 b2 q2, decDigits st, decDigits dl] ++ (List.range n).map (holdT oa op ia ip) := by
  rw [h.text]; exact entT_pieces _ _ _ _ _ _ _ _ _ _ _ _ _ _ _ _ _
theorem Parsed.len (h : Parsed l r a p b q r2 a2 p2 b2 q2 st dl n oa op ia ip) : (pieces 32 l).length = 9 + n ∧ 1 ≤ n ∧ n ≤ 2 := by
  rw [h.pcs]
  exact ⟨by simp; omega, (chkB_parts h.chk).2.2.2.2.2.2⟩
theorem Parsed.small (h : Parsed l r a p b q r2 a2 p2 b2 q2 st dl n oa op ia ip) : st < 9223372036854775808 ∧ dl < 9223372036854775808 := by
  have h5 := (chkB_parts h.chk).2.2.2.2.1
  have h6 := (chkB_parts h.chk).2.2.2.2.2.1
  have : (st : Int) ≤ 7 := by
    unfold toN at h5
    split at h5
    · rename_i hh; exact hh.2
    · omega
  omega
theorem Parsed.hold (h : Parsed l r a p b q r2 a2 p2 b2 q2 st dl n oa op ia ip) {i : Nat} (hi : i < n) : holdOf (holdT oa op ia ip i) = some (oa i, op i, ia i, ip i) :=
  holdOf_some.2 ⟨rfl, h.h i hi⟩
theorem Parsed.tup1 (h : Parsed l r a p b q r2 a2 p2 b2 q2 st dl n oa op ia ip) : tupOf (joinB [wordOf r, withT 58 a p, withT 58 b q]) = some (r, a, p, b, q) :=
  tupOf_some.2 ⟨rfl, (chkB_parts h.chk).1, h.o⟩
theorem Parsed.tup2 (h : Parsed l r a p b q r2 a2 p2 b2 q2 st dl n oa op ia ip) : tupOf (joinB [wordOf r2, withT 58 a2 p2, withT 58 b2 q2]) = some (r2, a2, p2, b2, q2) :=
  tupOf_some.2 ⟨rfl, (chkB_parts h.chk).2.1, h.y⟩
end
end Go.Proofs.YtmghjaoodnkjlaaGreatDoor
namespace Go.Proofs.YtmghjaoodnkjlaaGreatDoor
set_option linter.unusedVariables false
set_option linter.unusedSimpArgs false
open Go.RowKit Go.Lib Go.Sort

/-- The text is no entry's. -/
def NP (l : List UInt8) : Prop := ∀ (r a p b q r2 a2 p2 b2 q2 st dl n : Nat) (oa op ia ip : Nat → Nat), ¬ Parsed l r a p b q r2 a2 p2 b2 q2 st dl n oa op ia ip
theorem tup_val (o : Option (Nat × Nat × Nat × Nat × Nat)) : ∃ (k a p b q : Nat) (e : Int) (z : Bool), tupRV o = .tuple #[.agg #[.int .u8 k, .int .u32 a, .int .u16 p, .int .u32 b, .int .u16 q], .int .i64 e] ∧ (e == 0) = z ∧ (z = true → o = some (k, a, p, b, q)) ∧ (z = false → o = none) := by
  rcases o with _ | ⟨k, a, p, b, q⟩
  · exact ⟨0, 0, 0, 0, 0, 3, false, rfl, rfl, (fun h => by cases h), fun _ => rfl⟩
  · exact ⟨k, a, p, b, q, 0, true, rfl, rfl, fun _ => rfl, fun h => by cases h⟩

end Go.Proofs.YtmghjaoodnkjlaaGreatDoor
namespace Go.Proofs.YtmghjaoodnkjlaaGreatDoor
set_option linter.unusedVariables false
set_option linter.unusedSimpArgs false
open Go.RowKit Go.Lib Go.Sort
section
variable {l : List UInt8} {p0 p1 p2 p3 p4 p5 p6 p7 p8 : List UInt8} {hs : List (List UInt8)}
theorem parsed_words (hps : pieces 32 l = p0 :: p1 :: p2 :: p3 :: p4 :: p5 :: p6 :: p7 :: p8 :: hs) {r a p b q r2 a2 p2' b2 q2 st dl n : Nat} {oa op ia ip : Nat → Nat} (h : Parsed l r a p b q r2 a2 p2' b2 q2 st dl n oa op ia ip) :
    (p0 = wordOf r ∧ p1 = withT 58 a p ∧ p2 = withT 58 b q ∧ p3 = [124]) ∧ (p4 = wordOf r2 ∧ p5 = withT 58 a2 p2' ∧ p6 = withT 58 b2 q2) ∧ p7 = decDigits st ∧ p8 = decDigits dl ∧ hs = (List.range n).map (holdT oa op ia ip) := by
  have e := hps.symm.trans h.pcs
  simp only [List.cons_append, List.nil_append, List.cons.injEq] at e
  obtain ⟨e0, e1, e2, e3, e4, e5, e6, e7, e8, e9⟩ := e
  exact ⟨⟨e0, e1, e2, e3⟩, ⟨e4, e5, e6⟩, e7, e8, e9⟩
theorem np_bar (hps : pieces 32 l = p0 :: p1 :: p2 :: p3 :: p4 :: p5 :: p6 :: p7 :: p8 :: hs) (hb : p3 ≠ [124]) : NP l := fun _ _ _ _ _ _ _ _ _ _ _ _ _ _ _ _ _ h => hb (parsed_words hps h).1.2.2.2
theorem np_t1 (hps : pieces 32 l = p0 :: p1 :: p2 :: p3 :: p4 :: p5 :: p6 :: p7 :: p8 :: hs) (hb : tupOf (joinB [p0, p1, p2]) = none) : NP l := fun _ _ _ _ _ _ _ _ _ _ _ _ _ _ _ _ _ h => by
  obtain ⟨⟨e0, e1, e2, _⟩, _⟩ := parsed_words hps h
  rw [e0, e1, e2, h.tup1] at hb
  cases hb
theorem np_t2 (hps : pieces 32 l = p0 :: p1 :: p2 :: p3 :: p4 :: p5 :: p6 :: p7 :: p8 :: hs) (hb : tupOf (joinB [p4, p5, p6]) = none) : NP l := fun _ _ _ _ _ _ _ _ _ _ _ _ _ _ _ _ _ h => by
  obtain ⟨_, ⟨e0, e1, e2⟩, _⟩ := parsed_words hps h
  rw [e0, e1, e2, h.tup2] at hb
  cases hb
theorem np_a1 (hps : pieces 32 l = p0 :: p1 :: p2 :: p3 :: p4 :: p5 :: p6 :: p7 :: p8 :: hs) (hb : ∀ u, Lib.atoiAll p7 ≠ .ok u) : NP l := fun _ _ _ _ _ _ _ _ _ _ _ _ _ _ _ _ _ h => by
  obtain ⟨_, _, e0, _⟩ := parsed_words hps h
  exact hb _ (by rw [e0]; exact atoi_dec _ h.small.1)
theorem np_a2 (hps : pieces 32 l = p0 :: p1 :: p2 :: p3 :: p4 :: p5 :: p6 :: p7 :: p8 :: hs) (hb : ∀ u, Lib.atoiAll p8 ≠ .ok u) : NP l := fun _ _ _ _ _ _ _ _ _ _ _ _ _ _ _ _ _ h => by
  obtain ⟨_, _, _, e0, _⟩ := parsed_words hps h
  exact hb _ (by rw [e0]; exact atoi_dec _ h.small.2)
theorem np_h (hps : pieces 32 l = p0 :: p1 :: p2 :: p3 :: p4 :: p5 :: p6 :: p7 :: p8 :: hs) {i : Nat} {x : List UInt8} (hi : hs[i]? = some x) (hb : holdOf x = none) : NP l := fun _ _ _ _ _ _ _ _ _ _ _ _ _ _ _ _ _ h => by
  obtain ⟨_, _, _, _, e0⟩ := parsed_words hps h
  rw [e0, List.getElem?_map] at hi
  rcases hr : (List.range _)[i]? with _ | j
  · rw [hr] at hi; cases hi
  · rw [hr] at hi
    obtain ⟨hlt, hj⟩ := List.getElem?_eq_some_iff.1 hr
    simp at hlt hj hi
    subst hj
    rw [← hi, h.hold hlt] at hb
    cases hb
end
end Go.Proofs.YtmghjaoodnkjlaaGreatDoor
namespace Go.Proofs.YtmghjaoodnkjlaaGreatDoor
set_option linter.unusedVariables false
set_option linter.unusedSimpArgs false
open Go.RowKit Go.Lib Go.Sort
theorem entT_congr {r a p b q r2 a2 p2 b2 q2 st dl n : Nat} {oa op ia ip oa' op' ia' ip' : Nat → Nat} (h : ∀ i, i < n → oa i = oa' i ∧ op i = op' i ∧ ia i = ia' i ∧ ip i = ip' i) :
    entT r a p b q r2 a2 p2 b2 q2 st dl oa op ia ip n = entT r a p b q r2 a2 p2 b2 q2 st dl oa' op' ia' ip' n := by
  unfold entT rowsT
  congr 2
  apply List.map_congr_left
  intro i hi
  obtain ⟨h1, h2, h3, h4⟩ := h i (List.mem_range.1 hi)
  unfold holdT
  rw [h1, h2, h3, h4]
section
variable {l : List UInt8} {p0 p1 p2 p3 p4 p5 p6 p7 p8 : List UInt8} {hs : List (List UInt8)} {r1 a1 b1 c1 d1 r2 a2 b2 c2 d2 : Nat} {st dl : Int} {F : Nat → Nat × Nat × Nat × Nat}
/-- All that was read. -/
structure Read (l p0 p1 p2 p3 p4 p5 p6 p7 p8 : List UInt8) (hs : List (List UInt8)) (r1 a1 b1 c1 d1 r2 a2 b2 c2 d2 : Nat) (st dl : Int) (F : Nat → Nat × Nat × Nat × Nat) : Prop where
  ps : pieces 32 l = p0 :: p1 :: p2 :: p3 :: p4 :: p5 :: p6 :: p7 :: p8 :: hs
  t1 : tupOf (joinB [p0, p1, p2]) = some (r1, a1, b1, c1, d1)
  t2 : tupOf (joinB [p4, p5, p6]) = some (r2, a2, b2, c2, d2)
  n1 : Lib.atoiAll p7 = .ok st
  n2 : Lib.atoiAll p8 = .ok dl
  h : ∀ j, j < hs.length → ∃ x, hs[j]? = some x ∧ holdOf x = some (F j)
theorem Read.eq (R : Read l p0 p1 p2 p3 p4 p5 p6 p7 p8 hs r1 a1 b1 c1 d1 r2 a2 b2 c2 d2 st dl F) {r a p b q r2' a2' p2' b2' q2' st' dl' n : Nat} {oa op ia ip : Nat → Nat} (h : Parsed l r a p b q r2' a2' p2' b2' q2' st' dl' n oa op ia ip) :
    (r1 = r ∧ a1 = a ∧ b1 = p ∧ c1 = b ∧ d1 = q) ∧ (r2 = r2' ∧ a2 = a2' ∧ b2 = p2' ∧ c2 = b2' ∧ d2 = q2') ∧ st = (st' : Int) ∧ dl = (dl' : Int) ∧ n = hs.length ∧ ∀ i, i < n → F i = (oa i, op i, ia i, ip i) := by
  obtain ⟨⟨e0, e1, e2, e3⟩, ⟨e4, e5, e6⟩, e7, e8, e9⟩ := parsed_words R.ps h
  have h1 := R.t1
  have h2 := R.t2
  have h3 := R.n1
  have h4 := R.n2
  rw [e0, e1, e2, h.tup1] at h1
  rw [e4, e5, e6, h.tup2] at h2
  rw [e7, atoi_dec _ h.small.1] at h3
  rw [e8, atoi_dec _ h.small.2] at h4
  simp only [Option.some.injEq, Prod.mk.injEq] at h1 h2
  obtain ⟨q1, q2, q3, q4, q5⟩ := h1
  obtain ⟨s1, s2, s3, s4, s5⟩ := h2
  have hn : n = hs.length := by rw [e9]; simp
  refine ⟨⟨q1.symm, q2.symm, q3.symm, q4.symm, q5.symm⟩, ⟨s1.symm, s2.symm, s3.symm, s4.symm, s5.symm⟩, by cases h3; rfl, by cases h4; rfl, hn, fun i hi => ?_⟩
  obtain ⟨x, hx, hh⟩ := R.h i (by omega)
  rw [e9, List.getElem?_map, List.getElem?_range hi] at hx
  simp at hx
  rw [← hx, h.hold hi] at hh
  exact (Option.some.inj hh).symm
theorem Read.np (R : Read l p0 p1 p2 p3 p4 p5 p6 p7 p8 hs r1 a1 b1 c1 d1 r2 a2 b2 c2 d2 st dl F) (hc : chkB r1 b1 d1 r2 b2 d2 (decide (r1 = r2 ∧ a1 = a2 ∧ b1 = b2 ∧ c1 = c2 ∧ d1 = d2)) st dl hs.length = false) : NP l := by
  intro r a p b q r2' a2' p2' b2' q2' st' dl' n oa op ia ip h
  obtain ⟨⟨rfl, rfl, rfl, rfl, rfl⟩, ⟨rfl, rfl, rfl, rfl, rfl⟩, rfl, rfl, rfl, _⟩ := R.eq h
  rw [h.chk] at hc
  cases hc
theorem Read.np2 {sn dn : Nat} (R : Read l p0 p1 p2 p3 p4 p5 p6 p7 p8 hs r1 a1 b1 c1 d1 r2 a2 b2 c2 d2 (sn : Int) (dn : Int) F) (hc : entT r1 a1 b1 c1 d1 r2 a2 b2 c2 d2 sn dn (fun i => (F i).1) (fun i => (F i).2.1) (fun i => (F i).2.2.1) (fun i => (F i).2.2.2) hs.length ≠ l) : NP l := by
  intro r a p b q r2' a2' p2' b2' q2' st' dl' n oa op ia ip h
  obtain ⟨⟨rfl, rfl, rfl, rfl, rfl⟩, ⟨rfl, rfl, rfl, rfl, rfl⟩, hs', hd', rfl, hF⟩ := R.eq h
  obtain rfl : sn = st' := by omega
  obtain rfl : dn = dl' := by omega
  exact hc ((entT_congr (fun i hi => by rw [hF i hi]; exact ⟨rfl, rfl, rfl, rfl⟩)).trans h.text.symm)
theorem Read.yes {sn dn : Nat} (R : Read l p0 p1 p2 p3 p4 p5 p6 p7 p8 hs r1 a1 b1 c1 d1 r2 a2 b2 c2 d2 (sn : Int) (dn : Int) F) (hc : chkB r1 b1 d1 r2 b2 d2 (decide (r1 = r2 ∧ a1 = a2 ∧ b1 = b2 ∧ c1 = c2 ∧ d1 = d2)) (sn : Int) (dn : Int) hs.length = true)
    (ht : entT r1 a1 b1 c1 d1 r2 a2 b2 c2 d2 sn dn (fun i => (F i).1) (fun i => (F i).2.1) (fun i => (F i).2.2.1) (fun i => (F i).2.2.2) hs.length = l) :
    Parsed l r1 a1 b1 c1 d1 r2 a2 b2 c2 d2 sn dn hs.length (fun i => (F i).1) (fun i => (F i).2.1) (fun i => (F i).2.2.1) (fun i => (F i).2.2.2) := by
  refine ⟨ht.symm, hc, (tupOf_some.1 R.t1).2.2, (tupOf_some.1 R.t2).2.2, fun i hi => ?_⟩
  obtain ⟨x, _, hh⟩ := R.h i hi
  rcases hf : F i with ⟨a, p, b, q⟩
  rw [hf] at hh
  exact (holdOf_some.1 hh).2
end
end Go.Proofs.YtmghjaoodnkjlaaGreatDoor
namespace Go.Proofs.YtmghjaoodnkjlaaGreatDoor
set_option linter.unusedVariables false
set_option linter.unusedSimpArgs false
open Go.RowKit Go.Lib Go.Sort
theorem parsed_inj {l : List UInt8} {r a p b q r2 a2 p2 b2 q2 st dl n : Nat} {oa op ia ip : Nat → Nat} {r' a' p' b' q' r2' a2' p2' b2' q2' st' dl' n' : Nat} {oa' op' ia' ip' : Nat → Nat}
    (h : Parsed l r a p b q r2 a2 p2 b2 q2 st dl n oa op ia ip) (h' : Parsed l r' a' p' b' q' r2' a2' p2' b2' q2' st' dl' n' oa' op' ia' ip') :
    (r = r' ∧ a = a' ∧ p = p' ∧ b = b' ∧ q = q') ∧ (r2 = r2' ∧ a2 = a2' ∧ p2 = p2' ∧ b2 = b2' ∧ q2 = q2') ∧ st = st' ∧ dl = dl' ∧ n' = n ∧ ∀ i, i < n → oa i = oa' i ∧ op i = op' i ∧ ia i = ia' i ∧ ip i = ip' i := by
  have R : Read l (wordOf r) (withT 58 a p) (withT 58 b q) [124] (wordOf r2) (withT 58 a2 p2) (withT 58 b2 q2) (decDigits st) (decDigits dl) ((List.range n).map (holdT oa op ia ip)) r a p b q r2 a2 p2 b2 q2 (st : Int) (dl : Int) (fun i => (oa i, op i, ia i, ip i)) :=
    ⟨h.pcs, h.tup1, h.tup2, atoi_dec _ h.small.1, atoi_dec _ h.small.2, fun j hj => by
      have hj' : j < n := by simpa using hj
      exact ⟨holdT oa op ia ip j, by rw [List.getElem?_map, List.getElem?_range hj']; rfl, h.hold hj'⟩⟩
  obtain ⟨e1, e2, e3, e4, e5, e6⟩ := R.eq h'
  have hn : n' = n := by simpa using e5
  refine ⟨e1, e2, by omega, by omega, hn, fun i hi => ?_⟩
  have := e6 i (by omega)
  simpa using this
theorem np_nil : NP [] := fun r a p b q r2 a2 p2 b2 q2 st dl n oa op ia ip h => by
  have := h.len
  rw [show pieces 32 [] = [[]] from rfl] at this
  simp at this
  omega
end Go.Proofs.YtmghjaoodnkjlaaGreatDoor
