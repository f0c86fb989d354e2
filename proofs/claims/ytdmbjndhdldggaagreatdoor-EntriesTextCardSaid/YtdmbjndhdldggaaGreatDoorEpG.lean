/- Chapter 18: why a text is no entry's (plain; written by genparse10.py). · Chapter 18: what was read is the one entry whose text it may be (plain). · Chapter 18: a text is the text of one entry (plain). -/
import Derived.Test.YtdmbjndhdldggaaGreatDoorEpB
namespace Go.Proofs.YtdmbjndhdldggaaGreatDoor
set_option linter.unusedVariables false
set_option linter.unusedSimpArgs false
open Go.RowKit Go.Lib Go.Sort
section
variable {l : List UInt8} {p0 p1 p2 p3 p4 p5 p6 p7 p8 : List UInt8} {hs : List (List UInt8)}
theorem parsed_words (hps : pieces 32 l = p0 :: p1 :: p2 :: p3 :: p4 :: p5 :: p6 :: p7 :: p8 :: hs) {r a p b q r2 a2 p2' b2 q2 st dl n : Nat} {oa op ia ip : Nat → Nat} (h : Parsed l r a p b q r2 a2 p2' b2 q2 st dl n oa op ia ip) :
    (p0 = wordOf r ∧ p1 = withT 58 a p ∧ p2 = withT 58 b q ∧ p3 = [124]) ∧ (p4 = wordOf r2 ∧ p5 = withT 58 a2 p2' ∧ p6 = withT 58 b2 q2) ∧ p7 = decDigits st ∧ p8 = decDigits dl ∧ hs = (List.range n).map (holdT oa op ia ip) := by
  have e := hps.symm.trans h.pcs
  simp only [List.cons_append, List.nil_append, List.cons.injEq] at e
  obtain ⟨e0, e1, e2, e3, e4, e5, e6, e7, e8, e9⟩ := e
  exact ⟨⟨e0, e1, e2, e3⟩, ⟨e4, e5, e6⟩, e7, e8, e9⟩
theorem np_bar (hps : pieces 32 l = p0 :: p1 :: p2 :: p3 :: p4 :: p5 :: p6 :: p7 :: p8 :: hs) (hb : p3 ≠ [124]) : NP l := fun _ _ _ _ _ _ _ _ _ _ _ _ _ _ _ _ _ h => hb (parsed_words hps h).1.2.2.2
theorem np_t1 (hps : pieces 32 l = p0 :: p1 :: p2 :: p3 :: p4 :: p5 :: p6 :: p7 :: p8 :: hs) (hb : tupOf (joinB [p0, p1, p2]) = none) : NP l := fun _ _ _ _ _ _ _ _ _ _ _ _ _ _ _ _ _ h => by
  obtain ⟨⟨e0, e1, e2, _⟩, _⟩ := parsed_words hps h
  rw [e0, e1, e2, h.tup1] at hb
  cases hb
theorem np_t2 (hps : pieces 32 l = p0 :: p1 :: p2 :: p3 :: p4 :: p5 :: p6 :: p7 :: p8 :: hs) (hb : tupOf (joinB [p4, p5, p6]) = none) : NP l := fun _ _ _ _ _ _ _ _ _ _ _ _ _ _ _ _ _ h => by
  obtain ⟨_, ⟨e0, e1, e2⟩, _⟩ := parsed_words hps h
  rw [e0, e1, e2, h.tup2] at hb
  cases hb
theorem np_a1 (hps : pieces 32 l = p0 :: p1 :: p2 :: p3 :: p4 :: p5 :: p6 :: p7 :: p8 :: hs) (hb : ∀ u, Lib.atoiAll p7 ≠ .ok u) : NP l := fun _ _ _ _ _ _ _ _ _ _ _ _ _ _ _ _ _ h => by
  obtain ⟨_, _, e0, _⟩ := parsed_words hps h
  exact hb _ (by rw [e0]; exact atoi_dec _ h.small.1)
theorem np_a2 (hps : pieces 32 l = p0 :: p1 :: p2 :: p3 :: p4 :: p5 :: p6 :: p7 :: p8 :: hs) (hb : ∀ u, Lib.atoiAll p8 ≠ .ok u) : NP l := fun _ _ _ _ _ _ _ _ _ _ _ _ _ _ _ _ _ h => by
  obtain ⟨_, _, _, e0, _⟩ := parsed_words hps h
  exact hb _ (by rw [e0]; exact atoi_dec _ h.small.2)
theorem np_h (hps : pieces 32 l = p0 :: p1 :: p2 :: p3 :: p4 :: p5 :: p6 :: p7 :: p8 :: hs) {i : Nat} {x : List UInt8} (hi : hs[i]? = some x) (hb : holdOf x = none) : NP l := fun _ _ _ _ _ _ _ _ _ _ _ _ _ _ _ _ _ h => by
  obtain ⟨_, _, _, _, e0⟩ := parsed_words hps h
  rw [e0, List.getElem?_map] at hi
  rcases hr : (List.range _)[i]? with _ | j
  · rw [hr] at hi; cases hi
  · rw [hr] at hi
    obtain ⟨hlt, hj⟩ := List.getElem?_eq_some_iff.1 hr
    simp at hlt hj hi
    subst hj
    rw [← hi, h.hold hlt] at hb
    cases hb
end
end Go.Proofs.YtdmbjndhdldggaaGreatDoor
namespace Go.Proofs.YtdmbjndhdldggaaGreatDoor
set_option linter.unusedVariables false
set_option linter.unusedSimpArgs false
open Go.RowKit Go.Lib Go.Sort
theorem entT_congr {r a p b q r2 a2 p2 b2 q2 st dl n : Nat} {oa op ia ip oa' op' ia' ip' : Nat → Nat} (h : ∀ i, i < n → oa i = oa' i ∧ op i = op' i ∧ ia i = ia' i ∧ ip i = ip' i) :
    entT r a p b q r2 a2 p2 b2 q2 st dl oa op ia ip n = entT r a p b q r2 a2 p2 b2 q2 st dl oa' op' ia' ip' n := by
  unfold entT rowsT
  congr 2
  apply List.map_congr_left
  intro i hi
  obtain ⟨h1, h2, h3, h4⟩ := h i (List.mem_range.1 hi)
  unfold holdT
  rw [h1, h2, h3, h4]
section
variable {l : List UInt8} {p0 p1 p2 p3 p4 p5 p6 p7 p8 : List UInt8} {hs : List (List UInt8)} {r1 a1 b1 c1 d1 r2 a2 b2 c2 d2 : Nat} {st dl : Int} {F : Nat → Nat × Nat × Nat × Nat}
/-- All that was read. -/
structure Read (l p0 p1 p2 p3 p4 p5 p6 p7 p8 : List UInt8) (hs : List (List UInt8)) (r1 a1 b1 c1 d1 r2 a2 b2 c2 d2 : Nat) (st dl : Int) (F : Nat → Nat × Nat × Nat × Nat) : Prop where
  ps : pieces 32 l = p0 :: p1 :: p2 :: p3 :: p4 :: p5 :: p6 :: p7 :: p8 :: hs
  t1 : tupOf (joinB [p0, p1, p2]) = some (r1, a1, b1, c1, d1)
  t2 : tupOf (joinB [p4, p5, p6]) = some (r2, a2, b2, c2, d2)
  n1 : Lib.atoiAll p7 = .ok st
  n2 : Lib.atoiAll p8 = .ok dl
  h : ∀ j, j < hs.length → ∃ x, hs[j]? = some x ∧ holdOf x = some (F j)
theorem Read.eq (R : Read l p0 p1 p2 p3 p4 p5 p6 p7 p8 hs r1 a1 b1 c1 d1 r2 a2 b2 c2 d2 st dl F) {r a p b q r2' a2' p2' b2' q2' st' dl' n : Nat} {oa op ia ip : Nat → Nat} (h : Parsed l r a p b q r2' a2' p2' b2' q2' st' dl' n oa op ia ip) :
    (r1 = r ∧ a1 = a ∧ b1 = p ∧ c1 = b ∧ d1 = q) ∧ (r2 = r2' ∧ a2 = a2' ∧ b2 = p2' ∧ c2 = b2' ∧ d2 = q2') ∧ st = (st' : Int) ∧ dl = (dl' : Int) ∧ n = hs.length ∧ ∀ i, i < n → F i = (oa i, op i, ia i, ip i) := by
  obtain ⟨⟨e0, e1, e2, e3⟩, ⟨e4, e5, e6⟩, e7, e8, e9⟩ := parsed_words R.ps h
  have h1 := R.t1
  have h2 := R.t2
  have h3 := R.n1
  have h4 := R.n2
  rw [e0, e1, e2, h.tup1] at h1
  rw [e4, e5, e6, h.tup2] at h2
  rw [e7, atoi_dec _ h.small.1] at h3
  rw [e8, atoi_dec _ h.small.2] at h4
  simp only [Option.some.injEq, Prod.mk.injEq] at h1 h2
  obtain ⟨q1, q2, q3, q4, q5⟩ := h1
  obtain ⟨s1, s2, s3, s4, s5⟩ := h2
  have hn : n = hs.length := by rw [e9]; simp
  refine ⟨⟨q1.symm, q2.symm, q3.symm, q4.symm, q5.symm⟩, ⟨s1.symm, s2.symm, s3.symm, s4.symm, s5.symm⟩, by cases h3; rfl, by cases h4; rfl, hn, fun i hi => ?_⟩
  obtain ⟨x, hx, hh⟩ := R.h i (by omega)
  rw [e9, List.getElem?_map, List.getElem?_range hi] at hx
  simp at hx
  rw [← hx, h.hold hi] at hh
  exact (Option.some.inj hh).symm
theorem Read.np (R : Read l p0 p1 p2 p3 p4 p5 p6 p7 p8 hs r1 a1 b1 c1 d1 r2 a2 b2 c2 d2 st dl F) (hc : chkB r1 b1 d1 r2 b2 d2 (decide (r1 = r2 ∧ a1 = a2 ∧ b1 = b2 ∧ c1 = c2 ∧ d1 = d2)) st dl hs.length = false) : NP l := by
  intro r a p b q r2' a2' p2' b2' q2' st' dl' n oa op ia ip h
  obtain ⟨⟨rfl, rfl, rfl, rfl, rfl⟩, ⟨rfl, rfl, rfl, rfl, rfl⟩, rfl, rfl, rfl, _⟩ := R.eq h
  rw [h.chk] at hc
  cases hc
theorem Read.np2 {sn dn : Nat} (R : Read l p0 p1 p2 p3 p4 p5 p6 p7 p8 hs r1 a1 b1 c1 d1 r2 a2 b2 c2 d2 (sn : Int) (dn : Int) F) (hc : entT r1 a1 b1 c1 d1 r2 a2 b2 c2 d2 sn dn (fun i => (F i).1) (fun i => (F i).2.1) (fun i => (F i).2.2.1) (fun i => (F i).2.2.2) hs.length ≠ l) : NP l := by
  intro r a p b q r2' a2' p2' b2' q2' st' dl' n oa op ia ip h
  obtain ⟨⟨rfl, rfl, rfl, rfl, rfl⟩, ⟨rfl, rfl, rfl, rfl, rfl⟩, hs', hd', rfl, hF⟩ := R.eq h
  obtain rfl : sn = st' := by omega
  obtain rfl : dn = dl' := by omega
  exact hc ((entT_congr (fun i hi => by rw [hF i hi]; exact ⟨rfl, rfl, rfl, rfl⟩)).trans h.text.symm)
theorem Read.yes {sn dn : Nat} (R : Read l p0 p1 p2 p3 p4 p5 p6 p7 p8 hs r1 a1 b1 c1 d1 r2 a2 b2 c2 d2 (sn : Int) (dn : Int) F) (hc : chkB r1 b1 d1 r2 b2 d2 (decide (r1 = r2 ∧ a1 = a2 ∧ b1 = b2 ∧ c1 = c2 ∧ d1 = d2)) (sn : Int) (dn : Int) hs.length = true)
    (ht : entT r1 a1 b1 c1 d1 r2 a2 b2 c2 d2 sn dn (fun i => (F i).1) (fun i => (F i).2.1) (fun i => (F i).2.2.1) (fun i => (F i).2.2.2) hs.length = l) :
    Parsed l r1 a1 b1 c1 d1 r2 a2 b2 c2 d2 sn dn hs.length (fun i => (F i).1) (fun i => (F i).2.1) (fun i => (F i).2.2.1) (fun i => (F i).2.2.2) := by
  refine ⟨ht.symm, hc, (tupOf_some.1 R.t1).2.2, (tupOf_some.1 R.t2).2.2, fun i hi => ?_⟩
  obtain ⟨x, _, hh⟩ := R.h i hi
  rcases hf : F i with ⟨a, p, b, q⟩
  rw [hf] at hh
  exact (holdOf_some.1 hh).2
end
end Go.Proofs.YtdmbjndhdldggaaGreatDoor
namespace Go.Proofs.YtdmbjndhdldggaaGreatDoor
set_option linter.unusedVariables false
set_option linter.unusedSimpArgs false
open Go.RowKit Go.Lib Go.Sort
theorem parsed_inj {l : List UInt8} {r a p b q r2 a2 p2 b2 q2 st dl n : Nat} {oa op ia ip : Nat → Nat} {r' a' p' b' q' r2' a2' p2' b2' q2' st' dl' n' : Nat} {oa' op' ia' ip' : Nat → Nat}
    (h : Parsed l r a p b q r2 a2 p2 b2 q2 st dl n oa op ia ip) (h' : Parsed l r' a' p' b' q' r2' a2' p2' b2' q2' st' dl' n' oa' op' ia' ip') :
    (r = r' ∧ a = a' ∧ p = p' ∧ b = b' ∧ q = q') ∧ (r2 = r2' ∧ a2 = a2' ∧ p2 = p2' ∧ b2 = b2' ∧ q2 = q2') ∧ st = st' ∧ dl = dl' ∧ n' = n ∧ ∀ i, i < n → oa i = oa' i ∧ op i = op' i ∧ ia i = ia' i ∧ ip i = ip' i := by
  have R : Read l (wordOf r) (withT 58 a p) (withT 58 b q) [124] (wordOf r2) (withT 58 a2 p2) (withT 58 b2 q2) (decDigits st) (decDigits dl) ((List.range n).map (holdT oa op ia ip)) r a p b q r2 a2 p2 b2 q2 (st : Int) (dl : Int) (fun i => (oa i, op i, ia i, ip i)) :=
    ⟨h.pcs, h.tup1, h.tup2, atoi_dec _ h.small.1, atoi_dec _ h.small.2, fun j hj => by
      have hj' : j < n := by simpa using hj
      exact ⟨holdT oa op ia ip j, by rw [List.getElem?_map, List.getElem?_range hj']; rfl, h.hold hj'⟩⟩
  obtain ⟨e1, e2, e3, e4, e5, e6⟩ := R.eq h'
  have hn : n' = n := by simpa using e5
  refine ⟨e1, e2, by omega, by omega, hn, fun i hi => ?_⟩
  have := e6 i (by omega)
  simpa using this
theorem np_nil : NP [] := fun r a p b q r2 a2 p2 b2 q2 st dl n oa op ia ip h => by
  have := h.len
  rw [show pieces 32 [] = [[]] from rfl] at this
  simp at this
  omega
end Go.Proofs.YtdmbjndhdldggaaGreatDoor
