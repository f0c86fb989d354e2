/- Chapter 18: the document's reading of a tuple and of an entry (plain). -/
import Derived.Test.YtmghjaoodnkjlaaGreatDoorEpG
import Derived.Test.YtmghjaoodnkjlaaGreatDoorZd
import Derived.Test.YtmghjaoodnkjlaaGreatDoorZw
namespace Go.Proofs.YtmghjaoodnkjlaaGreatDoor
set_option linter.unusedVariables false
set_option linter.unusedSimpArgs false
open Go.RowKit Go.Lib Go.Sort
/-- The document's way to read a tuple. -/
def rtupR (l : List UInt8) : Option (Nat × Nat × Nat × Nat × Nat) :=
  match cutLast 32 l with
  | some (rest, dst) => match cutLast 32 rest with
    | some (name, src) => match wordNo name, withOf 58 65535 src, withOf 58 65535 dst with
      | some k, some (a, p), some (b, q) => if tupB k p q = true then some (k, a, p, b, q) else none
      | _, _, _ => none
    | none => none
  | none => none
theorem rtupR_some {l : List UInt8} {k a p b q : Nat} : rtupR l = some (k, a, p, b, q) ↔ l = tupT k a p b q ∧ tupB k p q = true ∧ a < 4294967296 ∧ p ≤ 65535 ∧ b < 4294967296 ∧ q ≤ 65535 := by
  have w := fun (l : List UInt8) (a n : Nat) => @withOf_some 58 (by decide) (fun u => dec_no58) 65535 l a n
  have hT : tupT k a p b q = (wordOf k ++ 32 :: withT 58 a p) ++ 32 :: withT 58 b q := by simp [tupT, joinB, List.intercalate]
  constructor
  · intro h
    unfold rtupR at h
    split at h
    · rename_i rest dst h1
      split at h
      · rename_i name src h2
        split at h
        · rename_i k' a' p' b' q' e0 e1 e2
          split at h
          · rename_i hB
            simp only [Option.some.injEq, Prod.mk.injEq] at h
            obtain ⟨rfl, rfl, rfl, rfl, rfl⟩ := h
            obtain ⟨_, f0⟩ := wordNo_some.1 e0
            obtain ⟨f1, ha, hp'⟩ := (w _ _ _).1 e1
            obtain ⟨f2, hb, hq'⟩ := (w _ _ _).1 e2
            refine ⟨?_, hB, ha, hp', hb, hq'⟩
            rw [(cutLast_some.1 h1).1, (cutLast_some.1 h2).1, f0, f1, f2, hT]
          · cases h
        · cases h
      · cases h
    · cases h
  · rintro ⟨rfl, hB, ha, hp, hb, hq⟩
    unfold rtupR
    rw [hT, cutLast_some.2 ⟨rfl, withT_no32 _ _⟩]
    dsimp only
    rw [cutLast_some.2 ⟨rfl, withT_no32 _ _⟩]
    dsimp only
    rw [wordNo_of (tupB_word hB), (w _ _ _).2 ⟨rfl, ha, hp⟩, (w _ _ _).2 ⟨rfl, hb, hq⟩]
    dsimp only
    rw [if_pos hB]
theorem rtupR_eq (l : List UInt8) : rtupR l = tupOf l := by
  apply Option.ext
  rintro ⟨k, a, p, b, q⟩
  rw [rtupR_some, tupOf_some]

theorem numI_ok {l : List UInt8} (h : 0 ≤ numI l) : Lib.atoiAll l = .ok (numI l) := by
  unfold numI at h ⊢
  split at h
  · rename_i hc
    rw [if_pos hc]
    obtain ⟨h0, h15, hd⟩ := hc
    have hd := digsB_iff.1 hd
    have hv : val l < 10 ^ l.length := val_lt _ l rfl hd
    have hv2 : 10 ^ l.length ≤ 10 ^ 15 := Nat.pow_le_pow_right (by omega) h15
    have hp := parse_val 18446744073709551615 (by omega) l 0 hd (by show val l ≤ _; omega)
    rw [show l.foldl (fun a c => a * 10 + (c.toNat - 48)) 0 = val l from rfl, parseUintM_64] at hp
    rcases l with _ | ⟨c, r⟩
    · exact absurd rfl h0
    · have hc := hd c (by simp)
      rw [Lib.atoiAll_plain c r (by omega) (by omega)]
      unfold Lib.parseMag
      rw [if_neg (by simp), hp]
      simp only [Lib.signless]
      rw [if_neg (by omega)]
  · omega
theorem numI_dec (n : Nat) (hn : n < 1000000000000000) : numI (decDigits n) = n := by
  unfold numI
  rw [if_pos ⟨dec_ne n, dec_len 15 n (by omega) (by omega), digsB_iff.2 (dec_digits n)⟩, val_of_dec]
theorem numI_neg {l : List UInt8} (h : ¬ 0 ≤ numI l) : numI l = -1 := by
  unfold numI at h ⊢
  split
  · rename_i hc; rw [if_pos hc] at h; omega
  · rfl
section
variable {l : List UInt8} {p0 p1 p2 p3 p4 p5 p6 p7 p8 : List UInt8} {hs : List (List UInt8)}
theorem Parsed.st7 {r a p b q r2 a2 p2 b2 q2 st dl n : Nat} {oa op ia ip : Nat → Nat} (h : Parsed l r a p b q r2 a2 p2 b2 q2 st dl n oa op ia ip) : st ≤ 7 ∧ dl ≤ 1099511635216 := by
  have h5 := (chkB_parts h.chk).2.2.2.2.1
  have h6 := (chkB_parts h.chk).2.2.2.2.2.1
  have : (st : Int) ≤ 7 := by
    unfold toN at h5
    split at h5
    · rename_i hh; exact hh.2
    · omega
  omega
/-- What the document read: no entry that may be, or one. -/
theorem rread (hps : pieces 32 l = p0 :: p1 :: p2 :: p3 :: p4 :: p5 :: p6 :: p7 :: p8 :: hs) {r1 a1 b1 c1 d1 r2 a2 b2 c2 d2 : Nat} {F : Nat → Nat × Nat × Nat × Nat}
    (h1 : tupOf (joinB [p0, p1, p2]) = some (r1, a1, b1, c1, d1)) (h2 : tupOf (joinB [p4, p5, p6]) = some (r2, a2, b2, c2, d2))
    (hh : ∀ j, j < hs.length → ∃ x, hs[j]? = some x ∧ holdOf x = some (F j)) :
    (chkB r1 b1 d1 r2 b2 d2 (decide (r1 = r2 ∧ a1 = a2 ∧ b1 = b2 ∧ c1 = c2 ∧ d1 = d2)) (numI p7) (numI p8) hs.length = false → NP l) ∧
    (chkB r1 b1 d1 r2 b2 d2 (decide (r1 = r2 ∧ a1 = a2 ∧ b1 = b2 ∧ c1 = c2 ∧ d1 = d2)) (numI p7) (numI p8) hs.length = true →
      ∃ sn dn : Nat, sn ≤ 7 ∧ dn ≤ 1099511635216 ∧ numI p7 = sn ∧ numI p8 = dn ∧ Read l p0 p1 p2 p3 p4 p5 p6 p7 p8 hs r1 a1 b1 c1 d1 r2 a2 b2 c2 d2 (sn : Int) (dn : Int) F) := by
  refine ⟨fun hc => ?_, fun hc => ?_⟩
  · by_cases h7 : 0 ≤ numI p7
    · by_cases h8 : 0 ≤ numI p8
      · exact Read.np ⟨hps, h1, h2, numI_ok h7, numI_ok h8, hh⟩ hc
      · intro r a p b q r2' a2' p2' b2' q2' st' dl' n oa op ia ip h
        obtain ⟨_, _, _, e8, _⟩ := parsed_words hps h
        rw [e8, numI_dec _ (by have := h.st7; omega)] at h8
        omega
    · intro r a p b q r2' a2' p2' b2' q2' st' dl' n oa op ia ip h
      obtain ⟨_, _, e7, _, _⟩ := parsed_words hps h
      rw [e7, numI_dec _ (by have := h.st7; omega)] at h7
      omega
  · have hparts := chkB_parts hc
    have hst : 0 ≤ numI p7 ∧ numI p7 ≤ 7 := by
      have h5 := hparts.2.2.2.2.1
      unfold toN at h5
      split at h5
      · assumption
      · omega
    have hdl := hparts.2.2.2.2.2.1
    refine ⟨(numI p7).toNat, (numI p8).toNat, by omega, by omega, by omega, by omega, ?_⟩
    refine ⟨hps, h1, h2, ?_, ?_, hh⟩
    · rw [numI_ok hst.1]; congr 1; omega
    · rw [numI_ok hdl.1]; congr 1; omega
end
end Go.Proofs.YtmghjaoodnkjlaaGreatDoor
