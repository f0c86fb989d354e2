/- Chapter 18: texts of tuples and of entries, and what is read of them (plain). -/
import Derived.Test.YtmghjaoodnkjlaaGreatDoorEpY
import Derived.Test.YtmghjaoodnkjlaaGreatDoorEnL
namespace Go.Proofs.YtmghjaoodnkjlaaGreatDoor
set_option linter.unusedVariables false
set_option linter.unusedSimpArgs false
open Go.RowKit Go.Lib Go.Sort

theorem joinB_cons (x y : List UInt8) (l : List (List UInt8)) : joinB (x :: y :: l) = x ++ 32 :: joinB (y :: l) := by simp [joinB, List.intercalate]
theorem joinB_one (x : List UInt8) : joinB [x] = x := by simp [joinB, List.intercalate]
theorem pieces_joinB : ∀ (ps : List (List UInt8)), ps ≠ [] → (∀ p, p ∈ ps → (32 : UInt8) ∉ p) → pieces 32 (joinB ps) = ps
  | [], h, _ => absurd rfl h
  | [x], _, h => by rw [joinB_one]; exact pieces_no (h x (by simp))
  | x :: y :: l, _, h => by
    rw [joinB_cons, pieces_append, pieces_no (h x (by simp)), pieces_joinB (y :: l) (by simp) (fun p hp => h p (by simp at hp ⊢; exact .inr hp))]
    rfl
theorem joinB_flat : ∀ (p : List UInt8) (ps : List (List UInt8)), joinB (p :: ps) = p ++ ps.flatMap fun q => 32 :: q
  | p, [] => by simp [joinB_one]
  | p, q :: ps => by rw [joinB_cons, joinB_flat q ps]; simp
theorem joinB_pieces (l : List UInt8) : joinB (pieces 32 l) = l := by
  rcases h : pieces 32 l with _ | ⟨p, ps⟩
  · exact absurd h (pieces_ne 32 l)
  · rw [joinB_flat]; exact (pieces_join l p ps h).symm

theorem addrT_no32 (a : Nat) : (32 : UInt8) ∉ addrT a := addrT_no (by decide) (fun u => dec_no32)
theorem withT_no32 (a p : Nat) : (32 : UInt8) ∉ withT 58 a p := by
  unfold withT
  simp only [List.mem_append, List.mem_cons, not_or]
  exact ⟨addrT_no32 a, by decide, dec_no32⟩
theorem withT_no61 (a p : Nat) : (61 : UInt8) ∉ withT 58 a p := by
  have hd : ∀ u, (61 : UInt8) ∉ decDigits u := fun u hm => by have := dec_digits u 61 hm; simp at this
  unfold withT
  simp only [List.mem_append, List.mem_cons, not_or]
  exact ⟨addrT_no (by decide) hd, by decide, hd p⟩
theorem wordOf_no32 (k : Nat) : (32 : UInt8) ∉ wordOf k := by unfold wordOf; split <;> (try split) <;> (try split) <;> decide

/-- The protocol of a word. -/
def wordNo (l : List UInt8) : Option Nat := if l = wordOf 1 then some 1 else if l = wordOf 6 then some 6 else if l = wordOf 17 then some 17 else none
theorem wordNo_some {l : List UInt8} {k : Nat} : wordNo l = some k ↔ isWord k = true ∧ l = wordOf k := by
  unfold wordNo isWord
  constructor
  · intro h
    split at h
    · cases h; exact ⟨rfl, by assumption⟩
    · split at h
      · cases h; exact ⟨rfl, by assumption⟩
      · split at h
        · cases h; exact ⟨rfl, by assumption⟩
        · cases h
  · rintro ⟨h, rfl⟩
    have h' := of_decide_eq_true h
    rcases h' with rfl | rfl | rfl <;> rfl
theorem wordNo_of {k : Nat} (h : isWord k = true) : wordNo (wordOf k) = some k := wordNo_some.2 ⟨h, rfl⟩

/-- The tuple of a text. -/
def tupOf (l : List UInt8) : Option (Nat × Nat × Nat × Nat × Nat) :=
  match pieces 32 l with
  | [w0, w1, w2] => match wordNo w0, withOf 58 65535 w1, withOf 58 65535 w2 with
    | some k, some (a, p), some (b, q) => if tupB k p q = true then some (k, a, p, b, q) else none
    | _, _, _ => none
  | _ => none
theorem tupB_word {k p q : Nat} (h : tupB k p q = true) : isWord k = true := by
  unfold tupB at h
  simp only [Bool.and_eq_true] at h
  exact h.1
theorem tupT_pieces (k a p b q : Nat) : pieces 32 (tupT k a p b q) = [wordOf k, withT 58 a p, withT 58 b q] :=
  pieces_joinB _ (by simp) (fun x hx => by
    simp only [List.mem_cons, List.not_mem_nil, or_false] at hx
    rcases hx with rfl | rfl | rfl
    · exact wordOf_no32 k
    · exact withT_no32 a p
    · exact withT_no32 b q)
theorem tupOf_some {l : List UInt8} {k a p b q : Nat} : tupOf l = some (k, a, p, b, q) ↔ l = tupT k a p b q ∧ tupB k p q = true ∧ a < 4294967296 ∧ p ≤ 65535 ∧ b < 4294967296 ∧ q ≤ 65535 := by
  have w := fun (l : List UInt8) (a n : Nat) => @withOf_some 58 (by decide) (fun u => dec_no58) 65535 l a n
  constructor
  · intro h
    unfold tupOf at h
    split at h
    · rename_i w0 w1 w2 hp
      split at h
      · rename_i k' a' p' b' q' h0 h1 h2
        split at h
        · rename_i hB
          simp only [Option.some.injEq, Prod.mk.injEq] at h
          obtain ⟨rfl, rfl, rfl, rfl, rfl⟩ := h
          obtain ⟨_, e0⟩ := wordNo_some.1 h0
          obtain ⟨e1, ha, hp'⟩ := (w _ _ _).1 h1
          obtain ⟨e2, hb, hq'⟩ := (w _ _ _).1 h2
          refine ⟨?_, hB, ha, hp', hb, hq'⟩
          rw [← joinB_pieces l, hp, e0, e1, e2]; rfl
        · cases h
      · cases h
    · cases h
  · rintro ⟨rfl, hB, ha, hp, hb, hq⟩
    unfold tupOf
    rw [tupT_pieces]
    dsimp only
    rw [wordNo_of (tupB_word hB), (w _ _ _).2 ⟨rfl, ha, hp⟩, (w _ _ _).2 ⟨rfl, hb, hq⟩]
    dsimp only
    rw [if_pos hB]

/-- The hold of a text: it is cut at the first sign '='. -/
def holdOf (l : List UInt8) : Option (Nat × Nat × Nat × Nat) :=
  match cutFirst 61 l with
  | some (x, y) => match withOf 58 65535 x, withOf 58 65535 y with
    | some (a, p), some (b, q) => some (a, p, b, q)
    | _, _ => none
  | none => none
theorem holdOf_some {l : List UInt8} {a p b q : Nat} : holdOf l = some (a, p, b, q) ↔ l = withT 58 a p ++ 61 :: withT 58 b q ∧ a < 4294967296 ∧ p ≤ 65535 ∧ b < 4294967296 ∧ q ≤ 65535 := by
  have w := fun (l : List UInt8) (a n : Nat) => @withOf_some 58 (by decide) (fun u => dec_no58) 65535 l a n
  constructor
  · intro h
    unfold holdOf at h
    split at h
    · rename_i x y hc
      split at h
      · rename_i a' p' b' q' h1 h2
        simp only [Option.some.injEq, Prod.mk.injEq] at h
        obtain ⟨rfl, rfl, rfl, rfl⟩ := h
        obtain ⟨e1, ha, hp⟩ := (w _ _ _).1 h1
        obtain ⟨e2, hb, hq⟩ := (w _ _ _).1 h2
        exact ⟨by rw [(cutFirst_some.1 hc).1, e1, e2], ha, hp, hb, hq⟩
      · cases h
    · cases h
  · rintro ⟨rfl, ha, hp, hb, hq⟩
    unfold holdOf
    rw [cutFirst_some.2 ⟨rfl, withT_no61 a p⟩]
    dsimp only
    rw [(w _ _ _).2 ⟨rfl, ha, hp⟩, (w _ _ _).2 ⟨rfl, hb, hq⟩]
/-- The words of an entry's text. -/
theorem holdT_no32 (oa op ia ip : Nat → Nat) (i : Nat) : (32 : UInt8) ∉ holdT oa op ia ip i := by
  unfold holdT
  simp only [List.mem_append, List.mem_cons, not_or]
  exact ⟨withT_no32 _ _, by decide, withT_no32 _ _⟩
theorem entT_pieces (r a p b q r2 a2 p2 b2 q2 st dl : Nat) (oa op ia ip : Nat → Nat) (n : Nat) :
    pieces 32 (entT r a p b q r2 a2 p2 b2 q2 st dl oa op ia ip n) = [wordOf r, withT 58 a p, withT 58 b q, [124], wordOf r2, withT 58 a2 p2, withT 58 b2 q2, decDigits st, decDigits dl] ++ (List.range n).map (holdT oa op ia ip) := by
  have key : entT r a p b q r2 a2 p2 b2 q2 st dl oa op ia ip n = joinB ([wordOf r, withT 58 a p, withT 58 b q, [124], wordOf r2, withT 58 a2 p2, withT 58 b2 q2, decDigits st, decDigits dl] ++ (List.range n).map (holdT oa op ia ip)) := by
    unfold entT rowsT tupT
    simp only [List.cons_append, List.nil_append, joinB_cons, joinB_one, joinB_flat]
    simp
  rw [key]
  refine pieces_joinB _ (by simp) (fun x hx => ?_)
  simp only [List.mem_append, List.mem_cons, List.not_mem_nil, or_false, List.mem_map] at hx
  rcases hx with (rfl | rfl | rfl | rfl | rfl | rfl | rfl | rfl | rfl) | ⟨i, _, rfl⟩
  · exact wordOf_no32 _
  · exact withT_no32 _ _
  · exact withT_no32 _ _
  · decide
  · exact wordOf_no32 _
  · exact withT_no32 _ _
  · exact withT_no32 _ _
  · exact dec_no32
  · exact dec_no32
  · exact holdT_no32 _ _ _ _ _
end Go.Proofs.YtmghjaoodnkjlaaGreatDoor
