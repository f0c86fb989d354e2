/- Chapter 18: the document's Words (plain part). -/
import Derived.Test.YtmghjaoodnkjlaaGreatDoorZr
import Derived.Test.YtmghjaoodnkjlaaGreatDoorEpJ
namespace Go.Proofs.YtmghjaoodnkjlaaGreatDoor
set_option linter.unusedVariables false
set_option linter.unusedSimpArgs false
open Go.RowKit Go.Lib Go.Sort
theorem ext_mid (l : List UInt8) (a b : Nat) : (⟨l.toArray⟩ : ByteArray).extract a b = ⟨((l.drop a).take (b - a)).toArray⟩ := by
  rw [byte_str ((⟨l.toArray⟩ : ByteArray).extract a b), extract_data]
/-- Where Words stands: the words so far, where the next one begins, what is looked at. -/
def wst (l : List UInt8) (ps : List (List UInt8)) (fr i : Nat) : Prop :=
  (i ≤ l.length ∧ fr ≤ i ∧ pieces 32 l = ps ++ pieces 32 (l.drop fr) ∧ (32 : UInt8) ∉ (l.drop fr).take (i - fr)) ∨ (i = l.length + 1 ∧ fr = i ∧ ps = pieces 32 l)
theorem wst_start (l : List UInt8) : wst l [] 0 0 := .inl ⟨by omega, by omega, by simp, by simp⟩
theorem wst_cut {l : List UInt8} {ps : List (List UInt8)} {fr i : Nat} (h : wst l ps fr i) (hi : i < l.length) (hc : l[i] = 32) : wst l (ps ++ [(l.drop fr).take (i - fr)]) (i + 1) (i + 1) := by
  rcases h with ⟨_, h2, h3, h4⟩ | ⟨h1, _, _⟩
  · refine .inl ⟨by omega, by omega, ?_, by simp⟩
    have e : l.drop fr = (l.drop fr).take (i - fr) ++ 32 :: l.drop (i + 1) := by
      have e1 := (List.take_append_drop (i - fr) (l.drop fr)).symm
      rw [List.drop_drop, show fr + (i - fr) = i by omega, List.drop_eq_getElem_cons hi, hc] at e1
      exact e1
    rw [h3, List.append_assoc]
    congr 1
    conv => lhs; rw [e]
    rw [pieces_append, pieces_no h4]
  · omega
theorem wst_end {l : List UInt8} {ps : List (List UInt8)} {fr i : Nat} (h : wst l ps fr i) (hi : i = l.length) : wst l (ps ++ [(l.drop fr).take (i - fr)]) (i + 1) (i + 1) := by
  rcases h with ⟨_, h2, h3, h4⟩ | ⟨h1, _, _⟩
  · refine .inr ⟨by omega, rfl, ?_⟩
    have e : (l.drop fr).take (i - fr) = l.drop fr := List.take_of_length_le (by simp; omega)
    rw [e] at h4 ⊢
    rw [h3, pieces_no h4]
  · omega
theorem wst_skip {l : List UInt8} {ps : List (List UInt8)} {fr i : Nat} (h : wst l ps fr i) (hi : i < l.length) (hc : l[i] ≠ 32) : wst l ps fr (i + 1) := by
  rcases h with ⟨_, h2, h3, h4⟩ | ⟨h1, _, _⟩
  · refine .inl ⟨by omega, by omega, h3, ?_⟩
    rw [show i + 1 - fr = (i - fr) + 1 by omega, List.take_add_one]
    simp only [List.mem_append, not_or]
    refine ⟨h4, ?_⟩
    rw [List.getElem?_drop, show fr + (i - fr) = i by omega, List.getElem?_eq_getElem hi]
    simp only [Option.toList_some, List.mem_singleton]
    exact fun e => hc e.symm
  · omega
theorem wst_done {l : List UInt8} {ps : List (List UInt8)} {fr i : Nat} (h : wst l ps fr i) (hi : l.length < i) : ps = pieces 32 l := by
  rcases h with ⟨h1, _, _⟩ | ⟨_, _, h3⟩
  · omega
  · exact h3
theorem wst_le {l : List UInt8} {ps : List (List UInt8)} {fr i : Nat} (h : wst l ps fr i) : fr ≤ i ∧ i ≤ l.length + 1 ∧ ps.length ≤ l.length + 1 := by
  have hp := pieces_len 32 l
  have hc : l.count 32 ≤ l.length := List.count_le_length
  rcases h with ⟨h1, h2, h3, _⟩ | ⟨h1, h2, h3⟩
  · rw [h3, List.length_append] at hp; omega
  · rw [← h3] at hp; omega
end Go.Proofs.YtmghjaoodnkjlaaGreatDoor
