/- The library's words for texts that are taken apart at a byte; no program. -/
import Derived.Test.YtdmbjndhdldggaaGreatDoorAd
import Derived.Lib.SplitLaws
import Derived.Lib.IndexBytes
namespace Go.Proofs.YtdmbjndhdldggaaGreatDoor
set_option linter.unusedVariables false
set_option linter.unusedSimpArgs false
open Go.Lib

theorem ib_cut (c : UInt8) : ∀ l : List UInt8, (indexByte l c = -1 ∧ cutFirst c l = none) ∨ ∃ i : Nat, indexByte l c = i ∧ cutFirst c l = some (l.take i, l.drop (i + 1))
  | [] => .inl ⟨rfl, rfl⟩
  | b :: l => by
    by_cases hb : b = c
    · subst hb
      exact .inr ⟨0, by simp [indexByte], by simp [cutFirst]⟩
    · have hb2 : (b == c) = false := by simpa using hb
      rcases ib_cut c l with ⟨h1, h2⟩ | ⟨i, h1, h2⟩
      · exact .inl ⟨by simp [indexByte, hb2, h1], by simp [cutFirst, hb, h2]⟩
      · refine .inr ⟨i + 1, ?_, by simp [cutFirst, hb, h2]⟩
        have : ((i : Int) == -1) = false := by simp
        simp [indexByte, hb2, h1, this]

theorem lib_cut (l : List UInt8) (c : UInt8) : cut l [c] = match cutFirst c l with | some (a, b) => (a, b, true) | none => (l, [], false) := by
  unfold cut
  rw [index_one]
  rcases ib_cut c l with ⟨h1, h2⟩ | ⟨i, h1, h2⟩
  · rw [h1, h2]; rfl
  · rw [h1, h2, if_pos (by omega)]
    simp

theorem pieces_cut {c : UInt8} {l a b : List UInt8} (h : cutFirst c l = some (a, b)) : pieces c l = a :: pieces c b := by
  obtain ⟨rfl, h2⟩ := cutFirst_some.1 h
  rw [pieces_append, pieces_no h2]; rfl

theorem lib_split (c : UInt8) : ∀ (k : Nat) (l : List UInt8), l.count c = k → splitK [c] 0 k l = pieces c l
  | 0, l, h => by
    have : c ∉ l := List.count_eq_zero.1 h
    rw [pieces_no this]; rfl
  | k + 1, l, h => by
    rw [splitK, index_one]
    rcases ib_cut c l with ⟨_, h2⟩ | ⟨i, h1, h2⟩
    · have := cutFirst_none.1 h2
      rw [List.count_eq_zero.2 this] at h; omega
    · have hn : ((i : Int) == -1) = false := by simp
      rw [h1, hn]
      have h3 := cutFirst_some.1 h2
      have hc : (l.drop (i + 1)).count c = k := by
        have e := congrArg (List.count c) h3.1
        rw [List.count_append, List.count_cons_self, List.count_eq_zero.2 h3.2] at e
        omega
      rw [pieces_cut h2]
      simp only [Bool.false_eq_true, if_false, Int.toNat_natCast, Nat.add_zero, List.length_singleton]
      rw [lib_split c k _ hc]

theorem byte_str (s : ByteArray) : s = ⟨s.data.toList.toArray⟩ := by cases s; simp

/-- The pieces that strings.Split lays. -/
theorem split_list (c : UInt8) (l : List UInt8) : splitB ⟨#[c]⟩ 0 (countB ⟨l.toArray⟩ ⟨#[c]⟩) ⟨l.toArray⟩ = (pieces c l).map (fun p => ⟨p.toArray⟩) := by
  have h := splitB_data ⟨#[c]⟩ 0 (countB ⟨l.toArray⟩ ⟨#[c]⟩) ⟨l.toArray⟩
  have hk : countB ⟨l.toArray⟩ ⟨#[c]⟩ = l.count c := by
    show Lib.count l [c] = _
    exact count_one c l
  rw [hk] at h ⊢
  have h2 : (splitB ⟨#[c]⟩ 0 (l.count c) ⟨l.toArray⟩).map (·.data.toList) = pieces c l := by rw [h]; exact lib_split c _ l rfl
  rw [← h2, List.map_map]
  conv => lhs; rw [← List.map_id (splitB ⟨#[c]⟩ 0 (l.count c) ⟨l.toArray⟩)]
  exact List.map_congr_left fun s _ => byte_str s
theorem count_list (c : UInt8) (l : List UInt8) : countB ⟨l.toArray⟩ ⟨#[c]⟩ + 1 = (pieces c l).length := by
  rw [pieces_len]
  show Lib.count l [c] + 1 = _
  rw [count_one]
theorem pieces_le {c : UInt8} : ∀ {l p : List UInt8}, p ∈ pieces c l → p.length ≤ l.length
  | [], p, h => by simp [pieces] at h; subst h; exact Nat.le_refl _
  | b :: l, p, h => by
    rw [pieces] at h
    split at h
    · rcases List.mem_cons.1 h with rfl | h
      · simp
      · have := pieces_le h; simp; omega
    · rcases hq : pieces c l with _ | ⟨q, qs⟩
      · exact absurd hq (pieces_ne c l)
      · rw [hq] at h
        rcases List.mem_cons.1 h with rfl | h
        · have := pieces_le (l := l) (p := q) (by rw [hq]; simp)
          simp; omega
        · have := pieces_le (l := l) (p := p) (by rw [hq]; simp [h])
          simp; omega
end Go.Proofs.YtdmbjndhdldggaaGreatDoor
