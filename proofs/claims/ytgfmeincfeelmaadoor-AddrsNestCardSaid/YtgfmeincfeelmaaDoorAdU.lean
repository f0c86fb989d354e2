/- Chapter 03: plain laws for the statements; no program. -/
import Derived.Test.YtgfmeincfeelmaaDoorAd
import Derived.Laws.BitsAllLaws
namespace Go.Proofs.YtgfmeincfeelmaaDoor
set_option linter.unusedVariables false
set_option linter.unusedSimpArgs false
open Go.Lib

/-- Of the three readings at most one tells something. -/
theorem one_addr_of (c : UInt8) (h46 : c ≠ 46) (hd : ∀ u, c ∉ decDigits u) (M : Nat) {l : List UInt8} {a : Nat} (h : addrOf l = some a) : withOf c M l = none := by
  rcases hw : withOf c M l with _ | ⟨b, n⟩
  · rfl
  · have h1 := (addrOf_some.1 h).1
    have h2 := ((withOf_some h46 hd).1 hw).1
    have h3 : c ∈ l := by rw [h2]; unfold withT; simp
    rw [h1] at h3
    exact absurd h3 (addrT_no h46 hd)
theorem one_of_of {l : List UInt8} {a : Nat × Nat} (h : withOf 47 32 l = some a) : withOf 58 65535 l = none := by
  rcases hw : withOf 58 65535 l with _ | ⟨b, n⟩
  · rfl
  · obtain ⟨a, m⟩ := a
    have h1 := ((withOf_some (c := 47) (by decide) (fun u => dec_no47)).1 h).1
    have h2 := ((withOf_some (c := 58) (by decide) (fun u => dec_no58)).1 hw).1
    have h3 : (58 : UInt8) ∈ l := by rw [h2]; unfold withT; simp
    rw [h1] at h3
    unfold withT at h3
    rcases List.mem_append.1 h3 with h3 | h3
    · exact absurd h3 (addrT_no (by decide) fun u => dec_no58)
    · rcases List.mem_cons.1 h3 with h3 | h3
      · exact absurd h3 (by decide)
      · exact absurd h3 dec_no58
theorem withT_inj {c : UInt8} (h46 : c ≠ 46) (hd : ∀ u, c ∉ decDigits u) {a b p q : Nat} (ha : a < 4294967296) (hb : b < 4294967296) (h : withT c a p = withT c b q) : a = b ∧ p = q := by
  have h1 := (withOf_some (M := max p q) (l := withT c a p) h46 hd).2 ⟨rfl, ha, Nat.le_max_left p q⟩
  have h3 := (withOf_some (M := max p q) (l := withT c b q) h46 hd).2 ⟨rfl, hb, Nat.le_max_right p q⟩
  rw [h] at h1
  rw [h1] at h3
  simpa using h3

/-! The chapter's examples. -/
theorem d1 (n : Nat) (h : n < 10) : decDigits n = [UInt8.ofNat (48 + n)] := dec_small h
theorem ex1 : addrOf [49, 46, 50, 46, 51, 46, 52] = some 16909060 := addrOf_some.2 ⟨by unfold addrT; rw [d1 _ (by decide), d1 _ (by decide), d1 _ (by decide), d1 _ (by decide)]; rfl, by decide⟩
theorem ex2 : addrOf [49, 46, 50, 46, 51] = none := by decide
theorem ex3 : addrOf [48, 49, 46, 50, 46, 51, 46, 52] = none := by
  have h : num 255 [48, 49] = none := by unfold num; rw [if_neg]; rintro ⟨h, _⟩; rw [show val [48, 49] = 1 from rfl, d1 1 (by decide)] at h; cases h
  have h2 : pieces 46 [48, 49, 46, 50, 46, 51, 46, 52] = [[48, 49], [50], [51], [52]] := by decide
  unfold addrOf
  rw [h2]
  simp only [h]
theorem ex4 : addrOf [49, 46, 50, 46, 51, 46, 50, 53, 54] = none := by
  have h : num 255 [50, 53, 54] = none := by unfold num; rw [if_neg]; rintro ⟨_, h⟩; exact absurd h (by decide)
  have h2 : pieces 46 [49, 46, 50, 46, 51, 46, 50, 53, 54] = [[49], [50], [51], [50, 53, 54]] := by decide
  unfold addrOf
  rw [h2]
  simp only [h]
  rcases num 255 [49] with _ | a <;> rcases num 255 [50] with _ | b <;> rcases num 255 [51] with _ | c <;> rfl
theorem ex5 : addrOf [49, 46, 50, 46, 51, 46, 52, 46] = none := by decide
theorem d10 : decDigits 10 = [49, 48] := by rw [dec_big (by decide), d1 (10 / 10) (by decide)]; rfl
theorem d80 : decDigits 80 = [56, 48] := by rw [dec_big (by decide), d1 (80 / 10) (by decide)]; rfl
theorem ex6 (c : UInt8) : withT c 167772160 8 = [49, 48, 46, 48, 46, 48, 46, 48, c, 56] := by
  show (decDigits 10 ++ 46 :: (decDigits 0 ++ 46 :: (decDigits 0 ++ 46 :: decDigits 0))) ++ c :: decDigits 8 = _
  rw [d10, d1 0 (by decide), d1 8 (by decide)]
  rfl
theorem ex7 (c : UInt8) : withT c 167772161 8 = [49, 48, 46, 48, 46, 48, 46, 49, c, 56] := by
  show (decDigits 10 ++ 46 :: (decDigits 0 ++ 46 :: (decDigits 0 ++ 46 :: decDigits 1))) ++ c :: decDigits 8 = _
  rw [d10, d1 0 (by decide), d1 1 (by decide), d1 8 (by decide)]
  rfl
theorem ex6w : withOf 47 32 [49, 48, 46, 48, 46, 48, 46, 48, 47, 56] = some (167772160, 8) := (withOf_some (by decide) fun u => dec_no47).2 ⟨(ex6 47).symm, by decide, by decide⟩
theorem ex7w : withOf 47 32 [49, 48, 46, 48, 46, 48, 46, 49, 47, 56] = some (167772161, 8) := (withOf_some (by decide) fun u => dec_no47).2 ⟨(ex7 47).symm, by decide, by decide⟩
theorem ex8w : withOf 47 32 [49, 48, 46, 48, 46, 48, 46, 48, 47, 51, 51] = none := by
  have h : num 32 [51, 51] = none := by unfold num; rw [if_neg]; rintro ⟨_, h⟩; exact absurd h (by decide)
  have h2 : cutFirst 47 [49, 48, 46, 48, 46, 48, 46, 48, 47, 51, 51] = some ([49, 48, 46, 48, 46, 48, 46, 48], [51, 51]) := by decide
  unfold withOf
  rw [h2]
  simp only [h]
  cases addrOf _ <;> rfl
theorem ex9w : withOf 47 32 [48, 46, 48, 46, 48, 46, 48, 47, 48] = some (0, 0) := (withOf_some (by decide) fun u => dec_no47).2 ⟨by
  show _ = (decDigits 0 ++ 46 :: (decDigits 0 ++ 46 :: (decDigits 0 ++ 46 :: decDigits 0))) ++ 47 :: decDigits 0
  rw [d1 0 (by decide)]
  rfl, by decide, by decide⟩
theorem exAw : withOf 58 65535 [49, 46, 50, 46, 51, 46, 52, 58, 56, 48] = some (16909060, 80) := (withOf_some (by decide) fun u => dec_no58).2 ⟨by
  show _ = (decDigits 1 ++ 46 :: (decDigits 2 ++ 46 :: (decDigits 3 ++ 46 :: decDigits 4))) ++ 58 :: decDigits 80
  rw [d80, d1 1 (by decide), d1 2 (by decide), d1 3 (by decide), d1 4 (by decide)]
  rfl, by decide, by decide⟩
theorem exBw : withOf 58 65535 [49, 46, 50, 46, 51, 46, 52, 58, 54, 53, 53, 51, 54] = none := by
  have h : num 65535 [54, 53, 53, 51, 54] = none := by unfold num; rw [if_neg]; rintro ⟨_, h⟩; exact absurd h (by decide)
  have h2 : cutFirst 58 [49, 46, 50, 46, 51, 46, 52, 58, 54, 53, 53, 51, 54] = some ([49, 46, 50, 46, 51, 46, 52], [54, 53, 53, 51, 54]) := by decide
  unfold withOf
  rw [h2]
  simp only [h]
  cases addrOf _ <;> rfl
theorem exCw : withOf 58 65535 [49, 46, 50, 46, 51, 46, 52, 58] = none := by
  have h : num 65535 [] = none := num_none.2 fun n _ h => dec_ne n h.symm
  have h2 : cutFirst 58 [49, 46, 50, 46, 51, 46, 52, 58] = some ([49, 46, 50, 46, 51, 46, 52], []) := by decide
  unfold withOf
  rw [h2]
  simp only [h]
  cases addrOf _ <;> rfl
end Go.Proofs.YtgfmeincfeelmaaDoor
