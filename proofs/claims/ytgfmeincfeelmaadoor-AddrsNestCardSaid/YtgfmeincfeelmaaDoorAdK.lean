/- Chapter 03: the document's Parse. -/
import Derived.Test.YtgfmeincfeelmaaDoorAdJ
namespace Go.Proofs.YtgfmeincfeelmaaDoor
set_option linter.unusedVariables false
set_option linter.unusedSimpArgs false
open Go.RowKit Go.Lib Go.Sort

/-- What is read of a text of k + 1 parts, from behind. -/
def rd : Nat → List UInt8 → Option Nat
  | 0, l => num 255 l
  | k + 1, l => match cutLast 46 l with
    | none => none
    | some (x, y) => match num 255 y with
      | none => none
      | some n => match rd k x with
        | none => none
        | some a => some (a * 256 + n)
theorem rd_lt : ∀ (k : Nat) (l : List UInt8) (a : Nat), rd k l = some a → a < 256 ^ (k + 1)
  | 0, l, a, h => by
    have := (num_some.1 h).2
    simp; omega
  | k + 1, l, a, h => by
    unfold rd at h
    rcases hc : cutLast 46 l with _ | ⟨x, y⟩
    · simp [hc] at h
    · rcases hn : num 255 y with _ | n
      · simp [hc, hn] at h
      · rcases hr : rd k x with _ | b
        · simp [hc, hn, hr] at h
        · simp only [hc, hn, hr, Option.some.injEq] at h
          have h1 := rd_lt k x b hr
          have h2 := (num_some.1 hn).2
          rw [Nat.pow_succ]
          omega
theorem rd3 (l : List UInt8) : rd 3 l = addrOf l := by
  rw [← addrR_eq]
  unfold addrR
  simp only [rd]
  rcases h3 : cutLast 46 l with _ | ⟨l3, p3⟩
  · rfl
  dsimp only
  rcases hd : num 255 p3 with _ | d
  · rfl
  dsimp only
  rcases h2 : cutLast 46 l3 with _ | ⟨l2, p2⟩
  · rfl
  dsimp only
  rcases hc : num 255 p2 with _ | c
  · rfl
  dsimp only
  rcases h1 : cutLast 46 l2 with _ | ⟨l1, p1⟩
  · rfl
  dsimp only
  rcases hb : num 255 p1 with _ | b
  · rfl
  dsimp only
  rcases ha : num 255 l1 with _ | a
  · rfl
  rfl
end Go.Proofs.YtgfmeincfeelmaaDoor
