/- Plain laws on the first bits of addresses; no program. -/
import Derived.Laws.BitsAllLaws
namespace Go.Proofs.YtdmbjndhdldggaaGreatDoor
set_option linter.unusedVariables false
set_option linter.unusedSimpArgs false

theorem maskN_mul {k : Nat} (hk : k ≤ 32) : 2 ^ 32 - 2 ^ k = (2 ^ (32 - k) - 1) * 2 ^ k := by
  rw [Nat.sub_mul, ← Nat.pow_add, Nat.sub_add_cancel hk, Nat.one_mul]
theorem and_mask {x k : Nat} (hx : x < 2 ^ 32) (hk : k ≤ 32) : x &&& (2 ^ 32 - 2 ^ k) = x / 2 ^ k * 2 ^ k := by
  apply Nat.eq_of_testBit_eq
  intro i
  rw [maskN_mul hk, Nat.testBit_and, Nat.testBit_mul_two_pow, Nat.testBit_mul_two_pow, Nat.testBit_two_pow_sub_one, Nat.testBit_div_two_pow]
  by_cases hki : k ≤ i
  · rw [show i - k + k = i from by omega]
    by_cases h32 : i < 32
    · simp [hki, show i - k < 32 - k from by omega]
    · have : x.testBit i = false := Nat.testBit_lt_two_pow (Nat.lt_of_lt_of_le hx (Nat.pow_le_pow_right (by omega) (by omega)))
      simp [this]
  · simp [hki]
theorem and_low {x k : Nat} (hk : k ≤ 32) : x &&& (4294967295 - (2 ^ 32 - 2 ^ k)) = x % 2 ^ k := by
  have h1 : 2 ^ k ≤ 2 ^ 32 := Nat.pow_le_pow_right (by omega) hk
  have h2 : 0 < 2 ^ k := Nat.two_pow_pos k
  have e : 4294967295 - (2 ^ 32 - 2 ^ k) = 2 ^ k - 1 := by
    have : (2 : Nat) ^ 32 = 4294967296 := by decide
    omega
  rw [e, Nat.and_two_pow_sub_one_eq_mod]
theorem xor_zero {a b : Nat} : a ^^^ b = 0 ↔ a = b := by
  constructor
  · intro h
    have : (a ^^^ b) ^^^ b = 0 ^^^ b := by rw [h]
    rw [Nat.xor_assoc, Nat.xor_self, Nat.xor_zero, Nat.zero_xor] at this
    exact this
  · rintro rfl; exact Nat.xor_self a
theorem xor_div {a b k : Nat} : (a ^^^ b) / 2 ^ k = 0 ↔ a / 2 ^ k = b / 2 ^ k := by
  rw [← Nat.shiftRight_eq_div_pow, ← Nat.shiftRight_eq_div_pow, ← Nat.shiftRight_eq_div_pow, Nat.shiftRight_xor_distrib, xor_zero]
theorem xor_lt {a b : Nat} (ha : a < 2 ^ 32) (hb : b < 2 ^ 32) : a ^^^ b < 2 ^ 32 := Nat.xor_lt_two_pow ha hb
theorem mask_zero {a b k : Nat} (ha : a < 2 ^ 32) (hb : b < 2 ^ 32) (hk : k ≤ 32) : (a ^^^ b) &&& (2 ^ 32 - 2 ^ k) = 0 ↔ a / 2 ^ k = b / 2 ^ k := by
  rw [and_mask (xor_lt ha hb) hk, ← xor_div]
  have h2 : 0 < 2 ^ k := Nat.two_pow_pos k
  constructor
  · intro h
    rcases Nat.mul_eq_zero.1 h with h | h
    · exact h
    · omega
  · intro h; rw [h]; simp
end Go.Proofs.YtdmbjndhdldggaaGreatDoor
