/- Chapter 03: the document's numbers. -/
import Derived.Test.YtgfmeincfeelmaaDoorAdZ
namespace Go.Proofs.YtgfmeincfeelmaaDoor
set_option linter.unusedVariables false
set_option linter.unusedSimpArgs false
open Go.RowKit Go.Lib Go.Sort

theorem dig_ext : ∀ d : Nat, d < 10 → (⟨#[48, 49, 50, 51, 52, 53, 54, 55, 56, 57]⟩ : ByteArray).extract d (d + 1) = ⟨[UInt8.ofNat (48 + d)].toArray⟩ := by
  intro d hd
  have : d = 0 ∨ d = 1 ∨ d = 2 ∨ d = 3 ∨ d = 4 ∨ d = 5 ∨ d = 6 ∨ d = 7 ∨ d = 8 ∨ d = 9 := by omega
  rcases this with rfl | rfl | rfl | rfl | rfl | rfl | rfl | rfl | rfl | rfl <;> rfl
theorem ret_str {a b : ByteArray} (h : a = b) : Ending.returned (.string a) = .returned (.string b) := by rw [h]

set_option maxHeartbeats 1000000 in
theorem rf_digits : ∀ (k n : Nat), n ≤ k → n < 4294967296 → ∀ w : World, Calls Tryd.prog 37 #[.int .u32 n] w fun e w' => e = .returned (str (decDigits n)) ∧ w' = w := by
  intro k
  induction k with
  | zero =>
    intro n hk hn w
    obtain rfl : n = 0 := by omega
    go_enter Tryd.func37, Tryd.ntmps37
    go_wp2_with fail
    go_ret
    exact ⟨ret_str ((dig_ext 0 (by omega)).trans (by rw [dec_small (by omega)])), rfl⟩
  | succ k ih =>
    intro n hk hn w
    by_cases h10 : n < 10
    · have hd := dec_small h10
      have Hd := Lib.hid hd
      clear hd ih
      go_enter Tryd.func37, Tryd.ntmps37
      go_wp2_with fail
      go_ret
      exact ⟨ret_str (by rw [dig_ext _ (by omega), Hd.out, Nat.mod_eq_of_lt h10]), rfl⟩
    · have hd := dec_big h10
      have Hd := Lib.hid hd
      have hc := ih (n / 10) (by omega) (by omega)
      have Hc := Lib.hid hc
      have hl := dec_len 10 (n / 10) (by omega) (by omega)
      clear hd hc ih
      go_enter Tryd.func37, Tryd.ntmps37
      go_wp2_with fail
      refine (Hc.out _).mono ?_
      rintro e w' ⟨rfl, rfl⟩
      go_wp2_with fail
      go_ret
      exact ⟨ret_str (by rw [dig_ext _ (by omega), ByteArray.mk_append_mk, Hd.out]), rfl⟩
theorem digits_any (n : Nat) (hn : n < 4294967296) (w : World) : Calls Tryd.prog 37 #[.int .u32 n] w fun e w' => e = .returned (str (decDigits n)) ∧ w' = w := rf_digits n n (Nat.le_refl _) hn w
end Go.Proofs.YtgfmeincfeelmaaDoor
