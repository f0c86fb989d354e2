/- Chapter 03: the document's Text, size. -/
import Derived.Test.YtgfmeincfeelmaaDoorAdD
namespace Go.Proofs.YtgfmeincfeelmaaDoor
set_option linter.unusedVariables false
set_option linter.unusedSimpArgs false
open Go.RowKit Go.Lib Go.Sort

set_option maxHeartbeats 1000000 in
theorem rt_text (a : Nat) (ha : a < 4294967296) (w : World) : Calls Tryd.prog 20 #[.int .u32 a] w fun e w' => e = .returned (str (addrT a)) ∧ w' = w := by
  have l0 := dec_len 3 (a / 16777216) (by omega) (by omega)
  have l1 := dec_len 3 (a / 65536 % 256) (by omega) (by omega)
  have l2 := dec_len 3 (a / 256 % 256) (by omega) (by omega)
  have l3 := dec_len 3 (a % 256) (by omega) (by omega)
  go_enter Tryd.func20, Tryd.ntmps20
  go_wp2_with fail
  refine (digits_any (a / 16777216) (by omega) _).mono ?_
  rintro e w' ⟨rfl, rfl⟩
  go_wp2_with fail
  refine (digits_any (a / 65536 % 256) (by omega) _).mono ?_
  rintro e w' ⟨rfl, rfl⟩
  go_wp2_with fail
  refine (digits_any (a / 256 % 256) (by omega) _).mono ?_
  rintro e w' ⟨rfl, rfl⟩
  go_wp2_with fail
  refine (digits_any (a % 256) (by omega) _).mono ?_
  rintro e w' ⟨rfl, rfl⟩
  go_wp2_with fail
  go_ret
  exact ⟨ret_str (by simp [addrT, ByteArray.mk_append_mk]), rfl⟩

set_option maxHeartbeats 1000000 in
theorem rt_size (b : Nat) (hb : b ≤ 32) (w : World) : Calls Tryd.prog 38 #[.int .i64 b] w fun e w' => e = .returned (.int .u64 ((2 ^ (32 - b) : Nat) : Int)) ∧ w' = w := by
  go_enter Tryd.func38, Tryd.ntmps38
  go_wp2_with fail
  go_loop [3, 4] (fun n i => ∃ k : Nat, b ≤ k ∧ k ≤ 32 ∧ i = .int .i64 k ∧ n = .int .u64 ((2 ^ (k - b) : Nat) : Int)) (fun _ i => 32 - (RowKit.intOf i).toNat)
  case atStart => exact ⟨b, Nat.le_refl _, hb, rfl, by simp⟩
  case round =>
    obtain ⟨k, hk1, hk2, rfl, rfl⟩ := hrel
    have hle : 2 ^ (k - b) ≤ 4294967296 := Nat.le_trans (Nat.pow_le_pow_right (by omega) (show k - b ≤ 32 by omega)) (by decide)
    have hsu : 2 ^ (k + 1 - b) = 2 * 2 ^ (k - b) := by rw [show k + 1 - b = k - b + 1 by omega, Nat.pow_succ, Nat.mul_comm]
    by_cases hlt : k < 32
    · have Hsu := Lib.hid hsu
      clear hsu
      generalize 2 ^ (k - b) = q at *
      go_wp2_with fail
      go_round
      case rel => exact ⟨k + 1, by omega, by omega, by go_num, by rw [Hsu.out]; go_num⟩
      case measure => simp [RowKit.intOf]; omega
    · obtain rfl : k = 32 := by omega
      clear hsu
      go_wp2_with fail
      go_ret
      exact ⟨rfl, rfl⟩
end Go.Proofs.YtgfmeincfeelmaaDoor
