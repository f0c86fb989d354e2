/- Chapter 03: whole: a prefix of an address's first bits. -/
import Derived.Test.YtgfmeincfeelmaaDoorAdH
namespace Go.Proofs.YtgfmeincfeelmaaDoor
set_option linter.unusedVariables false
set_option linter.unusedSimpArgs false
open Go.RowKit Go.Lib Go.Sort

def wholeA (a n : Nat) : Nat := a / 2 ^ (32 - n) * 2 ^ (32 - n)
theorem wholeA_le (a n : Nat) : wholeA a n ≤ a := Nat.div_mul_le_self _ _

set_option maxHeartbeats 1000000 in
theorem whole_ok (a b : Nat) (ha : a < 4294967296) (hb : b < 256) (w : World) :
    Calls Tryd.prog 15 #[.int .u32 a, .int .u8 b] w (Ret1 (.agg #[.int .u32 (wholeA a (b % 33) : Nat), .int .i64 ((b % 33 : Nat) : Int)]) w) := by
  have hle := wholeA_le a (b % 33)
  have hm : (b : Int).tmod 33 = ((b % 33 : Nat) : Int) := by rw [Int.tmod_eq_emod_of_nonneg (by omega)]; rfl
  have hn : b % 33 ≤ 32 := by omega
  have hwdef : wholeA a (b % 33) = a / 2 ^ (32 - b % 33) * 2 ^ (32 - b % 33) := rfl
  generalize b % 33 = n at *
  have hk : ((32 : Int) - (n : Int)) = ((32 - n : Nat) : Int) := by omega
  have hw0 : IntKind.i64.wrap (n : Int) = n := IntWalk.i64_in _ (by omega)
  have hval : IntKind.u64.wrap ((a : Int) / 2 ^ (32 - n) * 2 ^ (32 - n)) % 4294967296 = ((wholeA a n : Nat) : Int) := by
    have e : (a : Int) / 2 ^ (32 - n) * 2 ^ (32 - n) = ((a / 2 ^ (32 - n) * 2 ^ (32 - n) : Nat) : Int) := by simp
    rw [e, ← hwdef, IntKind.wrap_u64]
    omega
  have hw64 : IntKind.u64.wrap (a : Int) = a := IntWalk.u64_in _ (by omega)
  have Hle := Lib.hid hle
  clear hwdef hle hk hb ha
  go_enter Tryd.func15, Tryd.ntmps15
  go_wp2_with fail
  refine bodyPost_ret (v := .agg #[.int .u32 (wholeA a n : Nat), .int .i64 n]) (by simp only [results, Tryd.results15]; go_simp) rfl ⟨rfl, (Fp.refl _ _).alloc _⟩
end Go.Proofs.YtgfmeincfeelmaaDoor
