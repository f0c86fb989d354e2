/- Chapter 03: AddrsNest: the plain law, and the walk's joining (written by gennest.py). -/
import Derived.Test.YtgfmeincfeelmaaDoorLnW
import Derived.Test.YtgfmeincfeelmaaDoorSeeA
namespace Go.Proofs.YtgfmeincfeelmaaDoor
set_option linter.unusedVariables false
set_option linter.unusedSimpArgs false
open Go.RowKit Go.Lib Go.Sort

theorem div_mono {x y k j : Nat} (h : x / 2 ^ k = y / 2 ^ k) (hkj : k ≤ j) : x / 2 ^ j = y / 2 ^ j := by
  obtain ⟨d, rfl⟩ : ∃ d, j = k + d := ⟨j - k, by omega⟩
  rw [Nat.pow_add, ← Nat.div_div_eq_div_mul, ← Nat.div_div_eq_div_mul, h]
theorem hasB_whole (a x : Nat) {m : Nat} (hm : m ≤ 32) : hasB (wholeA a m) (m : Int) x = decide (x / 2 ^ (32 - m) = a / 2 ^ (32 - m)) := by
  have hmay : mayB (wholeA a m) (m : Int) = true := by
    unfold mayB wholeA
    rw [decide_eq_true_eq]
    exact ⟨by omega, by omega, by rw [Int.toNat_natCast]; exact Nat.mul_mod_left _ _⟩
  unfold hasB
  rw [hmay, Bool.true_and, Int.toNat_natCast]
  unfold wholeA
  rw [Nat.mul_div_cancel _ (Nat.two_pow_pos _)]

theorem walk_AddrsNest (w : World) (ht : Tb w) (v0 v1 v2 : Value) (g0 : Good Tryd.prog w 24 v0) (g1 : Good Tryd.prog w 24 v1) (g2 : Good Tryd.prog w 38 v2) :
    Calls Tryd.prog 4 #[v0, v1, v2] w (Ret1 (.bool true) w) := by
  obtain ⟨a, rfl, ha⟩ := u32_open Tryd.underlying24 g0
  obtain ⟨b, rfl, hb⟩ := u32_open Tryd.underlying24 g1
  obtain ⟨x, y, rfl, hx, hy⟩ := two_open g2
  obtain ⟨m, hm⟩ : ∃ m, m = max (x % 33) (y % 33) := ⟨_, rfl⟩
  obtain ⟨n, hn⟩ : ∃ n, n = min (x % 33) (y % 33) := ⟨_, rfl⟩
  have hm32 : m ≤ 32 := by omega
  have hnm : n ≤ m := by omega
  have hmm : m % 33 = m := by omega
  have hnn : n % 33 = n := by omega
  have k0 := fun W => whole_ok a m ha (by omega) W
  have k1 := fun W => whole_ok b n hb (by omega) W
  rw [hmm] at k0
  rw [hnn] at k1
  have hP : wholeA a m < 4294967296 := Nat.lt_of_le_of_lt (wholeA_le _ _) ha
  have hJ : wholeA b n < 4294967296 := Nat.lt_of_le_of_lt (wholeA_le _ _) hb
  obtain ⟨s, hs⟩ : ∃ s, s = 2 ^ (32 - m) := ⟨_, rfl⟩
  have hs1 : 1 ≤ s := by rw [hs]; exact Nat.one_le_two_pow
  have hs32 : s ≤ 4294967296 := by
    rw [hs]
    exact Nat.le_trans (Nat.pow_le_pow_right (by omega) (show 32 - m ≤ 32 by omega)) (by decide)
  have hPd : wholeA a m = a / s * s := by rw [hs]; rfl
  have hdvd : s ∣ 4294967296 := by
    rw [hs]
    exact Nat.pow_dvd_pow 2 (show 32 - m ≤ 32 by omega)
  obtain ⟨q, hq⟩ := hdvd
  have hq0 : a / s < q := by
    apply Nat.div_lt_of_lt_mul
    rw [← hq]; exact ha
  have hlt : wholeA a m + s ≤ 4294967296 := by
    rw [hPd, hq, ← Nat.succ_mul, Nat.mul_comm s q]
    exact Nat.mul_le_mul_right s hq0
  obtain ⟨la, hla⟩ : ∃ la, la + 1 = wholeA a m + s := ⟨wholeA a m + s - 1, by omega⟩
  have hdP : wholeA a m / 2 ^ (32 - m) = a / 2 ^ (32 - m) := by
    unfold wholeA
    rw [Nat.mul_div_cancel _ (Nat.two_pow_pos _)]
  have hdL : la / 2 ^ (32 - m) = a / 2 ^ (32 - m) := by
    rw [← hs]
    rw [hPd] at hla
    apply Nat.div_eq_of_lt_le
    · omega
    · rw [Nat.succ_mul]; omega
  have hin : ∀ z : Nat, (z / 2 ^ (32 - m) = a / 2 ^ (32 - m)) ↔ (wholeA a m ≤ z ∧ z ≤ la) := fun z => by
    rw [← hs]
    rw [hPd] at hla ⊢
    rw [Nat.div_eq_iff (by omega)]
    constructor
    · rintro ⟨h1, h2⟩; exact ⟨h1, by omega⟩
    · rintro ⟨h1, h2⟩; exact ⟨h1, by omega⟩
  have k2 := fun W => has_ok _ hP (m : Int) b hb W
  have k3 := fun W => has_ok _ hP (m : Int) (wholeA a m) hP W
  have k4 := fun W => has_ok _ hP (m : Int) la (by omega) W
  have k5 := fun W => has_ok _ hP (m : Int) a ha W
  have k6 := fun W => has_ok _ hJ (n : Int) a ha W
  have k7 := fun W => has_ok _ hJ (n : Int) (wholeA a m) hP W
  have k8 := fun W => has_ok _ hJ (n : Int) la (by omega) W
  have k9 := fun W => has_ok _ hJ (n : Int) b hb W
  rw [hasB_whole a _ hm32] at k2 k3 k4 k5
  rw [hasB_whole b _ (show n ≤ 32 by omega)] at k6 k7 k8 k9
  rw [hdP, decide_eq_true rfl] at k3
  rw [hdL, decide_eq_true rfl] at k4
  rw [decide_eq_true rfl] at k5
  rw [div_mono hdP (show 32 - m ≤ 32 - n by omega)] at k7
  rw [div_mono hdL (show 32 - m ≤ 32 - n by omega)] at k8
  rw [decide_eq_true rfl] at k9
  refine nest_core w ht a b x y m n (wholeA a m) (wholeA b n) hm32 s la (decide (b / 2 ^ (32 - m) = a / 2 ^ (32 - m))) (decide (a / 2 ^ (32 - n) = b / 2 ^ (32 - n))) hs hs32 hla (by omega) ?_ hx hy ?_ ?_ k0 k1 k2 k3 k4 k5 k6 k7 k8 (fun _ _ => k9)
  · rcases Nat.lt_or_ge b (wholeA a m) with h | h
    · exact .inl ⟨h, decide_eq_false fun e => by have := (hin b).1 e; omega⟩
    · rcases Nat.lt_or_ge la b with h2 | h2
      · exact .inr (.inr ⟨h2, decide_eq_false fun e => by have := (hin b).1 e; omega⟩)
      · exact .inr (.inl ⟨h, h2, decide_eq_true ((hin b).2 ⟨h, h2⟩)⟩)
  · rw [Int.tmod_eq_emod_of_nonneg (by omega), Int.tmod_eq_emod_of_nonneg (by omega)]; omega
  · rw [Int.tmod_eq_emod_of_nonneg (by omega), Int.tmod_eq_emod_of_nonneg (by omega)]; omega
end Go.Proofs.YtgfmeincfeelmaaDoor
