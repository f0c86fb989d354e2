/- The document's small functions: word, May, Flow, Timeout, flag; the program's has (written by genref.py). -/
import Derived.Test.YtaiimkcmgiceeaaDoorEnD
import Derived.Test.YtaiimkcmgiceeaaDoorErA
namespace Go.Proofs.YtaiimkcmgiceeaaDoor
set_option linter.unusedVariables false
set_option linter.unusedSimpArgs false
open Go.RowKit Go.Lib Go.Sort

set_option maxHeartbeats 2000000 in
theorem rtimeout_ok (f : Nat) (hf : f < 4) (s : Int) (w : World) : Calls Tryd.prog 58 #[.int .i64 f, .int .i64 s] w fun e w' => e = .returned (.int .i64 (toN f s)) ∧ w' = w := by
  have hf' : f = 0 ∨ f = 1 ∨ f = 2 ∨ f = 3 := by omega
  by_cases hs : 1 ≤ s ∧ s ≤ 7
  · have hs' : s = 1 ∨ s = 2 ∨ s = 3 ∨ s = 4 ∨ s = 5 ∨ s = 6 ∨ s = 7 := by omega
    rcases hf' with rfl | rfl | rfl | rfl <;> rcases hs' with rfl | rfl | rfl | rfl | rfl | rfl | rfl
    · rw [show toN 0 1 = 0 by decide +kernel]
      go_enter Tryd.func58, Tryd.ntmps58
      go_wp2_with fail
      go_ret
      exact ⟨rfl, rfl⟩
    · rw [show toN 0 2 = 0 by decide +kernel]
      go_enter Tryd.func58, Tryd.ntmps58
      go_wp2_with fail
      go_ret
      exact ⟨rfl, rfl⟩
    · rw [show toN 0 3 = 0 by decide +kernel]
      go_enter Tryd.func58, Tryd.ntmps58
      go_wp2_with fail
      go_ret
      exact ⟨rfl, rfl⟩
    · rw [show toN 0 4 = 0 by decide +kernel]
      go_enter Tryd.func58, Tryd.ntmps58
      go_wp2_with fail
      go_ret
      exact ⟨rfl, rfl⟩
    · rw [show toN 0 5 = 0 by decide +kernel]
      go_enter Tryd.func58, Tryd.ntmps58
      go_wp2_with fail
      go_ret
      exact ⟨rfl, rfl⟩
    · rw [show toN 0 6 = 0 by decide +kernel]
      go_enter Tryd.func58, Tryd.ntmps58
      go_wp2_with fail
      go_ret
      exact ⟨rfl, rfl⟩
    · rw [show toN 0 7 = 0 by decide +kernel]
      go_enter Tryd.func58, Tryd.ntmps58
      go_wp2_with fail
      go_ret
      exact ⟨rfl, rfl⟩
    · rw [show toN 1 1 = 120 by decide +kernel]
      go_enter Tryd.func58, Tryd.ntmps58
      go_wp2_with fail
      go_ret
      exact ⟨rfl, rfl⟩
    · rw [show toN 1 2 = 300 by decide +kernel]
      go_enter Tryd.func58, Tryd.ntmps58
      go_wp2_with fail
      go_ret
      exact ⟨rfl, rfl⟩
    · rw [show toN 1 3 = 0 by decide +kernel]
      go_enter Tryd.func58, Tryd.ntmps58
      go_wp2_with fail
      go_ret
      exact ⟨rfl, rfl⟩
    · rw [show toN 1 4 = 0 by decide +kernel]
      go_enter Tryd.func58, Tryd.ntmps58
      go_wp2_with fail
      go_ret
      exact ⟨rfl, rfl⟩
    · rw [show toN 1 5 = 0 by decide +kernel]
      go_enter Tryd.func58, Tryd.ntmps58
      go_wp2_with fail
      go_ret
      exact ⟨rfl, rfl⟩
    · rw [show toN 1 6 = 0 by decide +kernel]
      go_enter Tryd.func58, Tryd.ntmps58
      go_wp2_with fail
      go_ret
      exact ⟨rfl, rfl⟩
    · rw [show toN 1 7 = 0 by decide +kernel]
      go_enter Tryd.func58, Tryd.ntmps58
      go_wp2_with fail
      go_ret
      exact ⟨rfl, rfl⟩
    · rw [show toN 2 1 = 60 by decide +kernel]
      go_enter Tryd.func58, Tryd.ntmps58
      go_wp2_with fail
      go_ret
      exact ⟨rfl, rfl⟩
    · rw [show toN 2 2 = 60 by decide +kernel]
      go_enter Tryd.func58, Tryd.ntmps58
      go_wp2_with fail
      go_ret
      exact ⟨rfl, rfl⟩
    · rw [show toN 2 3 = 0 by decide +kernel]
      go_enter Tryd.func58, Tryd.ntmps58
      go_wp2_with fail
      go_ret
      exact ⟨rfl, rfl⟩
    · rw [show toN 2 4 = 0 by decide +kernel]
      go_enter Tryd.func58, Tryd.ntmps58
      go_wp2_with fail
      go_ret
      exact ⟨rfl, rfl⟩
    · rw [show toN 2 5 = 0 by decide +kernel]
      go_enter Tryd.func58, Tryd.ntmps58
      go_wp2_with fail
      go_ret
      exact ⟨rfl, rfl⟩
    · rw [show toN 2 6 = 0 by decide +kernel]
      go_enter Tryd.func58, Tryd.ntmps58
      go_wp2_with fail
      go_ret
      exact ⟨rfl, rfl⟩
    · rw [show toN 2 7 = 0 by decide +kernel]
      go_enter Tryd.func58, Tryd.ntmps58
      go_wp2_with fail
      go_ret
      exact ⟨rfl, rfl⟩
    · rw [show toN 3 1 = 240 by decide +kernel]
      go_enter Tryd.func58, Tryd.ntmps58
      go_wp2_with fail
      go_ret
      exact ⟨rfl, rfl⟩
    · rw [show toN 3 2 = 240 by decide +kernel]
      go_enter Tryd.func58, Tryd.ntmps58
      go_wp2_with fail
      go_ret
      exact ⟨rfl, rfl⟩
    · rw [show toN 3 3 = 7440 by decide +kernel]
      go_enter Tryd.func58, Tryd.ntmps58
      go_wp2_with fail
      go_ret
      exact ⟨rfl, rfl⟩
    · rw [show toN 3 4 = 240 by decide +kernel]
      go_enter Tryd.func58, Tryd.ntmps58
      go_wp2_with fail
      go_ret
      exact ⟨rfl, rfl⟩
    · rw [show toN 3 5 = 240 by decide +kernel]
      go_enter Tryd.func58, Tryd.ntmps58
      go_wp2_with fail
      go_ret
      exact ⟨rfl, rfl⟩
    · rw [show toN 3 6 = 240 by decide +kernel]
      go_enter Tryd.func58, Tryd.ntmps58
      go_wp2_with fail
      go_ret
      exact ⟨rfl, rfl⟩
    · rw [show toN 3 7 = 240 by decide +kernel]
      go_enter Tryd.func58, Tryd.ntmps58
      go_wp2_with fail
      go_ret
      exact ⟨rfl, rfl⟩
  · have h0 : toN f s = 0 := by
      unfold toN
      split
      · obtain rfl : s = 0 := by omega
        rcases hf' with rfl | rfl | rfl | rfl <;> rfl
      · rfl
    rw [h0]
    have e1 : (s == 1) = false := beq_eq_false_iff_ne.2 (by omega)
    have e2 : (s == 2) = false := beq_eq_false_iff_ne.2 (by omega)
    by_cases h1 : s < 1
    · have d1 : decide (s < 1) = true := decide_eq_true h1
      clear hs h0
      rcases hf' with rfl | rfl | rfl | rfl
      · go_enter Tryd.func58, Tryd.ntmps58
        go_wp2_with fail
        go_ret
        exact ⟨rfl, rfl⟩
      · go_enter Tryd.func58, Tryd.ntmps58
        go_wp2_with fail
        go_ret
        exact ⟨rfl, rfl⟩
      · go_enter Tryd.func58, Tryd.ntmps58
        go_wp2_with fail
        go_ret
        exact ⟨rfl, rfl⟩
      · go_enter Tryd.func58, Tryd.ntmps58
        go_wp2_with fail
        go_ret
        exact ⟨rfl, rfl⟩
    · have d1 : decide (s < 1) = false := decide_eq_false h1
      have d2 : decide (7 < s) = true := decide_eq_true (by omega)
      clear hs h0
      rcases hf' with rfl | rfl | rfl | rfl
      · go_enter Tryd.func58, Tryd.ntmps58
        go_wp2_with fail
        go_ret
        exact ⟨rfl, rfl⟩
      · go_enter Tryd.func58, Tryd.ntmps58
        go_wp2_with fail
        go_ret
        exact ⟨rfl, rfl⟩
      · go_enter Tryd.func58, Tryd.ntmps58
        go_wp2_with fail
        go_ret
        exact ⟨rfl, rfl⟩
      · go_enter Tryd.func58, Tryd.ntmps58
        go_wp2_with fail
        go_ret
        exact ⟨rfl, rfl⟩

theorem rflow_ok (k : Nat) (w : World) : Calls Tryd.prog 48 #[.int .u8 k] w fun e w' => e = .returned (.int .i64 (flowN k : Nat)) ∧ w' = w := by
  by_cases h1 : k = 1
  · subst h1
    go_enter Tryd.func48, Tryd.ntmps48
    go_wp2_with fail
    go_ret
    exact ⟨rfl, rfl⟩
  · have e1 : ((k : Int) == 1) = false := beq_eq_false_iff_ne.2 (by omega)
    by_cases h6 : k = 6
    · subst h6
      go_enter Tryd.func48, Tryd.ntmps48
      go_wp2_with fail
      go_ret
      exact ⟨rfl, rfl⟩
    · have e6 : ((k : Int) == 6) = false := beq_eq_false_iff_ne.2 (by omega)
      by_cases h17 : k = 17
      · subst h17
        go_enter Tryd.func48, Tryd.ntmps48
        go_wp2_with fail
        go_ret
        exact ⟨rfl, rfl⟩
      · have e17 : ((k : Int) == 17) = false := beq_eq_false_iff_ne.2 (by omega)
        rw [show flowN k = 0 by simp [flowN, wordOf, h1, h6, h17]]
        go_enter Tryd.func48, Tryd.ntmps48
        go_wp2_with fail
        go_ret
        exact ⟨rfl, rfl⟩

theorem word_pos (k : Nat) (h : isWord k = true) : ∃ x l, wordOf k = x :: l := by
  simp only [isWord, decide_eq_true_eq] at h
  rcases h with rfl | rfl | rfl
  · exact ⟨_, _, rfl⟩
  · exact ⟨_, _, rfl⟩
  · exact ⟨_, _, rfl⟩
theorem word_nil (k : Nat) (h : isWord k = false) : wordOf k = [] := by
  simp only [isWord, decide_eq_false_iff_not, not_or] at h
  simp [wordOf, h.1, h.2.1, h.2.2]
/-- Has a number of flags that one? -/
def tflag (fl one : Nat) : Bool := decide (fl / one % 2 = 1)
set_option maxRecDepth 100000 in
theorem bits_flag : ∀ fl : Fin 256, (bits .and .u8 ((fl.val : Nat) : Int) 1 != 0) = tflag fl.val 1 ∧ (bits .and .u8 ((fl.val : Nat) : Int) 2 != 0) = tflag fl.val 2 ∧ (bits .and .u8 ((fl.val : Nat) : Int) 4 != 0) = tflag fl.val 4 ∧ (bits .and .u8 ((fl.val : Nat) : Int) 16 != 0) = tflag fl.val 16 := by decide +kernel
theorem has_ok (bk : Bool) (fl : Nat) (one : Int) (z : Bool) (hz : (bits .and .u8 (fl : Int) one != 0) = z) (w : World) : Calls Tryd.prog 59 #[.agg #[.bool bk, .int .u8 fl], .int .u8 one] w (Ret1 (.bool z) w) := by
  go_enter Tryd.func59, Tryd.ntmps59
  go_wp2_with fail
  go_ret
  exact ⟨by first | rfl | (simp [hz]), (Fp.refl _ _).alloc _⟩
end Go.Proofs.YtaiimkcmgiceeaaDoor
