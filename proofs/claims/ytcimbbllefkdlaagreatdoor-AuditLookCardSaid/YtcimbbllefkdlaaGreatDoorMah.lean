/- Texts of this proof, merged: EtA EaM EtB. -/
import Derived.Test.YtcimbbllefkdlaaGreatDoorMad
import Derived.Test.YtcimbbllefkdlaaGreatDoorMag
import Derived.Test.YtcimbbllefkdlaaGreatDoorMaa
import Derived.Test.YtcimbbllefkdlaaGreatDoorMab
import Derived.Test.YtcimbbllefkdlaaGreatDoorMac
import Derived.Test.YtcimbbllefkdlaaGreatDoorMae
import Derived.Test.YtcimbbllefkdlaaGreatDoorMaf
namespace Go.Proofs.YtcimbbllefkdlaaGreatDoor
set_option linter.unusedVariables false
set_option linter.unusedSimpArgs false
open Go.RowKit Go.Lib Go.Sort

set_option maxHeartbeats 2000000 in
theorem rtimeout_ok (f : Nat) (hf : f < 4) (s : Int) (w : World) : Calls Tryz.prog 72 #[.int .i64 f, .int .i64 s] w fun e w' => e = .returned (.int .i64 (toN f s)) ∧ w' = w := by
  have hf' : f = 0 ∨ f = 1 ∨ f = 2 ∨ f = 3 := by omega
  by_cases hs : 1 ≤ s ∧ s ≤ 7
  · have hs' : s = 1 ∨ s = 2 ∨ s = 3 ∨ s = 4 ∨ s = 5 ∨ s = 6 ∨ s = 7 := by omega
    rcases hf' with rfl | rfl | rfl | rfl <;> rcases hs' with rfl | rfl | rfl | rfl | rfl | rfl | rfl
    · rw [show toN 0 1 = 0 by decide +kernel]
      go_enter Tryz.func72, Tryz.ntmps72
      go_wp2_with fail
      go_ret
      exact ⟨rfl, rfl⟩
    · rw [show toN 0 2 = 0 by decide +kernel]
      go_enter Tryz.func72, Tryz.ntmps72
      go_wp2_with fail
      go_ret
      exact ⟨rfl, rfl⟩
    · rw [show toN 0 3 = 0 by decide +kernel]
      go_enter Tryz.func72, Tryz.ntmps72
      go_wp2_with fail
      go_ret
      exact ⟨rfl, rfl⟩
    · rw [show toN 0 4 = 0 by decide +kernel]
      go_enter Tryz.func72, Tryz.ntmps72
      go_wp2_with fail
      go_ret
      exact ⟨rfl, rfl⟩
    · rw [show toN 0 5 = 0 by decide +kernel]
      go_enter Tryz.func72, Tryz.ntmps72
      go_wp2_with fail
      go_ret
      exact ⟨rfl, rfl⟩
    · rw [show toN 0 6 = 0 by decide +kernel]
      go_enter Tryz.func72, Tryz.ntmps72
      go_wp2_with fail
      go_ret
      exact ⟨rfl, rfl⟩
    · rw [show toN 0 7 = 0 by decide +kernel]
      go_enter Tryz.func72, Tryz.ntmps72
      go_wp2_with fail
      go_ret
      exact ⟨rfl, rfl⟩
    · rw [show toN 1 1 = 120 by decide +kernel]
      go_enter Tryz.func72, Tryz.ntmps72
      go_wp2_with fail
      go_ret
      exact ⟨rfl, rfl⟩
    · rw [show toN 1 2 = 300 by decide +kernel]
      go_enter Tryz.func72, Tryz.ntmps72
      go_wp2_with fail
      go_ret
      exact ⟨rfl, rfl⟩
    · rw [show toN 1 3 = 0 by decide +kernel]
      go_enter Tryz.func72, Tryz.ntmps72
      go_wp2_with fail
      go_ret
      exact ⟨rfl, rfl⟩
    · rw [show toN 1 4 = 0 by decide +kernel]
      go_enter Tryz.func72, Tryz.ntmps72
      go_wp2_with fail
      go_ret
      exact ⟨rfl, rfl⟩
    · rw [show toN 1 5 = 0 by decide +kernel]
      go_enter Tryz.func72, Tryz.ntmps72
      go_wp2_with fail
      go_ret
      exact ⟨rfl, rfl⟩
    · rw [show toN 1 6 = 0 by decide +kernel]
      go_enter Tryz.func72, Tryz.ntmps72
      go_wp2_with fail
      go_ret
      exact ⟨rfl, rfl⟩
    · rw [show toN 1 7 = 0 by decide +kernel]
      go_enter Tryz.func72, Tryz.ntmps72
      go_wp2_with fail
      go_ret
      exact ⟨rfl, rfl⟩
    · rw [show toN 2 1 = 60 by decide +kernel]
      go_enter Tryz.func72, Tryz.ntmps72
      go_wp2_with fail
      go_ret
      exact ⟨rfl, rfl⟩
    · rw [show toN 2 2 = 60 by decide +kernel]
      go_enter Tryz.func72, Tryz.ntmps72
      go_wp2_with fail
      go_ret
      exact ⟨rfl, rfl⟩
    · rw [show toN 2 3 = 0 by decide +kernel]
      go_enter Tryz.func72, Tryz.ntmps72
      go_wp2_with fail
      go_ret
      exact ⟨rfl, rfl⟩
    · rw [show toN 2 4 = 0 by decide +kernel]
      go_enter Tryz.func72, Tryz.ntmps72
      go_wp2_with fail
      go_ret
      exact ⟨rfl, rfl⟩
    · rw [show toN 2 5 = 0 by decide +kernel]
      go_enter Tryz.func72, Tryz.ntmps72
      go_wp2_with fail
      go_ret
      exact ⟨rfl, rfl⟩
    · rw [show toN 2 6 = 0 by decide +kernel]
      go_enter Tryz.func72, Tryz.ntmps72
      go_wp2_with fail
      go_ret
      exact ⟨rfl, rfl⟩
    · rw [show toN 2 7 = 0 by decide +kernel]
      go_enter Tryz.func72, Tryz.ntmps72
      go_wp2_with fail
      go_ret
      exact ⟨rfl, rfl⟩
    · rw [show toN 3 1 = 240 by decide +kernel]
      go_enter Tryz.func72, Tryz.ntmps72
      go_wp2_with fail
      go_ret
      exact ⟨rfl, rfl⟩
    · rw [show toN 3 2 = 240 by decide +kernel]
      go_enter Tryz.func72, Tryz.ntmps72
      go_wp2_with fail
      go_ret
      exact ⟨rfl, rfl⟩
    · rw [show toN 3 3 = 7440 by decide +kernel]
      go_enter Tryz.func72, Tryz.ntmps72
      go_wp2_with fail
      go_ret
      exact ⟨rfl, rfl⟩
    · rw [show toN 3 4 = 240 by decide +kernel]
      go_enter Tryz.func72, Tryz.ntmps72
      go_wp2_with fail
      go_ret
      exact ⟨rfl, rfl⟩
    · rw [show toN 3 5 = 240 by decide +kernel]
      go_enter Tryz.func72, Tryz.ntmps72
      go_wp2_with fail
      go_ret
      exact ⟨rfl, rfl⟩
    · rw [show toN 3 6 = 240 by decide +kernel]
      go_enter Tryz.func72, Tryz.ntmps72
      go_wp2_with fail
      go_ret
      exact ⟨rfl, rfl⟩
    · rw [show toN 3 7 = 240 by decide +kernel]
      go_enter Tryz.func72, Tryz.ntmps72
      go_wp2_with fail
      go_ret
      exact ⟨rfl, rfl⟩
  · have h0 : toN f s = 0 := by
      unfold toN
      split
      · obtain rfl : s = 0 := by omega
        rcases hf' with rfl | rfl | rfl | rfl <;> rfl
      · rfl
    rw [h0]
    have e1 : (s == 1) = false := beq_eq_false_iff_ne.2 (by omega)
    have e2 : (s == 2) = false := beq_eq_false_iff_ne.2 (by omega)
    by_cases h1 : s < 1
    · have d1 : decide (s < 1) = true := decide_eq_true h1
      clear hs h0
      rcases hf' with rfl | rfl | rfl | rfl
      · go_enter Tryz.func72, Tryz.ntmps72
        go_wp2_with fail
        go_ret
        exact ⟨rfl, rfl⟩
      · go_enter Tryz.func72, Tryz.ntmps72
        go_wp2_with fail
        go_ret
        exact ⟨rfl, rfl⟩
      · go_enter Tryz.func72, Tryz.ntmps72
        go_wp2_with fail
        go_ret
        exact ⟨rfl, rfl⟩
      · go_enter Tryz.func72, Tryz.ntmps72
        go_wp2_with fail
        go_ret
        exact ⟨rfl, rfl⟩
    · have d1 : decide (s < 1) = false := decide_eq_false h1
      have d2 : decide (7 < s) = true := decide_eq_true (by omega)
      clear hs h0
      rcases hf' with rfl | rfl | rfl | rfl
      · go_enter Tryz.func72, Tryz.ntmps72
        go_wp2_with fail
        go_ret
        exact ⟨rfl, rfl⟩
      · go_enter Tryz.func72, Tryz.ntmps72
        go_wp2_with fail
        go_ret
        exact ⟨rfl, rfl⟩
      · go_enter Tryz.func72, Tryz.ntmps72
        go_wp2_with fail
        go_ret
        exact ⟨rfl, rfl⟩
      · go_enter Tryz.func72, Tryz.ntmps72
        go_wp2_with fail
        go_ret
        exact ⟨rfl, rfl⟩

theorem rflow_ok (k : Nat) (w : World) : Calls Tryz.prog 73 #[.int .u8 k] w fun e w' => e = .returned (.int .i64 (flowN k : Nat)) ∧ w' = w := by
  by_cases h1 : k = 1
  · subst h1
    go_enter Tryz.func73, Tryz.ntmps73
    go_wp2_with fail
    go_ret
    exact ⟨rfl, rfl⟩
  · have e1 : ((k : Int) == 1) = false := beq_eq_false_iff_ne.2 (by omega)
    by_cases h6 : k = 6
    · subst h6
      go_enter Tryz.func73, Tryz.ntmps73
      go_wp2_with fail
      go_ret
      exact ⟨rfl, rfl⟩
    · have e6 : ((k : Int) == 6) = false := beq_eq_false_iff_ne.2 (by omega)
      by_cases h17 : k = 17
      · subst h17
        go_enter Tryz.func73, Tryz.ntmps73
        go_wp2_with fail
        go_ret
        exact ⟨rfl, rfl⟩
      · have e17 : ((k : Int) == 17) = false := beq_eq_false_iff_ne.2 (by omega)
        rw [show flowN k = 0 by simp [flowN, wordOf, h1, h6, h17]]
        go_enter Tryz.func73, Tryz.ntmps73
        go_wp2_with fail
        go_ret
        exact ⟨rfl, rfl⟩

theorem word_ok (k : Nat) (w : World) : Calls Tryz.prog 91 #[.int .u8 k] w fun e w' => e = .returned (str (wordOf k)) ∧ w' = w := by
  by_cases h1 : k = 1
  · subst h1
    go_enter Tryz.func91, Tryz.ntmps91
    go_wp2_with fail
    go_ret
    exact ⟨rfl, rfl⟩
  · have e1 : ((k : Int) == 1) = false := beq_eq_false_iff_ne.2 (by omega)
    by_cases h6 : k = 6
    · subst h6
      go_enter Tryz.func91, Tryz.ntmps91
      go_wp2_with fail
      go_ret
      exact ⟨rfl, rfl⟩
    · have e6 : ((k : Int) == 6) = false := beq_eq_false_iff_ne.2 (by omega)
      by_cases h17 : k = 17
      · subst h17
        go_enter Tryz.func91, Tryz.ntmps91
        go_wp2_with fail
        go_ret
        exact ⟨rfl, rfl⟩
      · have e17 : ((k : Int) == 17) = false := beq_eq_false_iff_ne.2 (by omega)
        rw [show wordOf k = [] by simp [flowN, wordOf, h1, h6, h17]]
        go_enter Tryz.func91, Tryz.ntmps91
        go_wp2_with fail
        go_ret
        exact ⟨rfl, rfl⟩

theorem word_pos (k : Nat) (h : isWord k = true) : ∃ x l, wordOf k = x :: l := by
  simp only [isWord, decide_eq_true_eq] at h
  rcases h with rfl | rfl | rfl
  · exact ⟨_, _, rfl⟩
  · exact ⟨_, _, rfl⟩
  · exact ⟨_, _, rfl⟩
theorem word_nil (k : Nat) (h : isWord k = false) : wordOf k = [] := by
  simp only [isWord, decide_eq_false_iff_not, not_or] at h
  simp [wordOf, h.1, h.2.1, h.2.2]
set_option maxHeartbeats 2000000 in
theorem rmay8_ok (k a p b q : Nat) (w : World) : Calls Tryz.prog 71 #[.agg #[.int .u8 k, .int .u32 a, .int .u16 p, .int .u32 b, .int .u16 q]] w (Ret1 (.bool (tupB k p q)) w) := by
  have kk := fun W => word_ok k W
  rcases hb : isWord k with _ | _
  · have e : tupB k p q = false := by simp [tupB, hb]
    rw [e]
    rw [word_nil k hb] at kk
    have K := Lib.hid kk
    clear kk e hb
    go_enter Tryz.func71, Tryz.ntmps71
    go_wp2_with fail
    have hn : NoW w (w.alloc (.cells #[.int .u8 k, .int .u32 a, .int .u16 p, .int .u32 b, .int .u16 q] 49)) := (Fp.refl _ _).alloc _
    refine (K.out _).mono ?_
    rintro e v ⟨rfl, rfl⟩
    go_wp2_with fail
    go_ret
    exact ⟨rfl, hn⟩
  · obtain ⟨x, wl, hwd⟩ := word_pos k hb
    rw [hwd] at kk
    by_cases k1 : k = 1
    · have ek2 : ((k : Int) != 1) = false := by rw [k1]; rfl
      by_cases p0 : p = 0
      · have ep : ((p : Int) == 0) = true := by rw [p0]; rfl
        rw [show tupB k p q = true by simp [tupB, hb, p0]]
        have K := Lib.hid kk
        clear kk k1 p0 hb hwd
        go_enter Tryz.func71, Tryz.ntmps71
        go_wp2_with fail
        have hn : NoW w (w.alloc (.cells #[.int .u8 k, .int .u32 a, .int .u16 p, .int .u32 b, .int .u16 q] 49)) := (Fp.refl _ _).alloc _
        refine (K.out _).mono ?_
        rintro e v ⟨rfl, rfl⟩
        go_wp2_with fail
        go_ret
        exact ⟨rfl, hn⟩
      · have ep : ((p : Int) == 0) = false := beq_eq_false_iff_ne.2 (by omega)
        rw [show tupB k p q = decide (q = 0) by have := hb; rw [k1] at this; simp [tupB, this, p0, k1]]
        have K := Lib.hid kk
        clear kk k1 p0 hb hwd
        by_cases q0 : q = 0
        · have eq : ((q : Int) == 0) = true := by rw [q0]; rfl
          rw [decide_eq_true q0]
          clear q0
          go_enter Tryz.func71, Tryz.ntmps71
          go_wp2_with fail
          have hn : NoW w (w.alloc (.cells #[.int .u8 k, .int .u32 a, .int .u16 p, .int .u32 b, .int .u16 q] 49)) := (Fp.refl _ _).alloc _
          refine (K.out _).mono ?_
          rintro e v ⟨rfl, rfl⟩
          go_wp2_with fail
          go_ret
          exact ⟨rfl, hn⟩
        · have eq : ((q : Int) == 0) = false := beq_eq_false_iff_ne.2 (by omega)
          rw [decide_eq_false q0]
          clear q0
          go_enter Tryz.func71, Tryz.ntmps71
          go_wp2_with fail
          have hn : NoW w (w.alloc (.cells #[.int .u8 k, .int .u32 a, .int .u16 p, .int .u32 b, .int .u16 q] 49)) := (Fp.refl _ _).alloc _
          refine (K.out _).mono ?_
          rintro e v ⟨rfl, rfl⟩
          go_wp2_with fail
          go_ret
          exact ⟨rfl, hn⟩
    · have ek2 : ((k : Int) != 1) = true := by simp; omega
      rw [show tupB k p q = true by simp [tupB, hb, k1]]
      have K := Lib.hid kk
      clear kk k1 hb hwd
      go_enter Tryz.func71, Tryz.ntmps71
      go_wp2_with fail
      have hn : NoW w (w.alloc (.cells #[.int .u8 k, .int .u32 a, .int .u16 p, .int .u32 b, .int .u16 q] 49)) := (Fp.refl _ _).alloc _
      refine (K.out _).mono ?_
      rintro e v ⟨rfl, rfl⟩
      go_wp2_with fail
      go_ret
      exact ⟨rfl, hn⟩

end Go.Proofs.YtcimbbllefkdlaaGreatDoor

namespace Go.Proofs.YtcimbbllefkdlaaGreatDoor
set_option linter.unusedVariables false
set_option linter.unusedSimpArgs false
open Go.RowKit Go.Lib Go.Sort

theorem tup_eq2 (r a p b q r2 a2 p2 b2 q2 : Nat) (W : World) : (binOp .eql 49 (.agg #[.int .u8 r, .int .u32 a, .int .u16 p, .int .u32 b, .int .u16 q]) (.agg #[.int .u8 r2, .int .u32 a2, .int .u16 p2, .int .u32 b2, .int .u16 q2])).run Tryz.prog W = .ok (.bool (decide (r = r2 ∧ a = a2 ∧ p = p2 ∧ b = b2 ∧ q = q2))) W := by
  exact tup_eql r2 a2 p2 b2 q2 r a p b q W
set_option maxHeartbeats 2000000 in
set_option maxRecDepth 100000 in
theorem match_ok (r a p b q r2 a2 p2 b2 q2 r3 a3 p3 b3 q3 : Nat) (st dl : Int) (ad : Option Addr) (n c : Nat) (w : World) :
    Calls Tryz.prog 46 #[.agg #[.int .u8 r, .int .u32 a, .int .u16 p, .int .u32 b, .int .u16 q, .int .u8 r2, .int .u32 a2, .int .u16 p2, .int .u32 b2, .int .u16 q2, .int .i64 st, .int .i64 dl, (.slice ad n c)], .agg #[.int .u8 r3, .int .u32 a3, .int .u16 p3, .int .u32 b3, .int .u16 q3]] w (Ret1 (.tuple #[.bool (!decide (r3 = r ∧ a3 = a ∧ p3 = p ∧ b3 = b ∧ q3 = q) && decide (r3 = r2 ∧ a3 = a2 ∧ p3 = p2 ∧ b3 = b2 ∧ q3 = q2)), .bool (decide (r3 = r ∧ a3 = a ∧ p3 = p ∧ b3 = b ∧ q3 = q) || decide (r3 = r2 ∧ a3 = a2 ∧ p3 = p2 ∧ b3 = b2 ∧ q3 = q2))]) w) := by
  have e1 := fun W => tup_eq2 r3 a3 p3 b3 q3 r a p b q W
  have e2 := fun W => tup_eq2 r3 a3 p3 b3 q3 r2 a2 p2 b2 q2 W
  have hn : NoW w ((w.alloc (.cells #[.int .u8 r, .int .u32 a, .int .u16 p, .int .u32 b, .int .u16 q, .int .u8 r2, .int .u32 a2, .int .u16 p2, .int .u32 b2, .int .u16 q2, .int .i64 st, .int .i64 dl, (.slice ad n c)] 52)).alloc (.cells #[.int .u8 r3, .int .u32 a3, .int .u16 p3, .int .u32 b3, .int .u16 q3] 49)) := ((Fp.refl _ _).alloc _).alloc _
  rcases h1 : decide (r3 = r ∧ a3 = a ∧ p3 = p ∧ b3 = b ∧ q3 = q) with _ | _ <;> rcases h2 : decide (r3 = r2 ∧ a3 = a2 ∧ p3 = p2 ∧ b3 = b2 ∧ q3 = q2) with _ | _ <;> rw [h1] at e1 <;> rw [h2] at e2 <;> clear h1 h2
  · show Calls _ _ _ _ (Ret1 (.tuple #[.bool false, .bool false]) w)
    go_enter Tryz.func46, Tryz.ntmps46
    go_wp2_with fail
    refine bodyPost_ret (v := .tuple #[.bool false, .bool false]) (by simp only [results, Tryz.results46]; go_simp) rfl ⟨rfl, by first | exact hn | exact ((Fp.refl _ _).alloc _).alloc _ | exact (Fp.refl _ _).alloc _⟩
  · show Calls _ _ _ _ (Ret1 (.tuple #[.bool true, .bool true]) w)
    go_enter Tryz.func46, Tryz.ntmps46
    go_wp2_with fail
    refine bodyPost_ret (v := .tuple #[.bool true, .bool true]) (by simp only [results, Tryz.results46]; go_simp) rfl ⟨rfl, by first | exact hn | exact ((Fp.refl _ _).alloc _).alloc _ | exact (Fp.refl _ _).alloc _⟩
  · show Calls _ _ _ _ (Ret1 (.tuple #[.bool false, .bool true]) w)
    go_enter Tryz.func46, Tryz.ntmps46
    go_wp2_with fail
    refine bodyPost_ret (v := .tuple #[.bool false, .bool true]) (by simp only [results, Tryz.results46]; go_simp) rfl ⟨rfl, by first | exact hn | exact ((Fp.refl _ _).alloc _).alloc _ | exact (Fp.refl _ _).alloc _⟩
  · show Calls _ _ _ _ (Ret1 (.tuple #[.bool false, .bool true]) w)
    go_enter Tryz.func46, Tryz.ntmps46
    go_wp2_with fail
    refine bodyPost_ret (v := .tuple #[.bool false, .bool true]) (by simp only [results, Tryz.results46]; go_simp) rfl ⟨rfl, by first | exact hn | exact ((Fp.refl _ _).alloc _).alloc _ | exact (Fp.refl _ _).alloc _⟩
end Go.Proofs.YtcimbbllefkdlaaGreatDoor

namespace Go.Proofs.YtcimbbllefkdlaaGreatDoor
set_option linter.unusedVariables false
set_option linter.unusedSimpArgs false
open Go.RowKit Go.Lib Go.Sort

theorem rlive_ok (r a p b q r2 a2 p2 b2 q2 : Nat) (st dl : Int) (h : Value) (now : Int) (w : World) : Calls Tryz.prog 74 #[.agg #[.int .u8 r, .int .u32 a, .int .u16 p, .int .u32 b, .int .u16 q, .int .u8 r2, .int .u32 a2, .int .u16 p2, .int .u32 b2, .int .u16 q2, .int .i64 st, .int .i64 dl, h], .int .i64 now] w (Ret1 (.bool (decide (now < dl))) w) := by
  go_enter Tryz.func74, Tryz.ntmps74
  go_wp2_with fail
  go_ret
  exact ⟨rfl, (Fp.refl _ _).alloc _⟩

end Go.Proofs.YtcimbbllefkdlaaGreatDoor
