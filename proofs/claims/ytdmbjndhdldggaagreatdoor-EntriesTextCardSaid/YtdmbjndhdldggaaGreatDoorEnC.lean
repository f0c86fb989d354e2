/- Chapter 18: track, tuples.May, Check (written by genec.py). -/
import Derived.Test.YtdmbjndhdldggaaGreatDoorEnB
namespace Go.Proofs.YtdmbjndhdldggaaGreatDoor
set_option linter.unusedVariables false
set_option linter.unusedSimpArgs false
open Go.RowKit Go.Lib Go.Sort

def flowN (k : Nat) : Nat := if k = 1 then 2 else if k = 6 then 3 else if k = 17 then 1 else 0
theorem flowN_lt (k : Nat) : flowN k < 4 := by unfold flowN; split <;> (try split) <;> (try split) <;> omega
/-- How long a state lasts, any numbers. -/
def toN (f : Nat) (s : Int) : Int := if 0 ≤ s ∧ s ≤ 7 then lastN f s.toNat else 0

set_option maxHeartbeats 1000000 in
set_option maxRecDepth 100000 in
theorem flow_ok (k : Nat) (w : World) : Calls Tryz.prog 36 #[.int .u8 k] w fun e w' => e = .returned (.int .i64 (flowN k : Nat)) ∧ w' = w := by
  by_cases h1 : k = 1
  · subst h1
    go_enter Tryz.func36, Tryz.ntmps36
    go_wp2_with fail
    go_ret
    exact ⟨rfl, rfl⟩
  · have e1 : ((k : Int) == 1) = false := beq_eq_false_iff_ne.2 (by omega)
    by_cases h6 : k = 6
    · subst h6
      go_enter Tryz.func36, Tryz.ntmps36
      go_wp2_with fail
      go_ret
      exact ⟨rfl, rfl⟩
    · have e6 : ((k : Int) == 6) = false := beq_eq_false_iff_ne.2 (by omega)
      by_cases h17 : k = 17
      · subst h17
        go_enter Tryz.func36, Tryz.ntmps36
        go_wp2_with fail
        go_ret
        exact ⟨rfl, rfl⟩
      · have e17 : ((k : Int) == 17) = false := beq_eq_false_iff_ne.2 (by omega)
        have hf : flowN k = 0 := by simp [flowN, h1, h6, h17]
        rw [hf]
        go_enter Tryz.func36, Tryz.ntmps36
        go_wp2_with fail
        go_ret
        exact ⟨rfl, rfl⟩

set_option maxHeartbeats 1000000 in
set_option maxRecDepth 100000 in
theorem timeout_ok (f : Nat) (hf : f < 4) (s : Int) (w : World) (ht : Tb w) : Calls Tryz.prog 38 #[.int .i64 f, .int .i64 s] w fun e w' => e = .returned (.int .i64 (toN f s)) ∧ w' = w := by
  have hlast := ht.lasts
  have Hlast := Lib.hid hlast
  clear hlast ht
  have hf0 : ¬ ((f : Int) < 0) := by omega
  have hf1 : decide ((4 : Int) ≤ (f : Int)) = false := by simp; omega
  by_cases h0 : s < 0
  · have ht : toN f s = 0 := by unfold toN; rw [if_neg (by omega)]
    rw [ht]
    have d0 : decide (s < 0) = true := by simpa using h0
    go_enter Tryz.func38, Tryz.ntmps38
    go_wp2_with fail
    go_ret
    exact ⟨rfl, rfl⟩
  · have d0 : decide (s < 0) = false := by simpa using h0
    by_cases h7 : s ≤ 7
    · have d7 : decide (7 < s) = false := by simpa using h7
      obtain ⟨n, rfl⟩ : ∃ n : Nat, s = n := ⟨s.toNat, by omega⟩
      have ht : toN f n = lastN f n := by unfold toN; rw [if_pos (by omega), Int.toNat_natCast]
      rw [ht]
      have hc : w.cell? ⟨1, f * 8 + n, none⟩ = some (.int .i64 (lastN f n)) := Hlast.out f n hf (by omega)
      have hn8 : n < 8 := by omega
      go_enter Tryz.func38, Tryz.ntmps38
      go_wp2_with fail
      go_ret
      exact ⟨rfl, rfl⟩
    · have d7 : decide (7 < s) = true := by simp; omega
      have ht : toN f s = 0 := by unfold toN; rw [if_neg (by omega)]
      rw [ht]
      go_enter Tryz.func38, Tryz.ntmps38
      go_wp2_with fail
      go_ret
      exact ⟨rfl, rfl⟩

theorem tmay_ok (f : Nat) (hf : f < 4) (s : Int) (w : World) (ht : Tb w) : Calls Tryz.prog 40 #[.int .i64 f, .int .i64 s] w fun e w' => e = .returned (.bool (decide (0 < toN f s))) ∧ w' = w := by
  have k := fun W hW => timeout_ok f hf s W hW
  have K := Lib.hid k
  have Ht := Lib.hid ht
  clear k ht
  go_enter Tryz.func40, Tryz.ntmps40
  go_wp2_with fail
  refine (K.out _ Ht.out).mono ?_
  rintro e w' ⟨rfl, rfl⟩
  go_wp2_with fail
  go_ret
  exact ⟨rfl, rfl⟩

/-- May a tuple be? -/
def tupB (k p q : Nat) : Bool := isWord k && (decide (k ≠ 1) || decide (p = 0) || decide (q = 0))
set_option maxHeartbeats 1000000 in
set_option maxRecDepth 100000 in
theorem tup_ok (k a p b q : Nat) (hk : k < 256) (w : World) (ht : Tb w) : Calls Tryz.prog 39 #[.agg #[.int .u8 k, .int .u32 a, .int .u16 p, .int .u32 b, .int .u16 q]] w (Ret1 (.bool (tupB k p q)) w) := by
  obtain ⟨bm, o, h1, h2, h3⟩ := ht.words
  have lg := cell_lt h1
  have hl := (h3 _ ((Fp.refl (fun _ => False) w).alloc (.cells #[.int .u8 k, .int .u32 a, .int .u16 p, .int .u32 b, .int .u16 q] 28) |>.block _ (Array.getElem?_eq_some_iff.1 h2).1 id |>.trans h2) k hk).1
  rcases hw : isWord k with _ | _
  · have e : tupB k p q = false := by simp [tupB, hw]
    rw [e]
    rw [hw] at hl
    have Hl := hl
    clear e h3 hw ht
    go_enter Tryz.func39, Tryz.ntmps39
    go_wp2_with fail
    go_ret
    exact ⟨rfl, (Fp.refl _ _).alloc _⟩
  · rw [hw] at hl
    clear h3 ht
    by_cases k1 : k = 1
    · have ek : ((k : Int) == 1) = true := by rw [k1]; rfl
      have ek2 : ((k : Int) != 1) = false := by rw [k1]; rfl
      by_cases p0 : p = 0
      · have ep : ((p : Int) == 0) = true := by rw [p0]; rfl
        rw [show tupB k p q = true by simp [tupB, hw, p0]]
        clear k1 p0
        go_enter Tryz.func39, Tryz.ntmps39
        go_wp2_with fail
        go_ret
        exact ⟨rfl, (Fp.refl _ _).alloc _⟩
      · have ep : ((p : Int) == 0) = false := beq_eq_false_iff_ne.2 (by omega)
        rw [show tupB k p q = decide (q = 0) by have := hw; rw [k1] at this; simp [tupB, this, p0, k1]]
        clear k1
        have eq : ((q : Int) == 0) = decide (q = 0) := by rw [Bool.eq_iff_iff]; simp
        go_enter Tryz.func39, Tryz.ntmps39
        go_wp2_with fail
        go_ret
        exact ⟨rfl, (Fp.refl _ _).alloc _⟩
    · have ek : ((k : Int) == 1) = false := beq_eq_false_iff_ne.2 (by omega)
      have ek2 : ((k : Int) != 1) = true := by simp; omega
      rw [show tupB k p q = true by simp [tupB, hw, k1]]
      go_enter Tryz.func39, Tryz.ntmps39
      go_wp2_with fail
      go_ret
      exact ⟨rfl, (Fp.refl _ _).alloc _⟩
end Go.Proofs.YtdmbjndhdldggaaGreatDoor
