/- Chapter 18: Long. -/
import Derived.Test.YtaiimkcmgiceeaaDoorEnL
namespace Go.Proofs.YtaiimkcmgiceeaaDoor
set_option linter.unusedVariables false
set_option linter.unusedSimpArgs false
open Go.RowKit Go.Lib Go.Sort
def longB (n : Nat) (hl : Nat → Nat) (most : Int) : Bool := (List.range n).any (fun i => decide (5 < hl i)) || decide (most < (n : Int))
set_option maxHeartbeats 1000000 in
theorem long_ok (a : Option Addr) (n c : Nat) (hl cp : Nat → Nat) (ad : Nat → Option Addr) (most : Int) (hnm : n ≤ maxLen) (hnc : n ≤ c) (w : World)
    (h : ∀ i, i < n → ∃ b o, a = some ⟨b, o, none⟩ ∧ w.cell? ⟨b, o + i * 13 + 12, none⟩ = some (.slice (ad i) (hl i) (cp i)) ∧ hl i ≤ maxLen) :
    Calls Tryd.prog 4 #[.slice a n c, .int .i64 most] w (Ret1 (.bool (longB n hl most)) w) := by
  have H := Lib.hid h
  have Hm := Lib.hid hnm
  clear h
  unfold maxLen at hnm
  go_enter Tryd.func4, Tryd.ntmps4
  go_wp2_with fail
  go_loopg [5] (n + 1) (fun gg i wx => ∃ (k : Nat), k ≤ n ∧ gg = n + 1 - k ∧ i = .int .i64 (k : Int) ∧ NoW w wx ∧ ∀ j, j < k → ¬ 5 < hl j)
  case atStart => exact ⟨0, by omega, by omega, rfl, Fp.refl _ _, fun j hj => by omega⟩
  case round =>
    obtain ⟨k, hk, hg, rfl, hf, hno⟩ := hrel
    have Hg := Lib.hid hg
    have Hf := Lib.hid hf
    have Hno := Lib.hid hno
    clear hg hf hno
    by_cases hlt : k < n
    · obtain ⟨b, o, rfl, hc, hm⟩ := H.out k hlt
      have hc' : wr.cell? ⟨b, o + k * 13 + 12, none⟩ = some (.slice (ad k) (hl k) (cp k)) := (Hf.out.cell (p := ⟨b, o + k * 13 + 12, none⟩) (cell_lt hc) id).trans hc
      clear hc
      by_cases h5 : 5 < hl k
      · have hd : decide ((5 : Int) < (hl k : Int)) = true := by simp; omega
        rw [show longB n hl most = true by
          simp only [longB, Bool.or_eq_true, List.any_eq_true, List.mem_range, decide_eq_true_eq]
          exact .inl ⟨k, hlt, h5⟩]
        clear h5
        go_wp2_with fail
        go_ret
        exact ⟨rfl, Hf.out⟩
      · have hd : decide ((5 : Int) < (hl k : Int)) = false := by simp; omega
        have H5 := Lib.hid h5
        clear h5
        go_wp2_with fail
        go_roundg (n - k)
        case measure => have := Hg.out; omega
        case rel => exact ⟨k + 1, by omega, by omega, by go_num, Hf.out, fun j hj => by
            by_cases e : j = k
            · rw [e]; exact H5.out
            · exact Hno.out j (by omega)⟩
    · obtain rfl : k = n := by omega
      have HL := Lib.hid (show longB k hl most = decide (most < (k : Int)) by
        have : (List.range k).any (fun i => decide (5 < hl i)) = false := by
          rw [List.any_eq_false]
          intro j hj
          simpa using Hno.out j (List.mem_range.1 hj)
        rw [longB, this, Bool.false_or])
      go_wp2_with fail
      go_ret
      exact ⟨by rw [HL.out]; rfl, Hf.out⟩
end Go.Proofs.YtaiimkcmgiceeaaDoor
