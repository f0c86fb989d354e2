/- The document's May of an entry (written by genmay.py). -/
import Derived.Test.YtaiimkcmgiceeaaDoorEtB
namespace Go.Proofs.YtaiimkcmgiceeaaDoor
set_option linter.unusedVariables false
set_option linter.unusedSimpArgs false
open Go.RowKit Go.Lib Go.Sort
theorem toN_nonneg (f : Nat) (hf : f < 4) (s : Int) : 0 ≤ toN f s := by
  unfold toN
  split
  · obtain ⟨n, rfl⟩ : ∃ n : Nat, s = n := ⟨s.toNat, by omega⟩
    have hn : n < 8 := by omega
    rw [Int.toNat_natCast]
    have key : ∀ f : Fin 4, ∀ n : Fin 8, 0 ≤ lastN f.val n.val := by decide +kernel
    exact key ⟨f, hf⟩ ⟨n, hn⟩
  · exact Int.le_refl _

end Go.Proofs.YtaiimkcmgiceeaaDoor
