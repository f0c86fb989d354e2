/- Same, of the program and of the document (written by gensame.py). -/
import Derived.Test.YtaiimkcmgiceeaaDoorEtI
namespace Go.Proofs.YtaiimkcmgiceeaaDoor
set_option linter.unusedVariables false
set_option linter.unusedSimpArgs false
open Go.RowKit Go.Lib Go.Sort
/-- Are two entries the same? -/

theorem wrap_sub0 (x y : Int) (hx : -9223372036854775808 ≤ x ∧ x ≤ 9223372036854775807) (hy : -9223372036854775808 ≤ y ∧ y ≤ 9223372036854775807) : IntKind.i64.wrap (x - y) = 0 ↔ x = y := by
  constructor
  · intro h
    have h1 : (x - y) % 18446744073709551616 = 0 ∨ ¬ (x - y) % 18446744073709551616 = 0 := Classical.em _
    simp only [IntKind.wrap, IntKind.signed, IntKind.bits] at h
    simp at h
    omega
  · rintro rfl
    simp [IntKind.wrap, IntKind.signed, IntKind.bits]

end Go.Proofs.YtaiimkcmgiceeaaDoor
