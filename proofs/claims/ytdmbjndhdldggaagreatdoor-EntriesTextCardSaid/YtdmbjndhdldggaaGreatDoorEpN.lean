/- Chapter 18: what reading wants of the variables, beside Tb (written by genep.py). -/
import Derived.Test.YtdmbjndhdldggaaGreatDoorEnA
import Derived.Test.YtdmbjndhdldggaaGreatDoorAdL
import Derived.Laws.BitsAllLaws
namespace Go.Proofs.YtdmbjndhdldggaaGreatDoor
set_option linter.unusedVariables false
set_option linter.unusedSimpArgs false
open Go.RowKit Go.Lib Go.Sort
structure TbP (w : World) : Prop where
  base : Tb w
  mx : ∃ m, w.cell? ⟨5, 0, none⟩ = some (.int .i64 m)
  es : ∃ ev, w.cell? ⟨2, 0, none⟩ = some ev ∧ (ev = .nilIface ∨ ∃ te pe, ev = .iface te pe)
  er : ∃ ev, w.cell? ⟨3, 0, none⟩ = some ev ∧ (ev = .nilIface ∨ ∃ te pe, ev = .iface te pe)
theorem TbP.low {w w' : World} (h : TbP w) (hf : NoW w w') : TbP w' := by
  obtain ⟨hb, ⟨m, hm⟩, ⟨ev, h1, h2⟩, ⟨ev', h3, h4⟩⟩ := h
  exact ⟨hb.low hf, ⟨m, (hf.cell (cell_lt hm) id).trans hm⟩, ⟨ev, (hf.cell (cell_lt h1) id).trans h1, h2⟩, ⟨ev', (hf.cell (cell_lt h3) id).trans h3, h4⟩⟩
end Go.Proofs.YtdmbjndhdldggaaGreatDoor
