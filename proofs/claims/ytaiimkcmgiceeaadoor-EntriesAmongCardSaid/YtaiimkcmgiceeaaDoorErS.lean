/- Chapter 18: reading a slice of entries (written by genroomw.py). -/
import Derived.Test.YtaiimkcmgiceeaaDoorErV
import Derived.Test.YtaiimkcmgiceeaaDoorSeeE
namespace Go.Proofs.YtaiimkcmgiceeaaDoor
set_option linter.unusedVariables false
set_option linter.unusedSimpArgs false
open Go.RowKit Go.Lib Go.Sort
/-- The holds of each, as they stand in memory. -/
def HoldsAll (w : World) (n : Nat) (E : Nat → EntD) (O : Nat → (Nat → Nat) × (Nat → Nat) × (Nat → Nat) × (Nat → Nat)) : Prop := ∀ i, i < n → HoldsOk w (E i).ad (E i).n (E i).c (O i).1 (O i).2.1 (O i).2.2.1 (O i).2.2.2
set_option maxRecDepth 100000 in
theorem ents_open {w : World} {v : Value} (h : Good Tryd.prog w 22 v) : ∃ (sl : Option Addr) (n c : Nat) (E : Nat → EntD) (O : Nat → (Nat → Nat) × (Nat → Nat) × (Nat → Nat) × (Nat → Nat)), v = .slice sl n c ∧ n ≤ c ∧ c ≤ maxLen ∧ Ents w sl n E ∧ HoldsAll w n E O := by
  have c1 : Tryd.prog.cellsOf 32 = 13 := by kernel_rfl
  obtain ⟨sl, n, c, rfl, hnc, hcm, m, rows, hr, hat⟩ := good_rows Tryd.underlying22 c1 (by omega) h
  have key : ∀ i, ∃ (x : EntD) (o : (Nat → Nat) × (Nat → Nat) × (Nat → Nat) × (Nat → Nat)), i < c → rows i = x.cs ∧ x.Ok ∧ HoldsOk w x.ad x.n x.c o.1 o.2.1 o.2.2.1 o.2.2.2 := fun i => by
    by_cases hi : i < c
    · obtain ⟨r, a, p, b, q, r2, a2, p2, b2, q2, st, dl, ad, m, c', oa, op, ia, ip, e, ⟨h1, h2, h3, h4, h5⟩, ⟨h6, h7, h8, h9, h10⟩, h11, h12, hh⟩ := ent_sees (hr i hi).2
      exact ⟨⟨r, a, p, b, q, r2, a2, p2, b2, q2, st, dl, ad, m, c'⟩, (oa, op, ia, ip), fun _ => ⟨e, ⟨h1, h2, h3, h4, h5, h6, h7, h8, h9, h10, h11, h12, Nat.le_trans hh.nc hh.cm⟩, hh⟩⟩
    · exact ⟨⟨0, 0, 0, 0, 0, 0, 0, 0, 0, 0, 0, 0, none, 0, 0⟩, (id, id, id, id), fun h => absurd h hi⟩
  obtain ⟨E, key⟩ := Classical.axiomOfChoice key
  obtain ⟨O, key⟩ := Classical.axiomOfChoice key
  refine ⟨sl, n, c, E, O, rfl, hnc, hcm, ⟨fun i hi => (key i (by omega)).2.1, fun i hi => ?_⟩, fun i hi => (key i (by omega)).2.2⟩
  obtain ⟨b, o, e, hc⟩ := hat (by omega)
  refine ⟨b, o, e, fun j v hj => ?_⟩
  have hjl := (List.getElem?_eq_some_iff.1 hj).1
  have := hc i (by omega) j hjl
  rw [(key i (by omega)).1] at this
  rw [this, hj]
end Go.Proofs.YtaiimkcmgiceeaaDoor
