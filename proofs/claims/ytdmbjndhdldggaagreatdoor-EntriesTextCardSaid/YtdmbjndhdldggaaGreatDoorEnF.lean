/- Chapter 18: slices.Clone of holds, own, Next, Touch (written by genef.py). -/
import Derived.Test.YtdmbjndhdldggaaGreatDoorEnD
import Derived.Test.YtdmbjndhdldggaaGreatDoorSees
namespace Go.Proofs.YtdmbjndhdldggaaGreatDoor
set_option linter.unusedVariables false
set_option linter.unusedSimpArgs false
open Go.RowKit Go.Lib Go.Sort

def holdZ : Value := .agg #[.int .u32 0, .int .u16 0, .int .u32 0, .int .u16 0]
theorem infoHold : ∃ i, Tryz.prog.info? 59 = some i ∧ i.zero = some holdZ ∧ i.size = 4 ∧ i.bytes ≤ 65536 := by
  have h : ((Tryz.prog.info? 59).map fun i => (i.zero, i.size, decide (i.bytes ≤ 65536))) = some (some holdZ, 4, true) := by kernel_rfl
  rcases hi : Tryz.prog.info? 59 with _ | i
  · simp [hi] at h
  · simp [hi] at h
    exact ⟨i, rfl, h.1, h.2.1, h.2.2⟩

/-- A slice of holds, as it stands in memory. -/
structure Holds (w : World) (b o n : Nat) (ys : List Value) : Prop where
  len : ys.length = n * 4
  cell : ∀ j x, ys[j]? = some x → w.cell? ⟨b, o + j, none⟩ = some x
  one : ∀ x ∈ ys, x.oneCell' = true
  lt : b < w.heap.size
theorem Holds.low {w w' : World} {b o n : Nat} {ys : List Value} (h : Holds w b o n ys) (hf : NoW w w') : Holds w' b o n ys :=
  ⟨h.len, fun j x hj => (hf.cell (p := ⟨b, o + j, none⟩) h.lt id).trans (h.cell j x hj), h.one, Nat.lt_of_lt_of_le h.lt hf.size⟩
theorem Holds.set {w : World} {b o n : Nat} {ys : List Value} (h : Holds w b o n ys) {p : Addr} (hp : p.block ≠ b) (v : Value) : Holds (w.setCell p v) b o n ys :=
  ⟨h.len, fun j x hj => (World.cell?_setCell_other _ _ _ _ (fun e => hp (by rw [e]))).trans (h.cell j x hj), h.one, by simpa [World.setCell] using h.lt⟩
theorem holds_of_own {w : World} {B n : Nat} {v : Value} {ys : List Value} (h : w.ownsRow B 59 4 v n ys) (h1 : ∀ x ∈ ys, x.oneCell' = true) (hn : v ≠ .slice none 0 0) :
    ∃ b c, v = .slice (some ⟨b, 0, none⟩) n c ∧ n ≤ c ∧ B ≤ b ∧ Holds w b 0 n ys := by
  have hc := h
  obtain ⟨hl, h2⟩ := h
  rcases h2 with ⟨rfl, _⟩ | ⟨g, cap, cur, rfl, hB, hg, hcap, _⟩
  · exact absurd rfl hn
  · refine ⟨g, cap, rfl, hcap, hB, hl, fun j x hj => ?_, h1, (Array.getElem?_eq_some_iff.1 hg).1⟩
    have := World.ownsRow.cells hc rfl j x hj
    rw [add_eq] at this
    simpa using this

set_option maxHeartbeats 2000000 in
theorem clone_ok (b o n c : Nat) (ys : List Value) (hn : n ≤ 100) (w : World) (hh : Holds w b o n ys) :
    Calls Tryz.prog 60 #[.slice (some ⟨b, o, none⟩) n c] w fun e w' => ∃ b' c', e = .returned (.slice (some ⟨b', 0, none⟩) n c') ∧ n ≤ c' ∧ w.heap.size ≤ b' ∧ Holds w' b' 0 n ys ∧ NoW w w' := by
  have q1 : ∀ W, (binOp .eql 29 (.slice (some ⟨b, o, none⟩) n c) (.slice none 0 0)).run Tryz.prog W = .ok (.bool false) W := fun W => Lib.run_eql_slice_nil W _ _ _ n c 0 0 Tryz.underlying29
  have hl := hh.len
  have hone := hh.one
  have Hh := Lib.hid hh
  have Hone := Lib.hid hone
  clear hh hone
  go_enter Tryz.func60, Tryz.ntmps60
  go_wp2_with (at_builtin; go_must (obtain ⟨i, hi, hz, hs4, hb⟩ := infoHold; refine wp_append_at rfl _ _ 29 rfl w.heap.size 59 i holdZ Tryz.underlying29 hi hz (by rw [hs4]; rfl) (by omega) _ 0 [] rfl ?_ ⟨b, o, none⟩ n c ys rfl (by rw [hs4]; exact hl) ?_ Hone.out ?_ ?_ (by simp) ?_))
  · rw [hs4]
    exact World.ownsRow_made w #[] 0 (Nat.le_refl _) (Nat.zero_le _) rfl
  · intro j x hj
    rw [add_eq]
    exact (((Fp.refl (fun _ => False) w).alloc (.cells #[] 59)).cell (p := ⟨b, o + j, none⟩) Hh.out.lt id).trans (Hh.out.cell j x hj)
  · unfold maxLen; omega
  · have := Nat.mul_le_mul (show 0 + n ≤ 100 by omega) hb; omega
  intro v' w' hown hgrow hnil _
  have hf : NoW w w' := ((Fp.refl (fun _ => False) w).alloc (.cells #[] 59)).grown hgrow (fun k e => by simp [Value.ownBlock] at e; omega)
  obtain ⟨b', c', rfl, hc', hB', hh'⟩ := holds_of_own hown Hone.out hnil
  go_wp2_with fail
  go_ret
  exact ⟨b', c', rfl, hc', hB', hh', hf⟩
end Go.Proofs.YtdmbjndhdldggaaGreatDoor
