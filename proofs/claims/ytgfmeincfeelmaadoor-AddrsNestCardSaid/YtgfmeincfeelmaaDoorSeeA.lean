/- What a reading tells of addresses, endpoints, prefixes. -/
import Derived.Test.YtgfmeincfeelmaaDoorSees
import Derived.Test.YtgfmeincfeelmaaDoorRows
namespace Go.Proofs.YtgfmeincfeelmaaDoor
set_option linter.unusedVariables false
set_option linter.unusedSimpArgs false
open Go.RowKit

theorem wf_nat {k : IntKind} {x : Int} (h : (Lit.int k x).wf = true) (hs : k.signed = false) : ∃ n : Nat, x = n ∧ n < 2 ^ k.bits := by
  simp only [Lit.wf, IntKind.has, IntKind.min, IntKind.max, hs, decide_eq_true_eq] at h
  have h1 : 0 ≤ x ∧ x ≤ 2 ^ k.bits - 1 := by simpa using h
  refine ⟨x.toNat, by omega, ?_⟩
  have h2 : x < 2 ^ k.bits := by omega
  have h3 : (x.toNat : Int) = x := Int.toNat_of_nonneg h1.1
  have h4 : ((2 ^ k.bits : Nat) : Int) = (2 : Int) ^ k.bits := by simp
  omega
theorem u32_sees {P : Program} {w : World} {n : Nat} {t : TypeId} {cs : List Value} (hu : P.underlying t = some (.int .u32)) (h : Sees P w n t cs) : ∃ a : Nat, cs = [.int .u32 a] ∧ a < 4294967296 := by
  obtain ⟨x, e, hw⟩ := sees_int hu h
  obtain ⟨a, rfl, ha⟩ := wf_nat hw rfl
  exact ⟨a, e, ha⟩
theorem u16_sees {P : Program} {w : World} {n : Nat} {t : TypeId} {cs : List Value} (hu : P.underlying t = some (.int .u16)) (h : Sees P w n t cs) : ∃ a : Nat, cs = [.int .u16 a] ∧ a < 65536 := by
  obtain ⟨x, e, hw⟩ := sees_int hu h
  obtain ⟨a, rfl, ha⟩ := wf_nat hw rfl
  exact ⟨a, e, ha⟩
theorem u8_sees {P : Program} {w : World} {n : Nat} {t : TypeId} {cs : List Value} (hu : P.underlying t = some (.int .u8)) (h : Sees P w n t cs) : ∃ a : Nat, cs = [.int .u8 a] ∧ a < 256 := by
  obtain ⟨x, e, hw⟩ := sees_int hu h
  obtain ⟨a, rfl, ha⟩ := wf_nat hw rfl
  exact ⟨a, e, ha⟩
theorem u32_open {w : World} {t : TypeId} {v : Value} (hu : Tryd.prog.underlying t = some (.int .u32)) (h : Good Tryd.prog w t v) : ∃ a : Nat, v = .int .u32 a ∧ a < 4294967296 := by
  obtain ⟨x, rfl, hw⟩ := good_int hu h
  obtain ⟨a, rfl, ha⟩ := wf_nat hw rfl
  exact ⟨a, rfl, ha⟩
theorem u8_open {w : World} {t : TypeId} {v : Value} (hu : Tryd.prog.underlying t = some (.int .u8)) (h : Good Tryd.prog w t v) : ∃ a : Nat, v = .int .u8 a ∧ a < 256 := by
  obtain ⟨x, rfl, hw⟩ := good_int hu h
  obtain ⟨a, rfl, ha⟩ := wf_nat hw rfl
  exact ⟨a, rfl, ha⟩

set_option maxRecDepth 100000 in
theorem ep_sees {w : World} {n : Nat} {cs : List Value} (h : Sees Tryd.prog w n 34 cs) : ∃ a p : Nat, cs = [.int .u32 a, .int .u16 p] ∧ a < 4294967296 ∧ p < 65536 := by
  have c1 : Tryd.prog.cellsOf 34 = 2 := by kernel_rfl
  have c2 : Tryd.prog.cellsOf 24 = 1 := by kernel_rfl
  have c3 : Tryd.prog.cellsOf 32 = 1 := by kernel_rfl
  obtain ⟨hl, m, hs⟩ := sees_struct Tryd.underlying34 h
  rw [c1] at hl
  match cs, hl with
  | [x0, x1], _ =>
    simp only [List.forall_mem_cons, c2, c3, List.drop_zero, List.drop_succ_cons, List.take_succ_cons, List.take_zero, List.take_nil] at hs
    obtain ⟨h0, h1, _⟩ := hs
    obtain ⟨a, e0, w0⟩ := u32_sees Tryd.underlying24 h0
    obtain ⟨p, e1, w1⟩ := u16_sees Tryd.underlying32 h1
    simp at e0 e1
    exact ⟨a, p, by rw [e0, e1], w0, w1⟩
theorem ep_open {w : World} {v : Value} (h : Good Tryd.prog w 34 v) : ∃ a p : Nat, v = .agg #[.int .u32 a, .int .u16 p] ∧ a < 4294967296 ∧ p < 65536 := by
  obtain ⟨cs, n, rfl, hs⟩ := good_struct Tryd.underlying34 h
  obtain ⟨a, p, e, r⟩ := ep_sees hs
  refine ⟨a, p, ?_, r⟩
  cases cs
  simp at e
  rw [e]
set_option maxRecDepth 100000 in
theorem pf_sees {w : World} {n : Nat} {cs : List Value} (h : Sees Tryd.prog w n 29 cs) : ∃ (a : Nat) (b : Int), cs = [.int .u32 a, .int .i64 b] ∧ a < 4294967296 := by
  have c1 : Tryd.prog.cellsOf 29 = 2 := by kernel_rfl
  have c2 : Tryd.prog.cellsOf 24 = 1 := by kernel_rfl
  have c3 : Tryd.prog.cellsOf 3 = 1 := by kernel_rfl
  obtain ⟨hl, m, hs⟩ := sees_struct Tryd.underlying29 h
  rw [c1] at hl
  match cs, hl with
  | [x0, x1], _ =>
    simp only [List.forall_mem_cons, c2, c3, List.drop_zero, List.drop_succ_cons, List.take_succ_cons, List.take_zero, List.take_nil] at hs
    obtain ⟨h0, h1, _⟩ := hs
    obtain ⟨a, e0, w0⟩ := u32_sees Tryd.underlying24 h0
    obtain ⟨p, e1, w1⟩ := sees_int Tryd.underlying3 h1
    simp at e0 e1
    exact ⟨a, p, by rw [e0, e1], w0⟩
theorem pf_open {w : World} {v : Value} (h : Good Tryd.prog w 29 v) : ∃ (a : Nat) (b : Int), v = .agg #[.int .u32 a, .int .i64 b] ∧ a < 4294967296 := by
  obtain ⟨cs, n, rfl, hs⟩ := good_struct Tryd.underlying29 h
  obtain ⟨a, p, e, r⟩ := pf_sees hs
  refine ⟨a, p, ?_, r⟩
  cases cs
  simp at e
  rw [e]
set_option maxRecDepth 100000 in
theorem two_open {w : World} {v : Value} (h : Good Tryd.prog w 38 v) : ∃ a b : Nat, v = .agg #[.int .u8 a, .int .u8 b] ∧ a < 256 ∧ b < 256 := by
  have c1 : Tryd.prog.cellsOf 38 = 2 := by kernel_rfl
  have c2 : Tryd.prog.cellsOf 5 = 1 := by kernel_rfl
  obtain ⟨⟨n, hs⟩, hv⟩ := h
  simp only [Tryd.underlying38] at hv
  obtain ⟨cs, rfl⟩ := hv
  obtain ⟨hl, q, hs⟩ := sees_array Tryd.underlying38 hs
  rw [c1] at hl
  obtain ⟨cs⟩ := cs
  match cs, hl with
  | [x0, x1], _ =>
    have h0 := hs 0 (by omega)
    have h1 := hs 1 (by omega)
    simp only [c2, Value.cells, Nat.zero_mul, Nat.one_mul, List.drop_zero, List.drop_succ_cons, List.take_succ_cons, List.take_zero, List.take_nil] at h0 h1
    obtain ⟨a, e0, w0⟩ := u8_sees Tryd.underlying5 h0
    obtain ⟨b, e1, w1⟩ := u8_sees Tryd.underlying5 h1
    simp at e0 e1
    exact ⟨a, b, by rw [e0, e1], w0, w1⟩
end Go.Proofs.YtgfmeincfeelmaaDoor
