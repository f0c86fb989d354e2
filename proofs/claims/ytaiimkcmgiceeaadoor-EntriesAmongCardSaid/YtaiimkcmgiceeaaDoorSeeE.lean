/- What a reading tells of entries. -/
import Derived.Test.YtaiimkcmgiceeaaDoorSees
import Derived.Test.YtaiimkcmgiceeaaDoorRows
import Derived.Test.YtaiimkcmgiceeaaDoorEnL
namespace Go.Proofs.YtaiimkcmgiceeaaDoor
set_option linter.unusedVariables false
set_option linter.unusedSimpArgs false
open Go.RowKit

theorem wf_nat {k : IntKind} {x : Int} (h : (Lit.int k x).wf = true) (hs : k.signed = false) : ∃ n : Nat, x = n ∧ n < 2 ^ k.bits := by
  simp only [Lit.wf, IntKind.has, IntKind.min, IntKind.max, hs, decide_eq_true_eq] at h
  have h1 : 0 ≤ x ∧ x ≤ 2 ^ k.bits - 1 := by simpa using h
  refine ⟨x.toNat, by omega, ?_⟩
  have h2 : x < 2 ^ k.bits := by omega
  have h3 : (x.toNat : Int) = x := Int.toNat_of_nonneg h1.1
  have h4 : ((2 ^ k.bits : Nat) : Int) = (2 : Int) ^ k.bits := by simp
  omega
theorem wf_i64 {x : Int} (h : (Lit.int .i64 x).wf = true) : -9223372036854775808 ≤ x ∧ x ≤ 9223372036854775807 := by
  simpa [Lit.wf, IntKind.has, IntKind.min, IntKind.max, IntKind.signed, IntKind.bits] using h
theorem u32_sees {P : Program} {w : World} {n : Nat} {t : TypeId} {cs : List Value} (hu : P.underlying t = some (.int .u32)) (h : Sees P w n t cs) : ∃ a : Nat, cs = [.int .u32 a] ∧ a < 4294967296 := by
  obtain ⟨x, e, hw⟩ := sees_int hu h
  obtain ⟨a, rfl, ha⟩ := wf_nat hw rfl
  exact ⟨a, e, ha⟩
theorem u16_sees {P : Program} {w : World} {n : Nat} {t : TypeId} {cs : List Value} (hu : P.underlying t = some (.int .u16)) (h : Sees P w n t cs) : ∃ a : Nat, cs = [.int .u16 a] ∧ a < 65536 := by
  obtain ⟨x, e, hw⟩ := sees_int hu h
  obtain ⟨a, rfl, ha⟩ := wf_nat hw rfl
  exact ⟨a, e, ha⟩
theorem u8_sees {P : Program} {w : World} {n : Nat} {t : TypeId} {cs : List Value} (hu : P.underlying t = some (.int .u8)) (h : Sees P w n t cs) : ∃ a : Nat, cs = [.int .u8 a] ∧ a < 256 := by
  obtain ⟨x, e, hw⟩ := sees_int hu h
  obtain ⟨a, rfl, ha⟩ := wf_nat hw rfl
  exact ⟨a, e, ha⟩

set_option maxRecDepth 100000 in
theorem ep_sees {w : World} {n : Nat} {cs : List Value} (h : Sees Tryd.prog w n 27 cs) : ∃ a p : Nat, cs = [.int .u32 a, .int .u16 p] ∧ a < 4294967296 ∧ p < 65536 := by
  have c1 : Tryd.prog.cellsOf 27 = 2 := by kernel_rfl
  have c2 : Tryd.prog.cellsOf 24 = 1 := by kernel_rfl
  have c3 : Tryd.prog.cellsOf 25 = 1 := by kernel_rfl
  obtain ⟨hl, m, hs⟩ := sees_struct Tryd.underlying27 h
  rw [c1] at hl
  match cs, hl with
  | [x0, x1], _ =>
    simp only [List.forall_mem_cons, c2, c3, List.drop_zero, List.drop_succ_cons, List.take_succ_cons, List.take_zero, List.take_nil] at hs
    obtain ⟨h0, h1, _⟩ := hs
    obtain ⟨a, e0, w0⟩ := u32_sees Tryd.underlying24 h0
    obtain ⟨p, e1, w1⟩ := u16_sees Tryd.underlying25 h1
    simp at e0 e1
    exact ⟨a, p, by rw [e0, e1], w0, w1⟩
set_option maxRecDepth 100000 in
theorem tup_sees {w : World} {n : Nat} {cs : List Value} (h : Sees Tryd.prog w n 29 cs) : ∃ k a p b q : Nat, cs = [.int .u8 k, .int .u32 a, .int .u16 p, .int .u32 b, .int .u16 q] ∧ k < 256 ∧ a < 4294967296 ∧ p < 65536 ∧ b < 4294967296 ∧ q < 65536 := by
  have c1 : Tryd.prog.cellsOf 29 = 5 := by kernel_rfl
  have c2 : Tryd.prog.cellsOf 27 = 2 := by kernel_rfl
  have c3 : Tryd.prog.cellsOf 5 = 1 := by kernel_rfl
  obtain ⟨hl, m, hs⟩ := sees_struct Tryd.underlying29 h
  rw [c1] at hl
  match cs, hl with
  | [x0, x1, x2, x3, x4], _ =>
    simp only [List.forall_mem_cons, c2, c3, List.drop_zero, List.drop_succ_cons, List.take_succ_cons, List.take_zero, List.take_nil] at hs
    obtain ⟨h0, h1, h2, _⟩ := hs
    obtain ⟨k, e0, w0⟩ := u8_sees Tryd.underlying5 h0
    obtain ⟨a, p, e1, w1, w2⟩ := ep_sees h1
    obtain ⟨b, q, e2, w3, w4⟩ := ep_sees h2
    simp at e0 e1 e2
    exact ⟨k, a, p, b, q, by rw [e0, e1.1, e1.2, e2.1, e2.2], w0, w1, w2, w3, w4⟩
set_option maxRecDepth 100000 in
theorem hold_sees {w : World} {n : Nat} {cs : List Value} (h : Sees Tryd.prog w n 49 cs) : ∃ a p b q : Nat, cs = [.int .u32 a, .int .u16 p, .int .u32 b, .int .u16 q] ∧ a < 4294967296 ∧ p < 65536 ∧ b < 4294967296 ∧ q < 65536 := by
  have c1 : Tryd.prog.cellsOf 49 = 4 := by kernel_rfl
  have c2 : Tryd.prog.cellsOf 27 = 2 := by kernel_rfl
  obtain ⟨hl, m, hs⟩ := sees_struct Tryd.underlying49 h
  rw [c1] at hl
  match cs, hl with
  | [x1, x2, x3, x4], _ =>
    simp only [List.forall_mem_cons, c2, List.drop_zero, List.drop_succ_cons, List.take_succ_cons, List.take_zero, List.take_nil] at hs
    obtain ⟨h1, h2, _⟩ := hs
    obtain ⟨a, p, e1, w1, w2⟩ := ep_sees h1
    obtain ⟨b, q, e2, w3, w4⟩ := ep_sees h2
    simp at e1 e2
    exact ⟨a, p, b, q, by rw [e1.1, e1.2, e2.1, e2.2], w1, w2, w3, w4⟩

/-- A slice among cells, its elements of 'size' cells each. -/
theorem sees_rows {P : Program} {w : World} {t e : TypeId} {cs : List Value} {size k : Nat} (hu : P.underlying t = some (.slice e)) (hc : P.cellsOf e = size) (hs : 0 < size) (h : Sees P w k t cs) :
    ∃ a len cap, cs = [.slice a len cap] ∧ len ≤ cap ∧ cap ≤ maxLen ∧ ∃ (m : Nat) (rows : Nat → List Value), (∀ i, i < cap → (rows i).length = size ∧ Sees P w m e (rows i)) ∧
      (0 < cap → ∃ b o, a = some ⟨b, o, none⟩ ∧ ∀ i, i < cap → ∀ j, j < size → w.cell? ⟨b, o + i * size + j, none⟩ = (rows i)[j]?) := by
  rcases sees_slice hu h with rfl | ⟨m, a, len, cap, rfl, h1, h2, h3⟩
  · exact ⟨none, 0, 0, rfl, Nat.le_refl _, Nat.zero_le _, 0, fun _ => [], fun i hi => by omega, fun h => by omega⟩
  · rw [hc] at h3
    have key : ∀ i, ∃ ds, i < cap → w.cells? 0 (a.add (i * size)) size = some ds ∧ Sees P w m e ds := fun i => by
      by_cases hi : i < cap
      · obtain ⟨ds, hd⟩ := h3 i hi; exact ⟨ds, fun _ => hd⟩
      · exact ⟨[], fun h => absurd h hi⟩
    obtain ⟨rows, hrows⟩ : ∃ rows : Nat → List Value, ∀ i, i < cap → w.cells? 0 (a.add (i * size)) size = some (rows i) ∧ Sees P w m e (rows i) := ⟨fun i => Classical.choose (key i), fun i hi => Classical.choose_spec (key i) hi⟩
    clear key h3
    refine ⟨some a, len, cap, rfl, h1, h2, m, rows, fun i hi => ?_, fun hpos => ?_⟩
    · obtain ⟨k1, k2⟩ := hrows i hi
      refine ⟨?_, k2⟩
      unfold World.cells? at k1
      rw [if_pos (Nat.zero_le _)] at k1
      have := (mapM_get k1).1
      simpa using this
    · have hsp : a.spot = none := by
        obtain ⟨k1, _⟩ := hrows 0 hpos
        unfold World.cells? at k1
        rw [if_pos (Nat.zero_le _)] at k1
        have hk := mapM_get k1
        have h0 := hk.2 0 0 (by simp [hs])
        rw [List.getElem?_eq_getElem (by rw [hk.1]; simpa using hs)] at h0
        have e : (a.add 0).add 0 = a := by simp [Addr.add]
        have h0' := World.cell?_spot h0
        simp only [Nat.zero_mul] at h0'
        rw [e] at h0'
        exact h0'
      obtain ⟨b, o, sp⟩ := a
      obtain rfl : sp = none := hsp
      refine ⟨b, o, rfl, fun i hi j hj => ?_⟩
      obtain ⟨k1, _⟩ := hrows i hi
      unfold World.cells? at k1
      rw [if_pos (Nat.zero_le _)] at k1
      have := (mapM_get k1).2 j j (by simp [hj])
      rw [add_eq, add_eq] at this
      exact this

/-- Holds as cells. -/
def holdV (oa op ia ip : Nat → Nat) (i : Nat) : List Value := [.int .u32 (oa i), .int .u16 (op i), .int .u32 (ia i), .int .u16 (ip i)]
def holdsV (oa op ia ip : Nat → Nat) (n : Nat) : List Value := (List.range n).flatMap (holdV oa op ia ip)
theorem holdsV_succ (oa op ia ip : Nat → Nat) (n : Nat) : holdsV oa op ia ip (n + 1) = holdsV oa op ia ip n ++ holdV oa op ia ip n := by simp [holdsV, List.range_succ]
theorem holdsV_len (oa op ia ip : Nat → Nat) : ∀ n, (holdsV oa op ia ip n).length = n * 4
  | 0 => rfl
  | n + 1 => by
    rw [holdsV_succ, List.length_append, holdsV_len oa op ia ip n]
    simp [holdV]; omega
theorem holdsV_get (oa op ia ip : Nat → Nat) : ∀ n i j, i < n → j < 4 → (holdsV oa op ia ip n)[i * 4 + j]? = (holdV oa op ia ip i)[j]?
  | 0, i, j, h, _ => by omega
  | n + 1, i, j, h, hj => by
    have hl := holdsV_len oa op ia ip n
    have ih := holdsV_get oa op ia ip n i j
    have e : holdsV oa op ia ip (n + 1) = holdsV oa op ia ip n ++ holdV oa op ia ip n := by simp [holdsV, List.range_succ]
    rw [e]
    by_cases h2 : i < n
    · rw [List.getElem?_append_left (by rw [hl]; omega)]
      exact ih h2 hj
    · obtain rfl : i = n := by omega
      rw [List.getElem?_append_right (by rw [hl]; omega), hl]
      congr 1; omega
/-- The holds of an entry: at most so many, and what they are. -/
structure HoldsOk (w : World) (ad : Option Addr) (n c : Nat) (oa op ia ip : Nat → Nat) : Prop where
  nc : n ≤ c
  cm : c ≤ maxLen
  fit : ∀ i, i < n → oa i < 4294967296 ∧ op i < 65536 ∧ ia i < 4294967296 ∧ ip i < 65536
  at' : 0 < n → ∃ hb ho, ad = some ⟨hb, ho, none⟩ ∧ Holds w hb ho n (holdsV oa op ia ip n)
theorem HoldsOk.low {w w' : World} {ad : Option Addr} {n c : Nat} {oa op ia ip : Nat → Nat} (h : HoldsOk w ad n c oa op ia ip) (hf : NoW w w') : HoldsOk w' ad n c oa op ia ip :=
  ⟨h.nc, h.cm, h.fit, fun hn => by obtain ⟨hb, ho, e, hh⟩ := h.at' hn; exact ⟨hb, ho, e, hh.low hf⟩⟩

set_option maxRecDepth 100000 in
theorem ent_sees {w : World} {n : Nat} {cs : List Value} (h : Sees Tryd.prog w n 32 cs) : ∃ (r a p b q r2 a2 p2 b2 q2 : Nat) (st dl : Int) (ad : Option Addr) (m c : Nat) (oa op ia ip : Nat → Nat), cs = [.int .u8 r, .int .u32 a, .int .u16 p, .int .u32 b, .int .u16 q, .int .u8 r2, .int .u32 a2, .int .u16 p2, .int .u32 b2, .int .u16 q2, .int .i64 st, .int .i64 dl, .slice ad m c] ∧
    (r < 256 ∧ a < 4294967296 ∧ p < 65536 ∧ b < 4294967296 ∧ q < 65536) ∧ (r2 < 256 ∧ a2 < 4294967296 ∧ p2 < 65536 ∧ b2 < 4294967296 ∧ q2 < 65536) ∧ (-9223372036854775808 ≤ st ∧ st ≤ 9223372036854775807) ∧ (-9223372036854775808 ≤ dl ∧ dl ≤ 9223372036854775807) ∧ HoldsOk w ad m c oa op ia ip := by
  have c1 : Tryd.prog.cellsOf 32 = 13 := by kernel_rfl
  have c2 : Tryd.prog.cellsOf 29 = 5 := by kernel_rfl
  have c3 : Tryd.prog.cellsOf 3 = 1 := by kernel_rfl
  have c4 : Tryd.prog.cellsOf 30 = 1 := by kernel_rfl
  have c5 : Tryd.prog.cellsOf 49 = 4 := by kernel_rfl
  obtain ⟨hl, m, hs⟩ := sees_struct Tryd.underlying32 h
  rw [c1] at hl
  match cs, hl with
  | [x0, x1, x2, x3, x4, x5, x6, x7, x8, x9, x10, x11, x12], _ =>
    simp only [List.forall_mem_cons, c2, c3, c4, List.drop_zero, List.drop_succ_cons, List.take_succ_cons, List.take_zero, List.take_nil] at hs
    obtain ⟨h0, h1, h2, h3, h4, _⟩ := hs
    obtain ⟨r, a, p, b, q, e0, w0⟩ := tup_sees h0
    obtain ⟨r2, a2, p2, b2, q2, e1, w1⟩ := tup_sees h1
    obtain ⟨st, e2, w2⟩ := sees_int Tryd.underlying3 h2
    obtain ⟨dl, e3, w3⟩ := sees_int Tryd.underlying3 h3
    obtain ⟨ad, n, c, e4, hnc, hcm, m2, rows, hr, hat⟩ := sees_rows Tryd.underlying30 c5 (by omega) h4
    simp at e0 e1 e2 e3 e4
    have key : ∀ i, ∃ z : Nat × Nat × Nat × Nat, i < c → rows i = [.int .u32 z.1, .int .u16 z.2.1, .int .u32 z.2.2.1, .int .u16 z.2.2.2] ∧ z.1 < 4294967296 ∧ z.2.1 < 65536 ∧ z.2.2.1 < 4294967296 ∧ z.2.2.2 < 65536 := fun i => by
      by_cases hi : i < c
      · obtain ⟨a, p, b, q, e, r⟩ := hold_sees (hr i hi).2
        exact ⟨(a, p, b, q), fun _ => ⟨e, r⟩⟩
      · exact ⟨(0, 0, 0, 0), fun h => absurd h hi⟩
    obtain ⟨z, hz⟩ : ∃ z : Nat → Nat × Nat × Nat × Nat, ∀ i, i < c → rows i = [.int .u32 (z i).1, .int .u16 (z i).2.1, .int .u32 (z i).2.2.1, .int .u16 (z i).2.2.2] ∧ (z i).1 < 4294967296 ∧ (z i).2.1 < 65536 ∧ (z i).2.2.1 < 4294967296 ∧ (z i).2.2.2 < 65536 := ⟨fun i => Classical.choose (key i), fun i hi => Classical.choose_spec (key i) hi⟩
    refine ⟨r, a, p, b, q, r2, a2, p2, b2, q2, st, dl, ad, n, c, fun i => (z i).1, fun i => (z i).2.1, fun i => (z i).2.2.1, fun i => (z i).2.2.2, by simp [e0, e1, e2, e3, e4], w0, w1, wf_i64 w2, wf_i64 w3, hnc, hcm, fun i hi => (hz i (by omega)).2, fun hn => ?_⟩
    obtain ⟨hb, ho, e, hcell⟩ := hat (by omega)
    have hcell2 : ∀ i, i < n → ∀ j, j < 4 → w.cell? ⟨hb, ho + (i * 4 + j), none⟩ = (holdV (fun i => (z i).1) (fun i => (z i).2.1) (fun i => (z i).2.2.1) (fun i => (z i).2.2.2) i)[j]? := fun i hi j hj => by
      have := hcell i (by omega) j hj
      rw [(hz i (by omega)).1, Nat.add_assoc] at this
      exact this
    refine ⟨hb, ho, e, holdsV_len _ _ _ _ _, fun j x hj => ?_, fun x hx => ?_, ?_⟩
    · have hjl := (List.getElem?_eq_some_iff.1 hj).1
      rw [holdsV_len] at hjl
      have e : j = j / 4 * 4 + j % 4 := by omega
      rw [e] at hj ⊢
      rw [holdsV_get _ _ _ _ _ _ _ (by omega) (by omega)] at hj
      rw [hcell2 _ (by omega) _ (by omega)]
      exact hj
    · simp only [holdsV, List.mem_flatMap, holdV, List.mem_cons, List.not_mem_nil, or_false] at hx
      obtain ⟨i, _, (rfl | rfl | rfl | rfl)⟩ := hx <;> rfl
    · have := hcell2 0 (by omega) 0 (by omega)
      simp only [holdV, List.getElem?_cons_zero] at this
      exact cell_lt this
theorem ent_open {w : World} {v : Value} (h : Good Tryd.prog w 32 v) : ∃ (r a p b q r2 a2 p2 b2 q2 : Nat) (st dl : Int) (ad : Option Addr) (m c : Nat) (oa op ia ip : Nat → Nat), v = .agg #[.int .u8 r, .int .u32 a, .int .u16 p, .int .u32 b, .int .u16 q, .int .u8 r2, .int .u32 a2, .int .u16 p2, .int .u32 b2, .int .u16 q2, .int .i64 st, .int .i64 dl, .slice ad m c] ∧
    (r < 256 ∧ a < 4294967296 ∧ p < 65536 ∧ b < 4294967296 ∧ q < 65536) ∧ (r2 < 256 ∧ a2 < 4294967296 ∧ p2 < 65536 ∧ b2 < 4294967296 ∧ q2 < 65536) ∧ (-9223372036854775808 ≤ st ∧ st ≤ 9223372036854775807) ∧ (-9223372036854775808 ≤ dl ∧ dl ≤ 9223372036854775807) ∧ HoldsOk w ad m c oa op ia ip := by
  obtain ⟨cs, n, rfl, hs⟩ := good_struct Tryd.underlying32 h
  obtain ⟨r, a, p, b, q, r2, a2, p2, b2, q2, st, dl, ad, m, c, oa, op, ia, ip, e, rest⟩ := ent_sees hs
  refine ⟨r, a, p, b, q, r2, a2, p2, b2, q2, st, dl, ad, m, c, oa, op, ia, ip, ?_, rest⟩
  cases cs
  simp at e
  rw [e]
end Go.Proofs.YtaiimkcmgiceeaaDoor
