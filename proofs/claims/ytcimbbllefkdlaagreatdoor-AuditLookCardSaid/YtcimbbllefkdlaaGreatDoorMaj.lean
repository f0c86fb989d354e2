/- Texts of this proof, merged: EtD EtE SeeE EtH EtI EtK AuA AuB. -/
import Derived.Test.YtcimbbllefkdlaaGreatDoorMah
import Derived.Test.YtcimbbllefkdlaaGreatDoorMag
import Derived.Test.YtcimbbllefkdlaaGreatDoorMai
import Derived.Test.YtcimbbllefkdlaaGreatDoorRows
import Derived.Test.YtcimbbllefkdlaaGreatDoorMad
import Derived.Test.YtcimbbllefkdlaaGreatDoorMaa
import Derived.Test.YtcimbbllefkdlaaGreatDoorMab
import Derived.Test.YtcimbbllefkdlaaGreatDoorMac
import Derived.Test.YtcimbbllefkdlaaGreatDoorMae
import Derived.Test.YtcimbbllefkdlaaGreatDoorMaf
namespace Go.Proofs.YtcimbbllefkdlaaGreatDoor
set_option linter.unusedVariables false
set_option linter.unusedSimpArgs false
open Go.RowKit Go.Lib Go.Sort

end Go.Proofs.YtcimbbllefkdlaaGreatDoor

namespace Go.Proofs.YtcimbbllefkdlaaGreatDoor
set_option linter.unusedVariables false
set_option linter.unusedSimpArgs false
open Go.RowKit Go.Lib Go.Sort
end Go.Proofs.YtcimbbllefkdlaaGreatDoor

namespace Go.Proofs.YtcimbbllefkdlaaGreatDoor
set_option linter.unusedVariables false
set_option linter.unusedSimpArgs false
open Go.RowKit

theorem wf_nat {k : IntKind} {x : Int} (h : (Lit.int k x).wf = true) (hs : k.signed = false) : ∃ n : Nat, x = n ∧ n < 2 ^ k.bits := by
  simp only [Lit.wf, IntKind.has, IntKind.min, IntKind.max, hs, decide_eq_true_eq] at h
  have h1 : 0 ≤ x ∧ x ≤ 2 ^ k.bits - 1 := by simpa using h
  refine ⟨x.toNat, by omega, ?_⟩
  have h2 : x < 2 ^ k.bits := by omega
  have h3 : (x.toNat : Int) = x := Int.toNat_of_nonneg h1.1
  have h4 : ((2 ^ k.bits : Nat) : Int) = (2 : Int) ^ k.bits := by simp
  omega
theorem wf_i64 {x : Int} (h : (Lit.int .i64 x).wf = true) : -9223372036854775808 ≤ x ∧ x ≤ 9223372036854775807 := by
  simpa [Lit.wf, IntKind.has, IntKind.min, IntKind.max, IntKind.signed, IntKind.bits] using h
theorem u32_sees {P : Program} {w : World} {n : Nat} {t : TypeId} {cs : List Value} (hu : P.underlying t = some (.int .u32)) (h : Sees P w n t cs) : ∃ a : Nat, cs = [.int .u32 a] ∧ a < 4294967296 := by
  obtain ⟨x, e, hw⟩ := sees_int hu h
  obtain ⟨a, rfl, ha⟩ := wf_nat hw rfl
  exact ⟨a, e, ha⟩
theorem u16_sees {P : Program} {w : World} {n : Nat} {t : TypeId} {cs : List Value} (hu : P.underlying t = some (.int .u16)) (h : Sees P w n t cs) : ∃ a : Nat, cs = [.int .u16 a] ∧ a < 65536 := by
  obtain ⟨x, e, hw⟩ := sees_int hu h
  obtain ⟨a, rfl, ha⟩ := wf_nat hw rfl
  exact ⟨a, e, ha⟩
theorem u8_sees {P : Program} {w : World} {n : Nat} {t : TypeId} {cs : List Value} (hu : P.underlying t = some (.int .u8)) (h : Sees P w n t cs) : ∃ a : Nat, cs = [.int .u8 a] ∧ a < 256 := by
  obtain ⟨x, e, hw⟩ := sees_int hu h
  obtain ⟨a, rfl, ha⟩ := wf_nat hw rfl
  exact ⟨a, e, ha⟩

set_option maxRecDepth 100000 in
theorem ep_sees {w : World} {n : Nat} {cs : List Value} (h : Sees Tryz.prog w n 47 cs) : ∃ a p : Nat, cs = [.int .u32 a, .int .u16 p] ∧ a < 4294967296 ∧ p < 65536 := by
  have c1 : Tryz.prog.cellsOf 47 = 2 := by kernel_rfl
  have c2 : Tryz.prog.cellsOf 44 = 1 := by kernel_rfl
  have c3 : Tryz.prog.cellsOf 45 = 1 := by kernel_rfl
  obtain ⟨hl, m, hs⟩ := sees_struct Tryz.underlying47 h
  rw [c1] at hl
  match cs, hl with
  | [x0, x1], _ =>
    simp only [List.forall_mem_cons, c2, c3, List.drop_zero, List.drop_succ_cons, List.take_succ_cons, List.take_zero, List.take_nil] at hs
    obtain ⟨h0, h1, _⟩ := hs
    obtain ⟨a, e0, w0⟩ := u32_sees Tryz.underlying44 h0
    obtain ⟨p, e1, w1⟩ := u16_sees Tryz.underlying45 h1
    simp at e0 e1
    exact ⟨a, p, by rw [e0, e1], w0, w1⟩
set_option maxRecDepth 100000 in
theorem tup_sees {w : World} {n : Nat} {cs : List Value} (h : Sees Tryz.prog w n 49 cs) : ∃ k a p b q : Nat, cs = [.int .u8 k, .int .u32 a, .int .u16 p, .int .u32 b, .int .u16 q] ∧ k < 256 ∧ a < 4294967296 ∧ p < 65536 ∧ b < 4294967296 ∧ q < 65536 := by
  have c1 : Tryz.prog.cellsOf 49 = 5 := by kernel_rfl
  have c2 : Tryz.prog.cellsOf 47 = 2 := by kernel_rfl
  have c3 : Tryz.prog.cellsOf 5 = 1 := by kernel_rfl
  obtain ⟨hl, m, hs⟩ := sees_struct Tryz.underlying49 h
  rw [c1] at hl
  match cs, hl with
  | [x0, x1, x2, x3, x4], _ =>
    simp only [List.forall_mem_cons, c2, c3, List.drop_zero, List.drop_succ_cons, List.take_succ_cons, List.take_zero, List.take_nil] at hs
    obtain ⟨h0, h1, h2, _⟩ := hs
    obtain ⟨k, e0, w0⟩ := u8_sees Tryz.underlying5 h0
    obtain ⟨a, p, e1, w1, w2⟩ := ep_sees h1
    obtain ⟨b, q, e2, w3, w4⟩ := ep_sees h2
    simp at e0 e1 e2
    exact ⟨k, a, p, b, q, by rw [e0, e1.1, e1.2, e2.1, e2.2], w0, w1, w2, w3, w4⟩
set_option maxRecDepth 100000 in
theorem hold_sees {w : World} {n : Nat} {cs : List Value} (h : Sees Tryz.prog w n 87 cs) : ∃ a p b q : Nat, cs = [.int .u32 a, .int .u16 p, .int .u32 b, .int .u16 q] ∧ a < 4294967296 ∧ p < 65536 ∧ b < 4294967296 ∧ q < 65536 := by
  have c1 : Tryz.prog.cellsOf 87 = 4 := by kernel_rfl
  have c2 : Tryz.prog.cellsOf 47 = 2 := by kernel_rfl
  obtain ⟨hl, m, hs⟩ := sees_struct Tryz.underlying87 h
  rw [c1] at hl
  match cs, hl with
  | [x1, x2, x3, x4], _ =>
    simp only [List.forall_mem_cons, c2, List.drop_zero, List.drop_succ_cons, List.take_succ_cons, List.take_zero, List.take_nil] at hs
    obtain ⟨h1, h2, _⟩ := hs
    obtain ⟨a, p, e1, w1, w2⟩ := ep_sees h1
    obtain ⟨b, q, e2, w3, w4⟩ := ep_sees h2
    simp at e1 e2
    exact ⟨a, p, b, q, by rw [e1.1, e1.2, e2.1, e2.2], w1, w2, w3, w4⟩

/-- A slice among cells, its elements of 'size' cells each. -/
theorem sees_rows {P : Program} {w : World} {t e : TypeId} {cs : List Value} {size k : Nat} (hu : P.underlying t = some (.slice e)) (hc : P.cellsOf e = size) (hs : 0 < size) (h : Sees P w k t cs) :
    ∃ a len cap, cs = [.slice a len cap] ∧ len ≤ cap ∧ cap ≤ maxLen ∧ ∃ (m : Nat) (rows : Nat → List Value), (∀ i, i < cap → (rows i).length = size ∧ Sees P w m e (rows i)) ∧
      (0 < cap → ∃ b o, a = some ⟨b, o, none⟩ ∧ ∀ i, i < cap → ∀ j, j < size → w.cell? ⟨b, o + i * size + j, none⟩ = (rows i)[j]?) := by
  rcases sees_slice hu h with rfl | ⟨m, a, len, cap, rfl, h1, h2, h3⟩
  · exact ⟨none, 0, 0, rfl, Nat.le_refl _, Nat.zero_le _, 0, fun _ => [], fun i hi => by omega, fun h => by omega⟩
  · rw [hc] at h3
    have key : ∀ i, ∃ ds, i < cap → w.cells? 0 (a.add (i * size)) size = some ds ∧ Sees P w m e ds := fun i => by
      by_cases hi : i < cap
      · obtain ⟨ds, hd⟩ := h3 i hi; exact ⟨ds, fun _ => hd⟩
      · exact ⟨[], fun h => absurd h hi⟩
    obtain ⟨rows, hrows⟩ : ∃ rows : Nat → List Value, ∀ i, i < cap → w.cells? 0 (a.add (i * size)) size = some (rows i) ∧ Sees P w m e (rows i) := ⟨fun i => Classical.choose (key i), fun i hi => Classical.choose_spec (key i) hi⟩
    clear key h3
    refine ⟨some a, len, cap, rfl, h1, h2, m, rows, fun i hi => ?_, fun hpos => ?_⟩
    · obtain ⟨k1, k2⟩ := hrows i hi
      refine ⟨?_, k2⟩
      unfold World.cells? at k1
      rw [if_pos (Nat.zero_le _)] at k1
      have := (mapM_get k1).1
      simpa using this
    · have hsp : a.spot = none := by
        obtain ⟨k1, _⟩ := hrows 0 hpos
        unfold World.cells? at k1
        rw [if_pos (Nat.zero_le _)] at k1
        have hk := mapM_get k1
        have h0 := hk.2 0 0 (by simp [hs])
        rw [List.getElem?_eq_getElem (by rw [hk.1]; simpa using hs)] at h0
        have e : (a.add 0).add 0 = a := by simp [Addr.add]
        have h0' := World.cell?_spot h0
        simp only [Nat.zero_mul] at h0'
        rw [e] at h0'
        exact h0'
      obtain ⟨b, o, sp⟩ := a
      obtain rfl : sp = none := hsp
      refine ⟨b, o, rfl, fun i hi j hj => ?_⟩
      obtain ⟨k1, _⟩ := hrows i hi
      unfold World.cells? at k1
      rw [if_pos (Nat.zero_le _)] at k1
      have := (mapM_get k1).2 j j (by simp [hj])
      rw [add_eq, add_eq] at this
      exact this

/-- Holds as cells. -/
def holdV (oa op ia ip : Nat → Nat) (i : Nat) : List Value := [.int .u32 (oa i), .int .u16 (op i), .int .u32 (ia i), .int .u16 (ip i)]
def holdsV (oa op ia ip : Nat → Nat) (n : Nat) : List Value := (List.range n).flatMap (holdV oa op ia ip)
theorem holdsV_succ (oa op ia ip : Nat → Nat) (n : Nat) : holdsV oa op ia ip (n + 1) = holdsV oa op ia ip n ++ holdV oa op ia ip n := by simp [holdsV, List.range_succ]
theorem holdsV_len (oa op ia ip : Nat → Nat) : ∀ n, (holdsV oa op ia ip n).length = n * 4
  | 0 => rfl
  | n + 1 => by
    rw [holdsV_succ, List.length_append, holdsV_len oa op ia ip n]
    simp [holdV]; omega
theorem holdsV_get (oa op ia ip : Nat → Nat) : ∀ n i j, i < n → j < 4 → (holdsV oa op ia ip n)[i * 4 + j]? = (holdV oa op ia ip i)[j]?
  | 0, i, j, h, _ => by omega
  | n + 1, i, j, h, hj => by
    have hl := holdsV_len oa op ia ip n
    have ih := holdsV_get oa op ia ip n i j
    have e : holdsV oa op ia ip (n + 1) = holdsV oa op ia ip n ++ holdV oa op ia ip n := by simp [holdsV, List.range_succ]
    rw [e]
    by_cases h2 : i < n
    · rw [List.getElem?_append_left (by rw [hl]; omega)]
      exact ih h2 hj
    · obtain rfl : i = n := by omega
      rw [List.getElem?_append_right (by rw [hl]; omega), hl]
      congr 1; omega
/-- The holds of an entry: at most so many, and what they are. -/
structure HoldsOk (w : World) (ad : Option Addr) (n c : Nat) (oa op ia ip : Nat → Nat) : Prop where
  nc : n ≤ c
  cm : c ≤ maxLen
  fit : ∀ i, i < n → oa i < 4294967296 ∧ op i < 65536 ∧ ia i < 4294967296 ∧ ip i < 65536
  at' : 0 < n → ∃ hb ho, ad = some ⟨hb, ho, none⟩ ∧ Holds w hb ho n (holdsV oa op ia ip n)
theorem HoldsOk.low {w w' : World} {ad : Option Addr} {n c : Nat} {oa op ia ip : Nat → Nat} (h : HoldsOk w ad n c oa op ia ip) (hf : NoW w w') : HoldsOk w' ad n c oa op ia ip :=
  ⟨h.nc, h.cm, h.fit, fun hn => by obtain ⟨hb, ho, e, hh⟩ := h.at' hn; exact ⟨hb, ho, e, hh.low hf⟩⟩

set_option maxRecDepth 100000 in
theorem ent_sees {w : World} {n : Nat} {cs : List Value} (h : Sees Tryz.prog w n 52 cs) : ∃ (r a p b q r2 a2 p2 b2 q2 : Nat) (st dl : Int) (ad : Option Addr) (m c : Nat) (oa op ia ip : Nat → Nat), cs = [.int .u8 r, .int .u32 a, .int .u16 p, .int .u32 b, .int .u16 q, .int .u8 r2, .int .u32 a2, .int .u16 p2, .int .u32 b2, .int .u16 q2, .int .i64 st, .int .i64 dl, .slice ad m c] ∧
    (r < 256 ∧ a < 4294967296 ∧ p < 65536 ∧ b < 4294967296 ∧ q < 65536) ∧ (r2 < 256 ∧ a2 < 4294967296 ∧ p2 < 65536 ∧ b2 < 4294967296 ∧ q2 < 65536) ∧ (-9223372036854775808 ≤ st ∧ st ≤ 9223372036854775807) ∧ (-9223372036854775808 ≤ dl ∧ dl ≤ 9223372036854775807) ∧ HoldsOk w ad m c oa op ia ip := by
  have c1 : Tryz.prog.cellsOf 52 = 13 := by kernel_rfl
  have c2 : Tryz.prog.cellsOf 49 = 5 := by kernel_rfl
  have c3 : Tryz.prog.cellsOf 3 = 1 := by kernel_rfl
  have c4 : Tryz.prog.cellsOf 50 = 1 := by kernel_rfl
  have c5 : Tryz.prog.cellsOf 87 = 4 := by kernel_rfl
  obtain ⟨hl, m, hs⟩ := sees_struct Tryz.underlying52 h
  rw [c1] at hl
  match cs, hl with
  | [x0, x1, x2, x3, x4, x5, x6, x7, x8, x9, x10, x11, x12], _ =>
    simp only [List.forall_mem_cons, c2, c3, c4, List.drop_zero, List.drop_succ_cons, List.take_succ_cons, List.take_zero, List.take_nil] at hs
    obtain ⟨h0, h1, h2, h3, h4, _⟩ := hs
    obtain ⟨r, a, p, b, q, e0, w0⟩ := tup_sees h0
    obtain ⟨r2, a2, p2, b2, q2, e1, w1⟩ := tup_sees h1
    obtain ⟨st, e2, w2⟩ := sees_int Tryz.underlying3 h2
    obtain ⟨dl, e3, w3⟩ := sees_int Tryz.underlying3 h3
    obtain ⟨ad, n, c, e4, hnc, hcm, m2, rows, hr, hat⟩ := sees_rows Tryz.underlying50 c5 (by omega) h4
    simp at e0 e1 e2 e3 e4
    have key : ∀ i, ∃ z : Nat × Nat × Nat × Nat, i < c → rows i = [.int .u32 z.1, .int .u16 z.2.1, .int .u32 z.2.2.1, .int .u16 z.2.2.2] ∧ z.1 < 4294967296 ∧ z.2.1 < 65536 ∧ z.2.2.1 < 4294967296 ∧ z.2.2.2 < 65536 := fun i => by
      by_cases hi : i < c
      · obtain ⟨a, p, b, q, e, r⟩ := hold_sees (hr i hi).2
        exact ⟨(a, p, b, q), fun _ => ⟨e, r⟩⟩
      · exact ⟨(0, 0, 0, 0), fun h => absurd h hi⟩
    obtain ⟨z, hz⟩ : ∃ z : Nat → Nat × Nat × Nat × Nat, ∀ i, i < c → rows i = [.int .u32 (z i).1, .int .u16 (z i).2.1, .int .u32 (z i).2.2.1, .int .u16 (z i).2.2.2] ∧ (z i).1 < 4294967296 ∧ (z i).2.1 < 65536 ∧ (z i).2.2.1 < 4294967296 ∧ (z i).2.2.2 < 65536 := ⟨fun i => Classical.choose (key i), fun i hi => Classical.choose_spec (key i) hi⟩
    refine ⟨r, a, p, b, q, r2, a2, p2, b2, q2, st, dl, ad, n, c, fun i => (z i).1, fun i => (z i).2.1, fun i => (z i).2.2.1, fun i => (z i).2.2.2, by simp [e0, e1, e2, e3, e4], w0, w1, wf_i64 w2, wf_i64 w3, hnc, hcm, fun i hi => (hz i (by omega)).2, fun hn => ?_⟩
    obtain ⟨hb, ho, e, hcell⟩ := hat (by omega)
    have hcell2 : ∀ i, i < n → ∀ j, j < 4 → w.cell? ⟨hb, ho + (i * 4 + j), none⟩ = (holdV (fun i => (z i).1) (fun i => (z i).2.1) (fun i => (z i).2.2.1) (fun i => (z i).2.2.2) i)[j]? := fun i hi j hj => by
      have := hcell i (by omega) j hj
      rw [(hz i (by omega)).1, Nat.add_assoc] at this
      exact this
    refine ⟨hb, ho, e, holdsV_len _ _ _ _ _, fun j x hj => ?_, fun x hx => ?_, ?_⟩
    · have hjl := (List.getElem?_eq_some_iff.1 hj).1
      rw [holdsV_len] at hjl
      have e : j = j / 4 * 4 + j % 4 := by omega
      rw [e] at hj ⊢
      rw [holdsV_get _ _ _ _ _ _ _ (by omega) (by omega)] at hj
      rw [hcell2 _ (by omega) _ (by omega)]
      exact hj
    · simp only [holdsV, List.mem_flatMap, holdV, List.mem_cons, List.not_mem_nil, or_false] at hx
      obtain ⟨i, _, (rfl | rfl | rfl | rfl)⟩ := hx <;> rfl
    · have := hcell2 0 (by omega) 0 (by omega)
      simp only [holdV, List.getElem?_cons_zero] at this
      exact cell_lt this
end Go.Proofs.YtcimbbllefkdlaaGreatDoor

namespace Go.Proofs.YtcimbbllefkdlaaGreatDoor
set_option linter.unusedVariables false
set_option linter.unusedSimpArgs false
open Go.RowKit Go.Lib Go.Sort

def rholdZ : Value := .agg #[.int .u32 0, .int .u16 0, .int .u32 0, .int .u16 0]
theorem infoRHold : ∃ i, Tryz.prog.info? 114 = some i ∧ i.zero = some rholdZ ∧ i.size = 4 ∧ i.bytes ≤ 65536 := by
  have h : ((Tryz.prog.info? 114).map fun i => (i.zero, i.size, decide (i.bytes ≤ 65536))) = some (some rholdZ, 4, true) := by kernel_rfl
  rcases hi : Tryz.prog.info? 114 with _ | i
  · simp [hi] at h
  · simp [hi] at h
    exact ⟨i, rfl, h.1, h.2.1, h.2.2⟩
/-- The holds' cells, wherever they stand. -/
def HoldsIn (w : World) (ad : Option Addr) (n : Nat) (ys : List Value) : Prop := 0 < n → ∃ hb ho, ad = some ⟨hb, ho, none⟩ ∧ Holds w hb ho n ys
theorem HoldsIn.low {w w' : World} {ad : Option Addr} {n : Nat} {ys : List Value} (h : HoldsIn w ad n ys) (hf : NoW w w') : HoldsIn w' ad n ys := fun hn => by
  obtain ⟨hb, ho, e, hh⟩ := h hn
  exact ⟨hb, ho, e, hh.low hf⟩

end Go.Proofs.YtcimbbllefkdlaaGreatDoor
namespace Go.Proofs.YtcimbbllefkdlaaGreatDoor
set_option linter.unusedVariables false
set_option linter.unusedSimpArgs false
open Go.RowKit Go.Lib Go.Sort

theorem holds_of_ownR {w : World} {B n : Nat} {v : Value} {ys : List Value} (h : w.ownsRow B 114 4 v n ys) (h1 : ∀ x ∈ ys, x.oneCell' = true) (hn : v ≠ .slice none 0 0) :
    ∃ b c, v = .slice (some ⟨b, 0, none⟩) n c ∧ n ≤ c ∧ B ≤ b ∧ Holds w b 0 n ys := by
  have hc := h
  obtain ⟨hl, h2⟩ := h
  rcases h2 with ⟨rfl, _⟩ | ⟨g, cap, cur, rfl, hB, hg, hcap, _⟩
  · exact absurd rfl hn
  · refine ⟨g, cap, rfl, hcap, hB, hl, fun j x hj => ?_, h1, (Array.getElem?_eq_some_iff.1 hg).1⟩
    have := World.ownsRow.cells hc rfl j x hj
    rw [add_eq] at this
    simpa using this

end Go.Proofs.YtcimbbllefkdlaaGreatDoor
namespace Go.Proofs.YtcimbbllefkdlaaGreatDoor
set_option linter.unusedVariables false
set_option linter.unusedSimpArgs false
open Go.RowKit Go.Lib Go.Sort
theorem holdsV_one (oa op ia ip : Nat → Nat) (n : Nat) : ∀ x ∈ holdsV oa op ia ip n, x.oneCell' = true := by
  intro x hx
  simp only [holdsV, List.mem_flatMap, holdV, List.mem_cons, List.not_mem_nil, or_false] at hx
  obtain ⟨i, _, (rfl | rfl | rfl | rfl)⟩ := hx <;> rfl

end Go.Proofs.YtcimbbllefkdlaaGreatDoor

namespace Go.Proofs.YtcimbbllefkdlaaGreatDoor
set_option linter.unusedVariables false
set_option linter.unusedSimpArgs false
open Go.RowKit Go.Lib Go.Sort
/-- Are the holds the same? -/
def eqAt (oa op ia ip oa2 op2 ia2 ip2 : Nat → Nat) (i : Nat) : Prop := oa i = oa2 i ∧ op i = op2 i ∧ ia i = ia2 i ∧ ip i = ip2 i
instance (oa op ia ip oa2 op2 ia2 ip2 : Nat → Nat) (i : Nat) : Decidable (eqAt oa op ia ip oa2 op2 ia2 ip2 i) := by unfold eqAt; infer_instance
end Go.Proofs.YtcimbbllefkdlaaGreatDoor

namespace Go.Proofs.YtcimbbllefkdlaaGreatDoor
set_option linter.unusedVariables false
set_option linter.unusedSimpArgs false
open Go.RowKit Go.Lib Go.Sort

end Go.Proofs.YtcimbbllefkdlaaGreatDoor

namespace Go.Proofs.YtcimbbllefkdlaaGreatDoor
set_option linter.unusedVariables false
set_option linter.unusedSimpArgs false
open Go.RowKit Go.Lib Go.Sort
def foundZ : Value := .agg #[.int .i64 0, .int .i64 0]
theorem infoFound : ∃ i, Tryz.prog.info? 61 = some i ∧ i.zero = some foundZ ∧ i.size = 2 ∧ i.bytes ≤ 65536 := by
  have h : ((Tryz.prog.info? 61).map fun i => (i.zero, i.size, decide (i.bytes ≤ 65536))) = some (some foundZ, 2, true) := by kernel_rfl
  rcases hi : Tryz.prog.info? 61 with _ | i
  · simp [hi] at h
  · simp [hi] at h
    exact ⟨i, rfl, h.1, h.2.1, h.2.2⟩
theorem infoRFound : ∃ i, Tryz.prog.info? 62 = some i ∧ i.zero = some foundZ ∧ i.size = 2 ∧ i.bytes ≤ 65536 := by
  have h : ((Tryz.prog.info? 62).map fun i => (i.zero, i.size, decide (i.bytes ≤ 65536))) = some (some foundZ, 2, true) := by kernel_rfl
  rcases hi : Tryz.prog.info? 62 with _ | i
  · simp [hi] at h
  · simp [hi] at h
    exact ⟨i, rfl, h.1, h.2.1, h.2.2⟩
/-- A look: where it lies, what it found. -/
structure AuLk (w0 w : World) (g : Nat) (vc : List Value) (fs : List (Int × Int)) : Prop where
  low : NoW w0 w
  ge : w0.heap.size ≤ g
  blk : ∃ fv, w.heap[g]? = some (.cells (vc ++ [fv]).toArray 65 (0, 0)) ∧ w.ownsRow w0.heap.size 61 2 fv fs.length (flatF fs) ∧ fv.ownBlock ≠ some g
theorem AuLk.step {w0 w w' : World} {g : Nat} {vc : List Value} {fs : List (Int × Int)} (h : AuLk w0 w g vc fs) (hp : NoW w w') : AuLk w0 w' g vc fs := by
  obtain ⟨h1, h2, fv, h3, h4, h5⟩ := h
  exact ⟨h1.trans hp (fun _ _ h => h), h2, fv, (hp.block _ (Array.getElem?_eq_some_iff.1 h3).1 id).trans h3, ownsRow_of_block h4 (fun x e => hp.block x (World.ownsRow.lt h4 x e).2 id), h5⟩
theorem AuLk.lt {w0 w : World} {g : Nat} {vc : List Value} {fs : List (Int × Int)} (h : AuLk w0 w g vc fs) : g < w.heap.size := by
  obtain ⟨fv, h3, _⟩ := h.blk
  exact (Array.getElem?_eq_some_iff.1 h3).1
theorem AuLk.cell {w0 w : World} {g : Nat} {vc : List Value} {fs : List (Int × Int)} (h : AuLk w0 w g vc fs) (j : Nat) {v : Value} (hj : vc[j]? = some v) : w.cell? ⟨g, j, none⟩ = some v := by
  obtain ⟨fv, h3, _⟩ := h.blk
  have hl := (List.getElem?_eq_some_iff.1 hj).1
  simp only [World.cell?, h3]
  simp [List.getElem?_append_left hl, hj]
set_option maxHeartbeats 8000000 in
set_option maxRecDepth 100000 in
theorem note_no (w0 w : World) (g : Nat) (vc : List Value) (fs : List (Int × Int)) (k a : Int) (h : AuLk w0 w g vc fs) :
    Calls Tryz.prog 38 #[.pointer (some ⟨g, 0, none⟩), .bool false, .int .i64 k, .int .i64 a] w fun e w' => e = .returned (.tuple #[]) ∧ AuLk w0 w' g vc fs := by
  have HL := Lib.hid h
  clear h
  go_enter Tryz.func38, Tryz.ntmps38
  go_wp2_with fail
  go_end0
  exact ⟨rfl, HL.out⟩
set_option maxHeartbeats 8000000 in
set_option maxRecDepth 100000 in
theorem note_yes (w0 w : World) (g : Nat) (c0 c1 c2 c3 c4 c5 c6 c7 : Value) (fs : List (Int × Int)) (k a : Int) (h : AuLk w0 w g [c0, c1, c2, c3, c4, c5, c6, c7] fs) (hn : fs.length ≤ 1000000) :
    Calls Tryz.prog 38 #[.pointer (some ⟨g, 0, none⟩), .bool true, .int .i64 k, .int .i64 a] w fun e w' => e = .returned (.tuple #[]) ∧ AuLk w0 w' g [c0, c1, c2, c3, c4, c5, c6, c7] (fs ++ [(k, a)]) := by
  obtain ⟨h1, h2, fv, h3, h4, h5⟩ := h
  have HLow := Lib.hid h1
  have HGe := Lib.hid h2
  have B_g := Lib.hid h3
  have HOw := Lib.hid h4
  have HNe := Lib.hid h5
  have HLen := Lib.hid hn
  clear h1 h2 h3 h4 h5 hn
  simp only [List.cons_append, List.nil_append] at B_g
  have cg8 := cell_at B_g 8 rfl
  have lg := hid_lt B_g
  have zg := froz_at B_g
  go_enter Tryz.func38, Tryz.ntmps38
  go_wp2_with (at_builtin; go_must (refine wp_append1 rfl _ _ 31 rfl w0.heap.size 61 foundZ 2 Tryz.underlying31 infoFound rfl (by decide) fv fs.length (flatF fs) rfl (ownsRow_of_block HOw.out (fun x e => ((Fp.refl (fun _ => False) w).alloc _).block x (World.ownsRow.lt HOw.out x e).2 id)) w.heap.size [.int .i64 k, .int .i64 a] rfl rfl ?_ (by simp [Value.oneCell']) (by have := HLen.out; omega) ?_ ?_))
  · exact heap_alloc_new w _
  · exact Nat.le_trans HLow.out.size (((Fp.refl (fun _ => False) w).alloc _).size)
  intro v' w' hown hgr _ hob
  obtain ⟨gv, cv, rfl⟩ : ∃ gv cv, v' = .slice (some ⟨gv, 0, none⟩) (fs.length + 1) cv := by rcases hown.2 with ⟨_, h⟩ | ⟨g, cap, cur, e, _⟩; (omega); exact ⟨g, cap, e⟩
  have hg2 : w'.heap[g]? = some (.cells #[c0, c1, c2, c3, c4, c5, c6, c7, fv] 65 (0, 0)) := by
    have e1 := (((Fp.refl (fun _ => False) w).alloc (.cells #[.int .i64 k, .int .i64 a] 61)).block g lg id).trans B_g.out
    exact (hgr.block g (Array.getElem?_eq_some_iff.1 e1).1 (fun e => HNe.out e.symm)).trans e1
  have hf : NoW w0 w' := (HLow.out.trans ((Fp.refl (fun _ => False) w).alloc (.cells #[.int .i64 k, .int .i64 a] 61)) (fun _ _ h => h)).grown hgr (fun x e => Or.inl (World.ownsRow.lt HOw.out x e).1)
  have hne : (Value.slice (some ⟨gv, 0, none⟩) (fs.length + 1) cv).ownBlock ≠ some g := by
    rcases hob with e | e
    · rw [e]; exact HNe.out
    · rw [e]; intro e2
      injection e2 with e2
      have := ((Fp.refl (fun _ => False) w).alloc (.cells #[.int .i64 k, .int .i64 a] 61)).size
      omega
  have B_g2 := Lib.hid hg2
  have HF := Lib.hid hf
  have HN2 := Lib.hid hne
  have HO2 := Lib.hid hown
  clear B_g cg8 lg zg hg2 hf hne hown hgr hob
  have cg8 := cell_at B_g2 8 rfl
  have lg := hid_lt B_g2
  have zg := froz_at B_g2
  go_wp2_with fail
  go_end0
  refine ⟨rfl, HF.out.setCell (p := ⟨g, 8, none⟩) (Or.inl HGe.out) _, HGe.out, _, ?_, ?_, HN2.out⟩
  · have := heap_set w' g 8 _ _ (.slice (some ⟨gv, 0, none⟩) (fs.length + 1) cv) B_g2.out
    simpa using this
  · have e1 : flatF (fs ++ [(k, a)]) = flatF fs ++ [.int .i64 k, .int .i64 a] := by simp [flatF]
    have e2 : (fs ++ [(k, a)]).length = fs.length + 1 := by simp
    rw [e1, e2]
    exact ownsRow_of_block HO2.out (fun x e => heap_set_other w' g x 8 _ (fun e2 => HN2.out (by rw [e2]; exact e)))
theorem note_ok (wr : Bool) (w0 w : World) (g : Nat) (c0 c1 c2 c3 c4 c5 c6 c7 : Value) (fs : List (Int × Int)) (k a : Int) (h : AuLk w0 w g [c0, c1, c2, c3, c4, c5, c6, c7] fs) (hn : fs.length ≤ 1000000) :
    Calls Tryz.prog 38 #[.pointer (some ⟨g, 0, none⟩), .bool wr, .int .i64 k, .int .i64 a] w fun e w' => e = .returned (.tuple #[]) ∧ AuLk w0 w' g [c0, c1, c2, c3, c4, c5, c6, c7] (fs ++ if wr then [(k, a)] else []) := by
  cases wr
  · simpa using note_no w0 w g [c0, c1, c2, c3, c4, c5, c6, c7] fs k a h
  · simpa using note_yes w0 w g c0 c1 c2 c3 c4 c5 c6 c7 fs k a h hn
end Go.Proofs.YtcimbbllefkdlaaGreatDoor

namespace Go.Proofs.YtcimbbllefkdlaaGreatDoor
set_option linter.unusedVariables false
set_option linter.unusedSimpArgs false
open Go.RowKit Go.Lib Go.Sort
theorem flt_yes {fs : List (Int × Int)} {k off : Int} {p : Nat → Bool} {n : Nat} (h : p n = true) : fs ++ flt k off p (n + 1) = (fs ++ flt k off p n) ++ [(k, off + (n : Int))] := by rw [flt, if_pos h, List.append_assoc]
theorem flt_no {fs : List (Int × Int)} {k off : Int} {p : Nat → Bool} {n : Nat} (h : p n = false) : fs ++ flt k off p (n + 1) = fs ++ flt k off p n := by rw [flt, h]; simp
theorem flt0_yes {fs : List (Int × Int)} {k : Int} {p : Nat → Bool} {n : Nat} (h : p n = true) : fs ++ flt k 0 p (n + 1) = (fs ++ flt k 0 p n) ++ [(k, (n : Int))] := by rw [flt_yes h, Int.zero_add]
theorem fs_len {fs : List (Int × Int)} {k off : Int} {p : Nat → Bool} {n : Nat} (h : fs.length ≤ 10000) (hn : n ≤ 100) : (fs ++ flt k off p n).length ≤ 1000000 := by
  have := flt_len k off p n
  rw [List.length_append]; omega
set_option maxHeartbeats 8000000 in
set_option maxRecDepth 100000 in
theorem slots_ok (v : VD) (sa ca pa qa : Option Addr) (sc cc pc qc : Nat) (g : Nat) (fs : List (Int × Int)) (hfs : fs.length ≤ 10000) (hn : v.ns ≤ 100) (w0 w : World) (ht : Tb w0) (hS : AtC w0 sa v.ns 16 (fun i => (v.S i).cs)) (hok : ∀ i, i < v.ns → (v.S i).e.Ok) (h : AuLk w0 w g [.int .i64 v.now, .slice sa v.ns sc, .slice ca v.nc cc, .slice pa v.np pc, .slice qa v.nq qc, .int .i64 v.free, .int .i64 v.live, .int .i64 v.gone] fs) :
    Calls Tryz.prog 13 #[.pointer (some ⟨g, 0, none⟩)] w fun e w' => e = .returned (.tuple #[]) ∧ AuLk w0 w' g [.int .i64 v.now, .slice sa v.ns sc, .slice ca v.nc cc, .slice pa v.np pc, .slice qa v.nq qc, .int .i64 v.free, .int .i64 v.live, .int .i64 v.gone] (fs ++ flt 1 0 v.f1 v.ns) := by
  have HL := Lib.hid h
  have HS := Lib.hid hS
  have HT := Lib.hid ht
  have Hok := Lib.hid hok
  have HFs := Lib.hid hfs
  clear h hS ht hok hfs
  go_enter Tryz.func13, Tryz.ntmps13
  have cg1 := HL.out.cell 1 rfl
  have lg := HL.out.lt
  go_wp2_with fail
  clear cg1 lg
  go_loopg [10] (v.ns + 1) (fun gg iv wx => ∃ (i : Nat), i ≤ v.ns ∧ gg = v.ns + 1 - i ∧ iv = .int .i64 (i : Int) ∧ AuLk w0 wx g [.int .i64 v.now, .slice sa v.ns sc, .slice ca v.nc cc, .slice pa v.np pc, .slice qa v.nq qc, .int .i64 v.free, .int .i64 v.live, .int .i64 v.gone] (fs ++ flt 1 0 v.f1 i))
  case atStart => exact ⟨0, by omega, by omega, rfl, by simpa [flt] using HL.out⟩
  case round =>
    clear HL
    obtain ⟨i, hi, hg, rfl, hL⟩ := hrel
    have Hg := Lib.hid hg
    have HL := Lib.hid hL
    clear hg hL
    by_cases hlt : i < v.ns
    · obtain ⟨b1, o1, hs, lb, xc⟩ := (HS.out.low HL.out.low) i hlt
      subst hs
      have x0 : wr.cell? ⟨b1, o1 + i * 16, none⟩ = some (.bool (v.S i).used) := xc 0 _ rfl
      have x1 : wr.cell? ⟨b1, o1 + i * 16 + 1, none⟩ = some (.bool (v.S i).put) := xc 1 _ rfl
      have x2 : wr.cell? ⟨b1, o1 + i * 16 + 2, none⟩ = some (.bool (v.S i).dead) := xc 2 _ rfl
      have x3 : wr.cell? ⟨b1, o1 + i * 16 + 3, none⟩ = some (.int .u8 (v.S i).e.r) := xc 3 _ rfl
      have x4 : wr.cell? ⟨b1, o1 + i * 16 + 4, none⟩ = some (.int .u32 (v.S i).e.a) := xc 4 _ rfl
      have x5 : wr.cell? ⟨b1, o1 + i * 16 + 5, none⟩ = some (.int .u16 (v.S i).e.p) := xc 5 _ rfl
      have x6 : wr.cell? ⟨b1, o1 + i * 16 + 6, none⟩ = some (.int .u32 (v.S i).e.b) := xc 6 _ rfl
      have x7 : wr.cell? ⟨b1, o1 + i * 16 + 7, none⟩ = some (.int .u16 (v.S i).e.q) := xc 7 _ rfl
      have x8 : wr.cell? ⟨b1, o1 + i * 16 + 8, none⟩ = some (.int .u8 (v.S i).e.r2) := xc 8 _ rfl
      have x9 : wr.cell? ⟨b1, o1 + i * 16 + 9, none⟩ = some (.int .u32 (v.S i).e.a2) := xc 9 _ rfl
      have x10 : wr.cell? ⟨b1, o1 + i * 16 + 10, none⟩ = some (.int .u16 (v.S i).e.p2) := xc 10 _ rfl
      have x11 : wr.cell? ⟨b1, o1 + i * 16 + 11, none⟩ = some (.int .u32 (v.S i).e.b2) := xc 11 _ rfl
      have x12 : wr.cell? ⟨b1, o1 + i * 16 + 12, none⟩ = some (.int .u16 (v.S i).e.q2) := xc 12 _ rfl
      have x13 : wr.cell? ⟨b1, o1 + i * 16 + 13, none⟩ = some (.int .i64 (v.S i).e.st) := xc 13 _ rfl
      have x14 : wr.cell? ⟨b1, o1 + i * 16 + 14, none⟩ = some (.int .i64 (v.S i).e.dl) := xc 14 _ rfl
      have x15 : wr.cell? ⟨b1, o1 + i * 16 + 15, none⟩ = some (.slice (v.S i).e.ad (v.S i).e.n (v.S i).e.c) := xc 15 _ rfl
      clear xc
      have pk : decide ((i : Int) < (v.ns : Int)) = true := decide_eq_true (by omega)
      have ck : (i : Int) < (v.ns : Int) := by omega
      go_upto_region 3 with fail
      clear x0 x1 x2 x3 x4 x5 x6 x7 x8 x9 x10 x11 x12 x13 x14 x15
      refine wp_gen (fun x1 hW => ?_)
      have hp := new_now hW
      have hB := new_blk hW
      clear hW
      have hGe := HL.out.low.size
      replace HL := Lib.hid (HL.out.step hp)
      obtain ⟨gx, hgx⟩ : ∃ gx, gx = wr.heap.size := ⟨_, rfl⟩
      rw [← hgx] at hB ⊢
      have B_x := hB
      clear hB hp hGe hgx
      have KC := Lib.hid (fun W (hW : NoW w0 W) => check_ok (v.S i).e.r (v.S i).e.a (v.S i).e.p (v.S i).e.b (v.S i).e.q (v.S i).e.r2 (v.S i).e.a2 (v.S i).e.p2 (v.S i).e.b2 (v.S i).e.q2 (v.S i).e.st (v.S i).e.dl (v.S i).e.ad (v.S i).e.n (v.S i).e.c (Hok.out i hlt).r (Hok.out i hlt).r2 W (HT.out.low hW))
      have hch : (chkB (v.S i).e.r (v.S i).e.p (v.S i).e.q (v.S i).e.r2 (v.S i).e.p2 (v.S i).e.q2 (decide ((v.S i).e.r = (v.S i).e.r2 ∧ (v.S i).e.a = (v.S i).e.a2 ∧ (v.S i).e.p = (v.S i).e.p2 ∧ (v.S i).e.b = (v.S i).e.b2 ∧ (v.S i).e.q = (v.S i).e.q2)) (v.S i).e.st (v.S i).e.dl (v.S i).e.n) = v.okS i := rfl
      rw [hch] at KC
      clear hch
      rcases hp0 : (v.S i).put with _ | _
      · rw [hp0] at B_x
        rcases hd : (v.S i).dead with _ | _
        · rw [hd] at B_x
          rcases hu : (v.S i).used with _ | _
          · rw [hu] at B_x
            have HW := Lib.hid (show v.f1 i = false from by simp [VD.f1, hu, hp0, hd])
            clear hp0 hd hu KC
            have y0 := cell_at B_x 0 rfl
            have y1 := cell_at B_x 1 rfl
            have y2 := cell_at B_x 2 rfl
            have y3 := cell_at B_x 3 rfl
            have y4 := cell_at B_x 4 rfl
            have y5 := cell_at B_x 5 rfl
            have y6 := cell_at B_x 6 rfl
            have y7 := cell_at B_x 7 rfl
            have y8 := cell_at B_x 8 rfl
            have y9 := cell_at B_x 9 rfl
            have y10 := cell_at B_x 10 rfl
            have y11 := cell_at B_x 11 rfl
            have y12 := cell_at B_x 12 rfl
            have y13 := cell_at B_x 13 rfl
            have y14 := cell_at B_x 14 rfl
            have y15 := cell_at B_x 15 rfl
            have ly := hid_lt B_x
            go_wp2_with fail
            refine (note_ok false w0 _ g _ _ _ _ _ _ _ _ _ 1 i HL.out (fs_len HFs.out (by omega))).mono ?_
            rintro e z2 ⟨rfl, hL⟩
            replace HL := Lib.hid hL
            clear hL y0 y1 y2 y3 y4 y5 y6 y7 y8 y9 y10 y11 y12 y13 y14 y15 ly
            go_wp2_with fail
            go_roundg (v.ns - i)
            case measure => have := Hg.out; omega
            case rel => exact ⟨i + 1, by omega, by omega, by go_num, by rw [flt_no HW.out]; simpa using HL.out⟩
          · rw [hu] at B_x
            have HW := Lib.hid (show v.f1 i = false from by simp [VD.f1, hu, hp0, hd])
            clear hp0 hd hu KC
            have y0 := cell_at B_x 0 rfl
            have y1 := cell_at B_x 1 rfl
            have y2 := cell_at B_x 2 rfl
            have y3 := cell_at B_x 3 rfl
            have y4 := cell_at B_x 4 rfl
            have y5 := cell_at B_x 5 rfl
            have y6 := cell_at B_x 6 rfl
            have y7 := cell_at B_x 7 rfl
            have y8 := cell_at B_x 8 rfl
            have y9 := cell_at B_x 9 rfl
            have y10 := cell_at B_x 10 rfl
            have y11 := cell_at B_x 11 rfl
            have y12 := cell_at B_x 12 rfl
            have y13 := cell_at B_x 13 rfl
            have y14 := cell_at B_x 14 rfl
            have y15 := cell_at B_x 15 rfl
            have ly := hid_lt B_x
            go_wp2_with fail
            refine (note_ok false w0 _ g _ _ _ _ _ _ _ _ _ 1 i HL.out (fs_len HFs.out (by omega))).mono ?_
            rintro e z2 ⟨rfl, hL⟩
            replace HL := Lib.hid hL
            clear hL y0 y1 y2 y3 y4 y5 y6 y7 y8 y9 y10 y11 y12 y13 y14 y15 ly
            go_wp2_with fail
            go_roundg (v.ns - i)
            case measure => have := Hg.out; omega
            case rel => exact ⟨i + 1, by omega, by omega, by go_num, by rw [flt_no HW.out]; simpa using HL.out⟩
        · rw [hd] at B_x
          rcases hu : (v.S i).used with _ | _
          · rw [hu] at B_x
            have HW := Lib.hid (show v.f1 i = true from by simp [VD.f1, hu, hp0, hd])
            clear hp0 hd hu KC
            have y0 := cell_at B_x 0 rfl
            have y1 := cell_at B_x 1 rfl
            have y2 := cell_at B_x 2 rfl
            have y3 := cell_at B_x 3 rfl
            have y4 := cell_at B_x 4 rfl
            have y5 := cell_at B_x 5 rfl
            have y6 := cell_at B_x 6 rfl
            have y7 := cell_at B_x 7 rfl
            have y8 := cell_at B_x 8 rfl
            have y9 := cell_at B_x 9 rfl
            have y10 := cell_at B_x 10 rfl
            have y11 := cell_at B_x 11 rfl
            have y12 := cell_at B_x 12 rfl
            have y13 := cell_at B_x 13 rfl
            have y14 := cell_at B_x 14 rfl
            have y15 := cell_at B_x 15 rfl
            have ly := hid_lt B_x
            go_wp2_with fail
            refine (note_ok true w0 _ g _ _ _ _ _ _ _ _ _ 1 i HL.out (fs_len HFs.out (by omega))).mono ?_
            rintro e z2 ⟨rfl, hL⟩
            replace HL := Lib.hid hL
            clear hL y0 y1 y2 y3 y4 y5 y6 y7 y8 y9 y10 y11 y12 y13 y14 y15 ly
            go_wp2_with fail
            go_roundg (v.ns - i)
            case measure => have := Hg.out; omega
            case rel => exact ⟨i + 1, by omega, by omega, by go_num, by rw [flt0_yes HW.out]; simpa using HL.out⟩
          · rw [hu] at B_x
            have HW := Lib.hid (show v.f1 i = true from by simp [VD.f1, hu, hp0, hd])
            clear hp0 hd hu KC
            have y0 := cell_at B_x 0 rfl
            have y1 := cell_at B_x 1 rfl
            have y2 := cell_at B_x 2 rfl
            have y3 := cell_at B_x 3 rfl
            have y4 := cell_at B_x 4 rfl
            have y5 := cell_at B_x 5 rfl
            have y6 := cell_at B_x 6 rfl
            have y7 := cell_at B_x 7 rfl
            have y8 := cell_at B_x 8 rfl
            have y9 := cell_at B_x 9 rfl
            have y10 := cell_at B_x 10 rfl
            have y11 := cell_at B_x 11 rfl
            have y12 := cell_at B_x 12 rfl
            have y13 := cell_at B_x 13 rfl
            have y14 := cell_at B_x 14 rfl
            have y15 := cell_at B_x 15 rfl
            have ly := hid_lt B_x
            go_wp2_with fail
            refine (note_ok true w0 _ g _ _ _ _ _ _ _ _ _ 1 i HL.out (fs_len HFs.out (by omega))).mono ?_
            rintro e z2 ⟨rfl, hL⟩
            replace HL := Lib.hid hL
            clear hL y0 y1 y2 y3 y4 y5 y6 y7 y8 y9 y10 y11 y12 y13 y14 y15 ly
            go_wp2_with fail
            go_roundg (v.ns - i)
            case measure => have := Hg.out; omega
            case rel => exact ⟨i + 1, by omega, by omega, by go_num, by rw [flt0_yes HW.out]; simpa using HL.out⟩
      · rw [hp0] at B_x
        rcases hd : (v.S i).dead with _ | _
        · rw [hd] at B_x
          rcases hu : (v.S i).used with _ | _
          · rw [hu] at B_x
            have HW := Lib.hid (show v.f1 i = true from by simp [VD.f1, hu, hp0, hd])
            clear hp0 hd hu KC
            have y0 := cell_at B_x 0 rfl
            have y1 := cell_at B_x 1 rfl
            have y2 := cell_at B_x 2 rfl
            have y3 := cell_at B_x 3 rfl
            have y4 := cell_at B_x 4 rfl
            have y5 := cell_at B_x 5 rfl
            have y6 := cell_at B_x 6 rfl
            have y7 := cell_at B_x 7 rfl
            have y8 := cell_at B_x 8 rfl
            have y9 := cell_at B_x 9 rfl
            have y10 := cell_at B_x 10 rfl
            have y11 := cell_at B_x 11 rfl
            have y12 := cell_at B_x 12 rfl
            have y13 := cell_at B_x 13 rfl
            have y14 := cell_at B_x 14 rfl
            have y15 := cell_at B_x 15 rfl
            have ly := hid_lt B_x
            go_wp2_with fail
            refine (note_ok true w0 _ g _ _ _ _ _ _ _ _ _ 1 i HL.out (fs_len HFs.out (by omega))).mono ?_
            rintro e z2 ⟨rfl, hL⟩
            replace HL := Lib.hid hL
            clear hL y0 y1 y2 y3 y4 y5 y6 y7 y8 y9 y10 y11 y12 y13 y14 y15 ly
            go_wp2_with fail
            go_roundg (v.ns - i)
            case measure => have := Hg.out; omega
            case rel => exact ⟨i + 1, by omega, by omega, by go_num, by rw [flt0_yes HW.out]; simpa using HL.out⟩
          · rw [hu] at B_x
            rcases hk : v.okS i with _ | _
            · rw [hk] at KC
              have HW := Lib.hid (show v.f1 i = true from by simp [VD.f1, hu, hp0, hd, hk])
              clear hp0 hd hu hk
              simp only [if_true, Bool.false_eq_true, if_false] at KC
              have y0 := cell_at B_x 0 rfl
              have y1 := cell_at B_x 1 rfl
              have y2 := cell_at B_x 2 rfl
              have y3 := cell_at B_x 3 rfl
              have y4 := cell_at B_x 4 rfl
              have y5 := cell_at B_x 5 rfl
              have y6 := cell_at B_x 6 rfl
              have y7 := cell_at B_x 7 rfl
              have y8 := cell_at B_x 8 rfl
              have y9 := cell_at B_x 9 rfl
              have y10 := cell_at B_x 10 rfl
              have y11 := cell_at B_x 11 rfl
              have y12 := cell_at B_x 12 rfl
              have y13 := cell_at B_x 13 rfl
              have y14 := cell_at B_x 14 rfl
              have y15 := cell_at B_x 15 rfl
              have ly := hid_lt B_x
              go_wp2_with fail
              refine (KC.out _ HL.out.low).mono ?_
              rintro e z1 ⟨rfl, hp⟩
              replace HL := Lib.hid (HL.out.step hp)
              clear hp
              go_wp2_with fail
              refine (note_ok true w0 _ g _ _ _ _ _ _ _ _ _ 1 i HL.out (fs_len HFs.out (by omega))).mono ?_
              rintro e z2 ⟨rfl, hL⟩
              replace HL := Lib.hid hL
              clear hL y0 y1 y2 y3 y4 y5 y6 y7 y8 y9 y10 y11 y12 y13 y14 y15 ly
              go_wp2_with fail
              go_roundg (v.ns - i)
              case measure => have := Hg.out; omega
              case rel => exact ⟨i + 1, by omega, by omega, by go_num, by rw [flt0_yes HW.out]; simpa using HL.out⟩
            · rw [hk] at KC
              have HW := Lib.hid (show v.f1 i = false from by simp [VD.f1, hu, hp0, hd, hk])
              clear hp0 hd hu hk
              simp only [if_true, Bool.false_eq_true, if_false] at KC
              have y0 := cell_at B_x 0 rfl
              have y1 := cell_at B_x 1 rfl
              have y2 := cell_at B_x 2 rfl
              have y3 := cell_at B_x 3 rfl
              have y4 := cell_at B_x 4 rfl
              have y5 := cell_at B_x 5 rfl
              have y6 := cell_at B_x 6 rfl
              have y7 := cell_at B_x 7 rfl
              have y8 := cell_at B_x 8 rfl
              have y9 := cell_at B_x 9 rfl
              have y10 := cell_at B_x 10 rfl
              have y11 := cell_at B_x 11 rfl
              have y12 := cell_at B_x 12 rfl
              have y13 := cell_at B_x 13 rfl
              have y14 := cell_at B_x 14 rfl
              have y15 := cell_at B_x 15 rfl
              have ly := hid_lt B_x
              go_wp2_with fail
              refine (KC.out _ HL.out.low).mono ?_
              rintro e z1 ⟨rfl, hp⟩
              replace HL := Lib.hid (HL.out.step hp)
              clear hp
              go_wp2_with fail
              refine (note_ok false w0 _ g _ _ _ _ _ _ _ _ _ 1 i HL.out (fs_len HFs.out (by omega))).mono ?_
              rintro e z2 ⟨rfl, hL⟩
              replace HL := Lib.hid hL
              clear hL y0 y1 y2 y3 y4 y5 y6 y7 y8 y9 y10 y11 y12 y13 y14 y15 ly
              go_wp2_with fail
              go_roundg (v.ns - i)
              case measure => have := Hg.out; omega
              case rel => exact ⟨i + 1, by omega, by omega, by go_num, by rw [flt_no HW.out]; simpa using HL.out⟩
        · rw [hd] at B_x
          rcases hu : (v.S i).used with _ | _
          · rw [hu] at B_x
            have HW := Lib.hid (show v.f1 i = true from by simp [VD.f1, hu, hp0, hd])
            clear hp0 hd hu KC
            have y0 := cell_at B_x 0 rfl
            have y1 := cell_at B_x 1 rfl
            have y2 := cell_at B_x 2 rfl
            have y3 := cell_at B_x 3 rfl
            have y4 := cell_at B_x 4 rfl
            have y5 := cell_at B_x 5 rfl
            have y6 := cell_at B_x 6 rfl
            have y7 := cell_at B_x 7 rfl
            have y8 := cell_at B_x 8 rfl
            have y9 := cell_at B_x 9 rfl
            have y10 := cell_at B_x 10 rfl
            have y11 := cell_at B_x 11 rfl
            have y12 := cell_at B_x 12 rfl
            have y13 := cell_at B_x 13 rfl
            have y14 := cell_at B_x 14 rfl
            have y15 := cell_at B_x 15 rfl
            have ly := hid_lt B_x
            go_wp2_with fail
            refine (note_ok true w0 _ g _ _ _ _ _ _ _ _ _ 1 i HL.out (fs_len HFs.out (by omega))).mono ?_
            rintro e z2 ⟨rfl, hL⟩
            replace HL := Lib.hid hL
            clear hL y0 y1 y2 y3 y4 y5 y6 y7 y8 y9 y10 y11 y12 y13 y14 y15 ly
            go_wp2_with fail
            go_roundg (v.ns - i)
            case measure => have := Hg.out; omega
            case rel => exact ⟨i + 1, by omega, by omega, by go_num, by rw [flt0_yes HW.out]; simpa using HL.out⟩
          · rw [hu] at B_x
            rcases hk : v.okS i with _ | _
            · rw [hk] at KC
              have HW := Lib.hid (show v.f1 i = true from by simp [VD.f1, hu, hp0, hd, hk])
              clear hp0 hd hu hk
              simp only [if_true, Bool.false_eq_true, if_false] at KC
              have y0 := cell_at B_x 0 rfl
              have y1 := cell_at B_x 1 rfl
              have y2 := cell_at B_x 2 rfl
              have y3 := cell_at B_x 3 rfl
              have y4 := cell_at B_x 4 rfl
              have y5 := cell_at B_x 5 rfl
              have y6 := cell_at B_x 6 rfl
              have y7 := cell_at B_x 7 rfl
              have y8 := cell_at B_x 8 rfl
              have y9 := cell_at B_x 9 rfl
              have y10 := cell_at B_x 10 rfl
              have y11 := cell_at B_x 11 rfl
              have y12 := cell_at B_x 12 rfl
              have y13 := cell_at B_x 13 rfl
              have y14 := cell_at B_x 14 rfl
              have y15 := cell_at B_x 15 rfl
              have ly := hid_lt B_x
              go_wp2_with fail
              refine (KC.out _ HL.out.low).mono ?_
              rintro e z1 ⟨rfl, hp⟩
              replace HL := Lib.hid (HL.out.step hp)
              clear hp
              go_wp2_with fail
              refine (note_ok true w0 _ g _ _ _ _ _ _ _ _ _ 1 i HL.out (fs_len HFs.out (by omega))).mono ?_
              rintro e z2 ⟨rfl, hL⟩
              replace HL := Lib.hid hL
              clear hL y0 y1 y2 y3 y4 y5 y6 y7 y8 y9 y10 y11 y12 y13 y14 y15 ly
              go_wp2_with fail
              go_roundg (v.ns - i)
              case measure => have := Hg.out; omega
              case rel => exact ⟨i + 1, by omega, by omega, by go_num, by rw [flt0_yes HW.out]; simpa using HL.out⟩
            · rw [hk] at KC
              have HW := Lib.hid (show v.f1 i = false from by simp [VD.f1, hu, hp0, hd, hk])
              clear hp0 hd hu hk
              simp only [if_true, Bool.false_eq_true, if_false] at KC
              have y0 := cell_at B_x 0 rfl
              have y1 := cell_at B_x 1 rfl
              have y2 := cell_at B_x 2 rfl
              have y3 := cell_at B_x 3 rfl
              have y4 := cell_at B_x 4 rfl
              have y5 := cell_at B_x 5 rfl
              have y6 := cell_at B_x 6 rfl
              have y7 := cell_at B_x 7 rfl
              have y8 := cell_at B_x 8 rfl
              have y9 := cell_at B_x 9 rfl
              have y10 := cell_at B_x 10 rfl
              have y11 := cell_at B_x 11 rfl
              have y12 := cell_at B_x 12 rfl
              have y13 := cell_at B_x 13 rfl
              have y14 := cell_at B_x 14 rfl
              have y15 := cell_at B_x 15 rfl
              have ly := hid_lt B_x
              go_wp2_with fail
              refine (KC.out _ HL.out.low).mono ?_
              rintro e z1 ⟨rfl, hp⟩
              replace HL := Lib.hid (HL.out.step hp)
              clear hp
              go_wp2_with fail
              refine (note_ok false w0 _ g _ _ _ _ _ _ _ _ _ 1 i HL.out (fs_len HFs.out (by omega))).mono ?_
              rintro e z2 ⟨rfl, hL⟩
              replace HL := Lib.hid hL
              clear hL y0 y1 y2 y3 y4 y5 y6 y7 y8 y9 y10 y11 y12 y13 y14 y15 ly
              go_wp2_with fail
              go_roundg (v.ns - i)
              case measure => have := Hg.out; omega
              case rel => exact ⟨i + 1, by omega, by omega, by go_num, by rw [flt_no HW.out]; simpa using HL.out⟩
    · obtain rfl : i = v.ns := by omega
      have pk : decide ((v.ns : Int) < (v.ns : Int)) = false := decide_eq_false (by omega)
      go_wp2_with fail
      go_end0
      exact ⟨rfl, HL.out⟩
end Go.Proofs.YtcimbbllefkdlaaGreatDoor
