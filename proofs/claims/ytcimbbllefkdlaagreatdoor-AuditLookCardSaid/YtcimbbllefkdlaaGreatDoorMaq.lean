/- Texts of this proof, merged: AuK Avf Avg. -/
import Derived.Test.YtcimbbllefkdlaaGreatDoorMam
import Derived.Test.YtcimbbllefkdlaaGreatDoorMan
import Derived.Test.YtcimbbllefkdlaaGreatDoorMao
import Derived.Test.YtcimbbllefkdlaaGreatDoorMap
import Derived.Test.YtcimbbllefkdlaaGreatDoorMag
import Derived.Test.YtcimbbllefkdlaaGreatDoorMaj
import Derived.Test.YtcimbbllefkdlaaGreatDoorMaa
import Derived.Test.YtcimbbllefkdlaaGreatDoorMab
import Derived.Test.YtcimbbllefkdlaaGreatDoorMac
import Derived.Test.YtcimbbllefkdlaaGreatDoorMad
import Derived.Test.YtcimbbllefkdlaaGreatDoorMae
import Derived.Test.YtcimbbllefkdlaaGreatDoorMaf
import Derived.Test.YtcimbbllefkdlaaGreatDoorMah
import Derived.Test.YtcimbbllefkdlaaGreatDoorMai
import Derived.Test.YtcimbbllefkdlaaGreatDoorMak
import Derived.Test.YtcimbbllefkdlaaGreatDoorMal
namespace Go.Proofs.YtcimbbllefkdlaaGreatDoor
set_option linter.unusedVariables false
set_option linter.unusedSimpArgs false
open Go.RowKit Go.Lib Go.Sort
/-- A view in memory. -/
structure ViewIn (w : World) (v : VD) (sa ca pa qa : Option Addr) (cad : Nat → Option Addr) (cc' : Nat → Nat) : Prop where
  s : AtC w sa v.ns 16 (fun i => (v.S i).cs)
  h : ∀ i, i < v.ns → HoldsIn w (v.S i).e.ad (v.S i).e.n (holdsV (v.O i).1 (v.O i).2.1 (v.O i).2.2.1 (v.O i).2.2.2 (v.S i).e.n)
  c : AtC w ca v.nc 1 (fun c => [.slice (cad c) (v.cn c) (cc' c)])
  k : ∀ c, c < v.nc → AtC w (cad c) (v.cn c) 3 (fun k => (v.C c k).cs)
  p : AtC w pa v.np 7 (fun i => (v.P i).cs)
  q : AtC w qa v.nq 2 (fun i => (v.Q i).cs)
/-- A view of the sizes that are gone through. -/
structure VD.Fit (v : VD) : Prop where
  ns : v.ns ≤ 100
  nc : v.nc ≤ 100
  cn : ∀ c, v.cn c ≤ 100
  np : v.np ≤ 100
  nq : v.nq ≤ 100
  hn : ∀ i, (v.S i).e.n ≤ 100
  ok : ∀ i, i < v.ns → (v.S i).e.Ok
set_option maxHeartbeats 8000000 in
set_option maxRecDepth 100000 in
theorem look_ok (v : VD) (sa ca pa qa : Option Addr) (sc cc pc qc : Nat) (cad : Nat → Option Addr) (cc' : Nat → Nat) (hf : v.Fit) (w : World) (ht : Tb w) (hH : HashOk) (hv : ViewIn w v sa ca pa qa cad cc') :
    Calls Tryz.prog 7 #[.agg #[.int .i64 v.now, .slice sa v.ns sc, .slice ca v.nc cc, .slice pa v.np pc, .slice qa v.nq qc, .int .i64 v.free, .int .i64 v.live, .int .i64 v.gone]] w fun e w' => ∃ fv, e = .returned fv ∧ w'.ownsRow w.heap.size 61 2 fv v.faults.length (flatF v.faults) ∧ NoW w w' := by
  obtain ⟨hS, hHo, hC, hK, hP, hQ⟩ := hv
  obtain ⟨hns, hnc, hcn, hnp, hnq, hhn, hok⟩ := hf
  have HT := Lib.hid ht
  have HHs := Lib.hid hH
  have HS := Lib.hid hS
  have HHo := Lib.hid hHo
  have HC := Lib.hid hC
  have HK := Lib.hid hK
  have HP := Lib.hid hP
  have HQ := Lib.hid hQ
  have Hcn := Lib.hid hcn
  have Hhn := Lib.hid hhn
  have Hok := Lib.hid hok
  clear hS hHo hC hK hP hQ hcn hhn hok ht hH
  go_enter Tryz.func7, Tryz.ntmps7
  go_upto_region 2 with fail
  refine wp_gen (fun xw hW => ?_)
  obtain ⟨hB0, hB, hp⟩ := new2_blk hW
  clear hW hB0
  obtain ⟨g, hg⟩ : ∃ g, g = w.heap.size + 1 := ⟨_, rfl⟩
  rw [← hg] at hB ⊢
  have HL := Lib.hid (show AuLk w xw g [.int .i64 v.now, .slice sa v.ns sc, .slice ca v.nc cc, .slice pa v.np pc, .slice qa v.nq qc, .int .i64 v.free, .int .i64 v.live, .int .i64 v.gone] [] from ⟨hp, by omega, .slice none 0 0, hB.out, World.ownsRow_nil _ _ _ 2, fun e => by cases e⟩)
  clear hB hp hg
  have HLen := Lib.hid (show (flt 1 0 v.f1 v.ns).length ≤ 100 ∧ (flt 2 0 v.f2 v.nc).length ≤ 100 ∧ (flt 2 (v.nc : Int) v.f2b v.ns).length ≤ 100 ∧ (flt 3 0 v.f3 v.ns).length ≤ 100 ∧ (flt 4 0 v.f4 v.np).length ≤ 100 ∧ (flt 4 (v.np : Int) v.f4b v.ns).length ≤ 100 ∧ (flt 5 0 v.f5 v.ns).length ≤ 100 from ⟨Nat.le_trans (flt_len _ _ _ _) hns, Nat.le_trans (flt_len _ _ _ _) hnc, Nat.le_trans (flt_len _ _ _ _) hns, Nat.le_trans (flt_len _ _ _ _) hns, Nat.le_trans (flt_len _ _ _ _) hnp, Nat.le_trans (flt_len _ _ _ _) hns, Nat.le_trans (flt_len _ _ _ _) hns⟩)
  go_wp2_with fail
  refine (slots_ok v sa ca pa qa sc cc pc qc g _ (by have := HLen.out; simp only [List.length_append, List.length_nil]; omega) hns w _ HT.out HS.out Hok.out HL.out).mono ?_
  rintro e z0 ⟨rfl, hL⟩
  replace HL := Lib.hid hL
  clear hL
  go_wp2_with fail
  refine (links_ok v sa ca pa qa sc cc pc qc cad cc' g _ (by have := HLen.out; simp only [List.length_append, List.length_nil]; omega) hns hnc Hcn.out w _ HHs.out HS.out Hok.out HC.out HK.out HL.out).mono ?_
  rintro e z1 ⟨rfl, hL⟩
  replace HL := Lib.hid hL
  clear hL
  go_wp2_with fail
  refine (tuples_ok v sa ca pa qa sc cc pc qc g _ (by have := HLen.out; simp only [List.length_append, List.length_nil]; omega) hns w _ HS.out HL.out).mono ?_
  rintro e z2 ⟨rfl, hL⟩
  replace HL := Lib.hid hL
  clear hL
  go_wp2_with fail
  refine (ports_ok v sa ca pa qa sc cc pc qc g _ (by have := HLen.out; simp only [List.length_append, List.length_nil]; omega) hns hnp w _ HS.out HP.out HHo.out Hhn.out HL.out).mono ?_
  rintro e z3 ⟨rfl, hL⟩
  replace HL := Lib.hid hL
  clear hL
  go_wp2_with fail
  refine (queue_ok v sa ca pa qa sc cc pc qc g _ (by have := HLen.out; simp only [List.length_append, List.length_nil]; omega) hns hnq w _ HS.out HQ.out HL.out).mono ?_
  rintro e z4 ⟨rfl, hL⟩
  replace HL := Lib.hid hL
  clear hL
  go_wp2_with fail
  refine (count_ok v sa ca pa qa sc cc pc qc g _ (by have := HLen.out; simp only [List.length_append, List.length_nil]; omega) hns w _ HS.out HL.out).mono ?_
  rintro e z5 ⟨rfl, hL⟩
  replace HL := Lib.hid hL
  clear hL
  obtain ⟨hlow, hge, fv, hB, hO, _⟩ := HL.out
  have B_g := Lib.hid hB
  have HO := Lib.hid hO
  have HLo := Lib.hid hlow
  clear hB hO hlow hge HL
  simp only [List.cons_append, List.nil_append] at B_g
  have cg8 := cell_at B_g 8 rfl
  have lg := hid_lt B_g
  go_wp2_with fail
  go_ret
  refine ⟨fv, rfl, ?_, HLo.out⟩
  have e : v.faults = [] ++ flt 1 0 v.f1 v.ns ++ flt 2 0 v.f2 v.nc ++ flt 2 v.nc v.f2b v.ns ++ flt 3 0 v.f3 v.ns ++ flt 4 0 v.f4 v.np ++ flt 4 v.np v.f4b v.ns ++ flt 5 0 v.f5 v.ns ++ (if v.f6 then [(6, 0)] else []) := rfl
  rw [e]
  exact HO.out
end Go.Proofs.YtcimbbllefkdlaaGreatDoor

namespace Go.Proofs.YtcimbbllefkdlaaGreatDoor
set_option linter.unusedVariables false
set_option linter.unusedSimpArgs false
open Go.RowKit Go.Lib Go.Sort
theorem sees_list {α : Type} {w : World} {n t e size : Nat} {cs : List Value} (x0 : α) (enc : α → List Value) (Ok : α → Prop) (hu : Tryz.prog.underlying t = some (.slice e)) (hc : Tryz.prog.cellsOf e = size) (hs : 0 < size)
    (dec : ∀ m cs, Sees Tryz.prog w m e cs → ∃ x, cs = enc x ∧ Ok x) (h : Sees Tryz.prog w n t cs) :
    ∃ (sl : Option Addr) (n c : Nat) (X : Nat → α), cs = [.slice sl n c] ∧ n ≤ c ∧ c ≤ maxLen ∧ (∀ i, i < n → Ok (X i)) ∧ AtC w sl n size (fun i => enc (X i)) := by
  obtain ⟨ad, n, c, e4, hnc, hcm, m2, rows, hr, hat⟩ := sees_rows hu hc hs h
  have key : ∀ i, ∃ x, i < c → rows i = enc x ∧ Ok x := fun i => by
    by_cases hi : i < c
    · obtain ⟨x, h1, h2⟩ := dec _ _ (hr i hi).2
      exact ⟨x, fun _ => ⟨h1, h2⟩⟩
    · exact ⟨x0, fun h => absurd h hi⟩
  obtain ⟨X, key⟩ := Classical.axiomOfChoice key
  refine ⟨ad, n, c, X, e4, hnc, hcm, fun i hi => (key i (by omega)).2, fun i hi => ?_⟩
  obtain ⟨b, o, e, hcell⟩ := hat (by omega)
  have hb : ∀ j v, (enc (X i))[j]? = some v → w.cell? ⟨b, o + i * size + j, none⟩ = some v := fun j v hj => by
    have hl : (rows i).length = size := (hr i (by omega)).1
    have hjl := (List.getElem?_eq_some_iff.1 hj).1
    rw [← (key i (by omega)).1, hl] at hjl
    rw [hcell i (by omega) j hjl, (key i (by omega)).1, hj]
  refine ⟨b, o, e, ?_, hb⟩
  have hl : (rows i).length = size := (hr i (by omega)).1
  have h0 : 0 < (enc (X i)).length := by rw [← (key i (by omega)).1]; omega
  have := cell_lt (hb 0 _ (List.getElem?_eq_getElem h0))
  exact this
set_option maxRecDepth 100000 in
theorem slot_sees {w : World} {n : Nat} {cs : List Value} (h : Sees Tryz.prog w n 54 cs) : ∃ (x : SlotD × ((Nat → Nat) × (Nat → Nat) × (Nat → Nat) × (Nat → Nat))), cs = x.1.cs ∧ x.1.e.Ok ∧ HoldsOk w x.1.e.ad x.1.e.n x.1.e.c x.2.1 x.2.2.1 x.2.2.2.1 x.2.2.2.2 := by
  have c1 : Tryz.prog.cellsOf 54 = 16 := by kernel_rfl
  have c2 : Tryz.prog.cellsOf 4 = 1 := by kernel_rfl
  have c3 : Tryz.prog.cellsOf 52 = 13 := by kernel_rfl
  obtain ⟨hl, m, hs⟩ := sees_struct Tryz.underlying54 h
  rw [c1] at hl
  match cs, hl with
  | [x0, x1, x2, x3, x4, x5, x6, x7, x8, x9, x10, x11, x12, x13, x14, x15], _ =>
    simp only [List.forall_mem_cons, c2, c3, List.drop_zero, List.drop_succ_cons, List.take_succ_cons, List.take_zero, List.take_nil] at hs
    obtain ⟨h0, h1, h2, h3, _⟩ := hs
    obtain ⟨u, e0⟩ := sees_bool Tryz.underlying4 h0
    obtain ⟨p, e1⟩ := sees_bool Tryz.underlying4 h1
    obtain ⟨d, e2⟩ := sees_bool Tryz.underlying4 h2
    obtain ⟨r, a, p', b, q, r2, a2, p2, b2, q2, st, dl, ad, m, c', oa, op, ia, ip, e3, ⟨g1, g2, g3, g4, g5⟩, ⟨g6, g7, g8, g9, g10⟩, g11, g12, hh⟩ := ent_sees h3
    refine ⟨⟨⟨u, p, d, ⟨r, a, p', b, q, r2, a2, p2, b2, q2, st, dl, ad, m, c'⟩⟩, (oa, op, ia, ip)⟩, ?_, ⟨g1, g2, g3, g4, g5, g6, g7, g8, g9, g10, g11, g12, Nat.le_trans hh.nc hh.cm⟩, hh⟩
    simp at e0 e1 e2 e3
    simp [SlotD.cs, e0, e1, e2, e3]
set_option maxRecDepth 100000 in
theorem hand_sees {w : World} {n : Nat} {cs : List Value} (h : Sees Tryz.prog w n 71 cs) : ∃ (x : HandD), cs = x.cs ∧ True := by
  have c1 : Tryz.prog.cellsOf 71 = 2 := by kernel_rfl
  have c2 : Tryz.prog.cellsOf 3 = 1 := by kernel_rfl
  have c3 : Tryz.prog.cellsOf 43 = 1 := by kernel_rfl
  obtain ⟨hl, m, hs⟩ := sees_struct Tryz.underlying71 h
  rw [c1] at hl
  match cs, hl with
  | [x0, x1], _ =>
    simp only [List.forall_mem_cons, c2, c3, List.drop_zero, List.drop_succ_cons, List.take_succ_cons, List.take_zero, List.take_nil] at hs
    obtain ⟨h0, h1, _⟩ := hs
    obtain ⟨a, e0, _⟩ := sees_int Tryz.underlying3 h0
    obtain ⟨b, e1, wb⟩ := sees_int Tryz.underlying43 h1
    have hb : 0 ≤ b := by simp [Lit.wf, IntKind.has, IntKind.min, IntKind.max, IntKind.signed, IntKind.bits] at wb; omega
    simp at e0 e1
    refine ⟨⟨a, b.toNat⟩, ?_, trivial⟩
    simp [HandD.cs, e0, e1, Int.toNat_of_nonneg hb]
set_option maxRecDepth 100000 in
theorem link_sees {w : World} {n : Nat} {cs : List Value} (h : Sees Tryz.prog w n 83 cs) : ∃ (x : LinkD), cs = x.cs ∧ True := by
  have c1 : Tryz.prog.cellsOf 83 = 3 := by kernel_rfl
  have c2 : Tryz.prog.cellsOf 71 = 2 := by kernel_rfl
  have c3 : Tryz.prog.cellsOf 4 = 1 := by kernel_rfl
  obtain ⟨hl, m, hs⟩ := sees_struct Tryz.underlying83 h
  rw [c1] at hl
  match cs, hl with
  | [x0, x1, x2], _ =>
    simp only [List.forall_mem_cons, c2, c3, List.drop_zero, List.drop_succ_cons, List.take_succ_cons, List.take_zero, List.take_nil] at hs
    obtain ⟨h0, h1, _⟩ := hs
    obtain ⟨x, e0, _⟩ := hand_sees h0
    obtain ⟨b, e1⟩ := sees_bool Tryz.underlying4 h1
    simp [HandD.cs] at e0 e1
    refine ⟨⟨x.slot, x.gen, b⟩, ?_, trivial⟩
    simp [LinkD.cs, e0, e1]
end Go.Proofs.YtcimbbllefkdlaaGreatDoor

namespace Go.Proofs.YtcimbbllefkdlaaGreatDoor
set_option linter.unusedVariables false
set_option linter.unusedSimpArgs false
open Go.RowKit Go.Lib Go.Sort
theorem wf_pos {k : IntKind} {x : Int} (h : (Lit.int k x).wf = true) (hk : k.min = 0) : 0 ≤ x := by
  simp [Lit.wf, IntKind.has, hk] at h; omega
set_option maxRecDepth 100000 in
theorem end_sees {w : World} {n : Nat} {cs : List Value} (h : Sees Tryz.prog w n 47 cs) : ∃ a p : Nat, cs = [.int .u32 a, .int .u16 p] := by
  have c1 : Tryz.prog.cellsOf 47 = 2 := by kernel_rfl
  have c2 : Tryz.prog.cellsOf 44 = 1 := by kernel_rfl
  have c3 : Tryz.prog.cellsOf 45 = 1 := by kernel_rfl
  obtain ⟨hl, m, hs⟩ := sees_struct Tryz.underlying47 h
  rw [c1] at hl
  match cs, hl with
  | [x0, x1], _ =>
    simp only [List.forall_mem_cons, c2, c3, List.drop_zero, List.drop_succ_cons, List.take_succ_cons, List.take_zero, List.take_nil] at hs
    obtain ⟨h0, h1, _⟩ := hs
    obtain ⟨a, e0, wa⟩ := sees_int Tryz.underlying44 h0
    obtain ⟨b, e1, wb⟩ := sees_int Tryz.underlying45 h1
    have ha := wf_pos wa rfl
    have hb := wf_pos wb rfl
    simp at e0 e1
    exact ⟨a.toNat, b.toNat, by simp [e0, e1, Int.toNat_of_nonneg ha, Int.toNat_of_nonneg hb]⟩
set_option maxRecDepth 100000 in
theorem row_sees {w : World} {n : Nat} {cs : List Value} (h : Sees Tryz.prog w n 84 cs) : ∃ (x : RowD), cs = x.cs ∧ True := by
  have c1 : Tryz.prog.cellsOf 84 = 7 := by kernel_rfl
  have c2 : Tryz.prog.cellsOf 5 = 1 := by kernel_rfl
  have c3 : Tryz.prog.cellsOf 47 = 2 := by kernel_rfl
  have c4 : Tryz.prog.cellsOf 3 = 1 := by kernel_rfl
  obtain ⟨hl, m, hs⟩ := sees_struct Tryz.underlying84 h
  rw [c1] at hl
  match cs, hl with
  | [x0, x1, x2, x3, x4, x5, x6], _ =>
    simp only [List.forall_mem_cons, c2, c3, c4, List.drop_zero, List.drop_succ_cons, List.take_succ_cons, List.take_zero, List.take_nil] at hs
    obtain ⟨h0, h1, h2, h3, h4, _⟩ := hs
    obtain ⟨r, e0, wr⟩ := sees_int Tryz.underlying5 h0
    have hr := wf_pos wr rfl
    obtain ⟨a, p, e1⟩ := end_sees h1
    obtain ⟨b, q, e2⟩ := end_sees h2
    obtain ⟨l, e3, _⟩ := sees_int Tryz.underlying3 h3
    obtain ⟨d, e4, _⟩ := sees_int Tryz.underlying3 h4
    simp at e0 e1 e2 e3 e4
    refine ⟨⟨r.toNat, a, p, b, q, l, d⟩, ?_, trivial⟩
    simp [RowD.cs, e0, e1, e2, e3, e4, Int.toNat_of_nonneg hr]
theorem chain_sees {w : World} {n : Nat} {cs : List Value} (h : Sees Tryz.prog w n 55 cs) : ∃ (x : (Option Addr × Nat × Nat) × (Nat → LinkD)), cs = [.slice x.1.1 x.1.2.1 x.1.2.2] ∧ x.1.2.1 ≤ maxLen ∧ AtC w x.1.1 x.1.2.1 3 (fun k => (x.2 k).cs) := by
  have c1 : Tryz.prog.cellsOf 83 = 3 := by kernel_rfl
  obtain ⟨sl, n, c, X, e, hnc, hcm, _, hat⟩ := sees_list (⟨0, 0, false⟩ : LinkD) LinkD.cs (fun _ => True) Tryz.underlying55 c1 (by omega) (fun _ _ h => link_sees h) h
  exact ⟨⟨(sl, n, c), X⟩, e, Nat.le_trans hnc hcm, hat⟩
set_option maxRecDepth 100000 in
/-- A view. -/
theorem view_open {w : World} {v : Value} (h : Good Tryz.prog w 27 v) : ∃ (u : VD) (sa ca pa qa : Option Addr) (sc cc pc qc : Nat) (cad : Nat → Option Addr) (cc' : Nat → Nat),
    v = .agg #[.int .i64 u.now, .slice sa u.ns sc, .slice ca u.nc cc, .slice pa u.np pc, .slice qa u.nq qc, .int .i64 u.free, .int .i64 u.live, .int .i64 u.gone] ∧
    (u.ns ≤ maxLen ∧ u.nc ≤ maxLen ∧ u.np ≤ maxLen ∧ u.nq ≤ maxLen) ∧ (u.ns ≤ sc ∧ u.nc ≤ cc ∧ u.np ≤ pc ∧ u.nq ≤ qc) ∧ (∀ i, i < u.ns → (u.S i).e.Ok) ∧ ViewIn w u sa ca pa qa cad cc' := by
  have c1 : Tryz.prog.cellsOf 27 = 8 := by kernel_rfl
  have c2 : Tryz.prog.cellsOf 3 = 1 := by kernel_rfl
  have c3 : Tryz.prog.cellsOf 22 = 1 := by kernel_rfl
  have c4 : Tryz.prog.cellsOf 23 = 1 := by kernel_rfl
  have c5 : Tryz.prog.cellsOf 24 = 1 := by kernel_rfl
  have c6 : Tryz.prog.cellsOf 25 = 1 := by kernel_rfl
  have d1 : Tryz.prog.cellsOf 54 = 16 := by kernel_rfl
  have d2 : Tryz.prog.cellsOf 55 = 1 := by kernel_rfl
  have d3 : Tryz.prog.cellsOf 84 = 7 := by kernel_rfl
  have d4 : Tryz.prog.cellsOf 71 = 2 := by kernel_rfl
  obtain ⟨cs, n, rfl, hs⟩ := good_struct Tryz.underlying27 h
  obtain ⟨hl, m, hs⟩ := sees_struct Tryz.underlying27 hs
  rw [c1] at hl
  obtain ⟨l, rfl⟩ : ∃ l : List Value, cs = l.toArray := ⟨cs.toList, by simp⟩
  simp only [List.toList_toArray] at hl hs
  match l, hl with
  | [x0, x1, x2, x3, x4, x5, x6, x7], _ =>
    simp only [List.forall_mem_cons, c2, c3, c4, c5, c6, List.drop_zero, List.drop_succ_cons, List.take_succ_cons, List.take_zero, List.take_nil] at hs
    obtain ⟨h0, h1, h2, h3, h4, h5, h6, h7, _⟩ := hs
    obtain ⟨now, e0, _⟩ := sees_int Tryz.underlying3 h0
    obtain ⟨free, e5, _⟩ := sees_int Tryz.underlying3 h5
    obtain ⟨live, e6, _⟩ := sees_int Tryz.underlying3 h6
    obtain ⟨gone, e7, _⟩ := sees_int Tryz.underlying3 h7
    obtain ⟨sa, ns, sc, S, e1, a1, a2, aok, aat⟩ := sees_list ((⟨false, false, false, ⟨0, 0, 0, 0, 0, 0, 0, 0, 0, 0, 0, 0, none, 0, 0⟩⟩, (id, id, id, id)) : SlotD × ((Nat → Nat) × (Nat → Nat) × (Nat → Nat) × (Nat → Nat))) (fun x => x.1.cs) (fun x => x.1.e.Ok ∧ HoldsOk w x.1.e.ad x.1.e.n x.1.e.c x.2.1 x.2.2.1 x.2.2.2.1 x.2.2.2.2) Tryz.underlying22 d1 (by omega) (fun _ _ h => slot_sees h) h1
    obtain ⟨ca, nc, cc, C, e2, b1, b2, bok, bat⟩ := sees_list (((none, 0, 0), fun _ => ⟨0, 0, false⟩) : (Option Addr × Nat × Nat) × (Nat → LinkD)) (fun x => [.slice x.1.1 x.1.2.1 x.1.2.2]) (fun x => x.1.2.1 ≤ maxLen ∧ AtC w x.1.1 x.1.2.1 3 (fun k => (x.2 k).cs)) Tryz.underlying23 d2 (by omega) (fun _ _ h => chain_sees h) h2
    obtain ⟨pa, np, pc, P, e3, p1, p2, _, pat⟩ := sees_list (⟨0, 0, 0, 0, 0, 0, 0⟩ : RowD) RowD.cs (fun _ => True) Tryz.underlying24 d3 (by omega) (fun _ _ h => row_sees h) h3
    obtain ⟨qa, nq, qc, Q, e4, q1, q2, _, qat⟩ := sees_list (⟨0, 0⟩ : HandD) HandD.cs (fun _ => True) Tryz.underlying25 d4 (by omega) (fun _ _ h => hand_sees h) h4
    simp at e0 e1 e2 e3 e4 e5 e6 e7
    refine ⟨⟨now, ns, fun i => (S i).1, fun i => (S i).2, nc, fun i => (C i).1.2.1, fun i => (C i).2, np, P, nq, Q, free, live, gone⟩, sa, ca, pa, qa, sc, cc, pc, qc, fun i => (C i).1.1, fun i => (C i).1.2.2, ?_, ⟨Nat.le_trans a1 a2, Nat.le_trans b1 b2, Nat.le_trans p1 p2, Nat.le_trans q1 q2⟩, ⟨a1, b1, p1, q1⟩, fun i hi => (aok i hi).1, ⟨aat, fun i hi => (aok i hi).2.at', bat, fun c hc => (bok c hc).2, pat, qat⟩⟩
    simp [e0, e1, e2, e3, e4, e5, e6, e7]
end Go.Proofs.YtcimbbllefkdlaaGreatDoor
