/- Texts of this proof, merged: Avd Awl RowL. -/
import Derived.Test.YtcimbbllefkdlaaGreatDoorMau
import Derived.Test.YtcimbbllefkdlaaGreatDoorMba
import Derived.Test.YtcimbbllefkdlaaGreatDoorMbd
import Derived.Test.YtcimbbllefkdlaaGreatDoorMaq
import Derived.Test.YtcimbbllefkdlaaGreatDoorRows
import Derived.Test.YtcimbbllefkdlaaGreatDoorMac
import Derived.Maps.Keyed
import Derived.Maps.StringElems
import Derived.WideKeyElems2
import Derived.OpenShut
import Derived.LaidMore
import Derived.Lay
import Derived.LaidOnce
import Derived.HandedShaped
import Derived.Lib.LaidU8
import Derived.LaidLaws
import Derived.Shelf.Vars
import Derived.ProofKit
import Derived.Test.YtcimbbllefkdlaaGreatDoorMaa
import Derived.Test.YtcimbbllefkdlaaGreatDoorMab
import Derived.Test.YtcimbbllefkdlaaGreatDoorMad
import Derived.Test.YtcimbbllefkdlaaGreatDoorMae
import Derived.Test.YtcimbbllefkdlaaGreatDoorMaf
import Derived.Test.YtcimbbllefkdlaaGreatDoorMag
import Derived.Test.YtcimbbllefkdlaaGreatDoorMah
import Derived.Test.YtcimbbllefkdlaaGreatDoorMai
import Derived.Test.YtcimbbllefkdlaaGreatDoorMaj
import Derived.Test.YtcimbbllefkdlaaGreatDoorMak
import Derived.Test.YtcimbbllefkdlaaGreatDoorMal
import Derived.Test.YtcimbbllefkdlaaGreatDoorMam
import Derived.Test.YtcimbbllefkdlaaGreatDoorMan
import Derived.Test.YtcimbbllefkdlaaGreatDoorMao
import Derived.Test.YtcimbbllefkdlaaGreatDoorMap
import Derived.Test.YtcimbbllefkdlaaGreatDoorMar
import Derived.Test.YtcimbbllefkdlaaGreatDoorMas
import Derived.Test.YtcimbbllefkdlaaGreatDoorMat
import Derived.Test.YtcimbbllefkdlaaGreatDoorMav
import Derived.Test.YtcimbbllefkdlaaGreatDoorMaw
import Derived.Test.YtcimbbllefkdlaaGreatDoorMax
import Derived.Test.YtcimbbllefkdlaaGreatDoorMay
import Derived.Test.YtcimbbllefkdlaaGreatDoorMaz
import Derived.Test.YtcimbbllefkdlaaGreatDoorMbb
import Derived.Test.YtcimbbllefkdlaaGreatDoorMbc
namespace Go.Proofs.YtcimbbllefkdlaaGreatDoor
set_option linter.unusedVariables false
set_option linter.unusedSimpArgs false
open Go.RowKit Go.Lib Go.Sort
set_option maxHeartbeats 8000000 in
set_option maxRecDepth 100000 in
theorem great_ok (v : VD) (sa ca pa qa : Option Addr) (sc cc pc qc : Nat) (cad : Nat → Option Addr) (cc' : Nat → Nat) (hns : v.ns ≤ maxLen) (hnc : v.nc ≤ maxLen) (w0 W : World) (hS : AtC w0 sa v.ns 16 (fun i => (v.S i).cs)) (hC : AtC w0 ca v.nc 1 (fun c => [.slice (cad c) (v.cn c) (cc' c)])) (hW0 : NoW w0 W) :
    Calls Tryz.prog 4 #[.agg #[.int .i64 v.now, .slice sa v.ns sc, .slice ca v.nc cc, .slice pa v.np pc, .slice qa v.nq qc, .int .i64 v.free, .int .i64 v.live, .int .i64 v.gone]] W (Ret1 (.bool (anyR v.ns (fun i => decide (4 < (v.S i).e.n)) || (anyR v.nc (fun c => decide (12 < v.cn c)) || decide (10 < v.ns ∨ 6 < v.nc ∨ 10 < v.np ∨ 12 < v.nq)))) W) := by
  have HW0 := Lib.hid hW0
  clear hW0
  unfold maxLen at hns hnc
  have HS := Lib.hid hS
  have HC := Lib.hid hC
  clear hS hC
  obtain ⟨res, hr⟩ : ∃ b, b = (anyR v.ns (fun i => decide (4 < (v.S i).e.n)) || (anyR v.nc (fun c => decide (12 < v.cn c)) || decide (10 < v.ns ∨ 6 < v.nc ∨ 10 < v.np ∨ 12 < v.nq))) := ⟨_, rfl⟩
  rw [← hr]
  have HR := Lib.hid hr
  clear hr
  go_enter Tryz.func4, Tryz.ntmps4
  have HN := Lib.hid (Fp.refl (fun _ => False) W)
  go_upto_region 1 with fail
  refine wp_gen (fun Vw hW => ?_)
  have hp := new_now hW
  have hB := new_blk hW
  clear hW
  replace HN := hid_now HN hp
  obtain ⟨gV, hgV⟩ : ∃ gV, gV = W.heap.size := ⟨_, rfl⟩
  rw [← hgV] at hB ⊢
  have B_V := hB
  clear hB hp hgV
  have c1 := cell_at B_V 1 rfl
  have lV := hid_lt B_V
  go_wp2_with fail
  clear c1 lV
  have HX := Lib.hid (Fp.refl (fun _ => False) Vw)
  have HV0 := HN
  have B_W := B_V
  go_loopg [3] (v.ns + 1) (fun gg iv wx => ∃ (i : Nat), i ≤ v.ns ∧ gg = v.ns + 1 - i ∧ iv = .int .i64 (i : Int) ∧ anyR i (fun i => decide (4 < (v.S i).e.n)) = false ∧ NoW Vw wx)
  case atStart => exact ⟨0, by omega, by omega, rfl, rfl, HX.out⟩
  case round =>
    clear HX
    obtain ⟨i, hi, hg, rfl, hA, hN⟩ := hrel
    have Hg := Lib.hid hg
    replace HN := hid_now HN hN
    have HX := Lib.hid hN
    have HA := Lib.hid hA
    replace B_V := hid_blk B_V hN
    clear hg hN hA
    by_cases hlt1 : i < v.ns
    · obtain ⟨b1, o1, hs1, lb1, xc⟩ := (HS.out.low (HW0.out.trans HN.out (fun _ _ h => h))) i hlt1
      subst hs1
      have x15 : wr.cell? ⟨b1, o1 + i * 16 + 15, none⟩ = some (.slice (v.S i).e.ad (v.S i).e.n (v.S i).e.c) := xc 15 _ rfl
      clear xc
      have ck1 : (i : Int) < (v.ns : Int) := by omega
      have pk1 : decide ((i : Int) < (v.ns : Int)) = true := decide_eq_true ck1
      have c1 := cell_at B_V 1 rfl
      have lV := hid_lt B_V
      obtain ⟨m, hm⟩ : ∃ m, m = (v.S i).e.n := ⟨_, rfl⟩
      rw [← hm] at x15
      have HM := Lib.hid hm
      clear hm
      rcases h4 : decide ((4 : Int) < (m : Int)) with _ | _
      · have HE := Lib.hid (show anyR (i + 1) (fun i => decide (4 < (v.S i).e.n)) = false from anyR_false HA.out (decide_eq_false (by rw [← HM.out]; have := of_decide_eq_false h4; omega)))
        go_wp2_with fail
        go_roundg (v.ns - i)
        case measure => have := Hg.out; omega
        case rel => exact ⟨i + 1, by omega, by omega, by go_num, HE.out, HX.out⟩
      · obtain rfl : res = true := HR.out.trans (by rw [anyR_yes hlt1 (decide_eq_true (by rw [← HM.out]; have := of_decide_eq_true h4; omega))]; rfl)
        go_wp2_with fail
        go_ret
        exact ⟨rfl, HN.out⟩
    · obtain rfl : i = v.ns := by omega
      have pk : decide ((v.ns : Int) < (v.ns : Int)) = false := decide_eq_false (by omega)
      have c1 := cell_at B_V 1 rfl
      have c2 := cell_at B_V 2 rfl
      have lV := hid_lt B_V
      go_wp2_with fail
      clear c1 c2 lV pk Hg
      rw [HA.out, Bool.false_or] at HR
      go_loopg [4] (v.nc + 1) (fun gg iv wx => ∃ (c : Nat), c ≤ v.nc ∧ gg = v.nc + 1 - c ∧ iv = .int .i64 (c : Int) ∧ anyR c (fun c => decide (12 < v.cn c)) = false ∧ NoW Vw wx)
      case atStart => exact ⟨0, by omega, by omega, rfl, rfl, HX.out⟩
      case round =>
        clear HX HA
        obtain ⟨c, hc, hg, rfl, hA, hN⟩ := hrel
        have Hg := Lib.hid hg
        have HA := Lib.hid hA
        have B_V := hid_blk B_W hN
        have HN := Lib.hid (HV0.out.trans hN (fun _ _ h => h))
        clear hg hA
        have HX := Lib.hid hN
        clear hN
        by_cases hlt1 : c < v.nc
        · obtain ⟨b1, o1, hs1, lb1, xc⟩ := (HC.out.low (HW0.out.trans HN.out (fun _ _ h => h))) c hlt1
          subst hs1
          have x0 : wr.cell? ⟨b1, o1 + c, none⟩ = some (.slice (cad c) (v.cn c) (cc' c)) := by have := xc 0 _ rfl; simpa using this
          clear xc
          have ck1 : (c : Int) < (v.nc : Int) := by omega
          have pk1 : decide ((c : Int) < (v.nc : Int)) = true := decide_eq_true ck1
          have c2 := cell_at B_V 2 rfl
          have lV := hid_lt B_V
          obtain ⟨m, hm⟩ : ∃ m, m = v.cn c := ⟨_, rfl⟩
          rw [← hm] at x0
          have HM := Lib.hid hm
          clear hm
          rcases h4 : decide ((12 : Int) < (m : Int)) with _ | _
          · have HE := Lib.hid (show anyR (c + 1) (fun c => decide (12 < v.cn c)) = false from anyR_false HA.out (decide_eq_false (by rw [← HM.out]; have := of_decide_eq_false h4; omega)))
            go_wp2_with fail
            go_roundg (v.nc - c)
            case measure => have := Hg.out; omega
            case rel => exact ⟨c + 1, by omega, by omega, by go_num, HE.out, HX.out⟩
          · obtain rfl : res = true := HR.out.trans (by rw [anyR_yes hlt1 (decide_eq_true (by rw [← HM.out]; have := of_decide_eq_true h4; omega))]; rfl)
            go_wp2_with fail
            go_ret
            exact ⟨rfl, HN.out⟩
        · obtain rfl : c = v.nc := by omega
          have pk : decide ((v.nc : Int) < (v.nc : Int)) = false := decide_eq_false (by omega)
          have c1 := cell_at B_V 1 rfl
          have c2 := cell_at B_V 2 rfl
          have c3 := cell_at B_V 3 rfl
          have c4 := cell_at B_V 4 rfl
          have lV := hid_lt B_V
          rw [HA.out, Bool.false_or] at HR
          rcases q1 : decide ((10 : Int) < (v.ns : Int)) with _ | _
          · skip
            rcases q2 : decide ((6 : Int) < (v.nc : Int)) with _ | _
            · skip
              rcases q3 : decide ((10 : Int) < (v.np : Int)) with _ | _
              · skip
                rcases q4 : decide ((12 : Int) < (v.nq : Int)) with _ | _
                · skip
                  obtain rfl : res = false := HR.out.trans (decide_eq_false (by have e0 := of_decide_eq_false q1; have e1 := of_decide_eq_false q2; have e2 := of_decide_eq_false q3; have e3 := of_decide_eq_false q4; omega))
                  go_wp2_with fail
                  go_ret
                  exact ⟨rfl, HN.out⟩
                · obtain rfl : res = true := HR.out.trans (decide_eq_true (by have := of_decide_eq_true q4; omega))
                  go_wp2_with fail
                  go_ret
                  exact ⟨rfl, HN.out⟩
              · obtain rfl : res = true := HR.out.trans (decide_eq_true (by have := of_decide_eq_true q3; omega))
                go_wp2_with fail
                go_ret
                exact ⟨rfl, HN.out⟩
            · obtain rfl : res = true := HR.out.trans (decide_eq_true (by have := of_decide_eq_true q2; omega))
              go_wp2_with fail
              go_ret
              exact ⟨rfl, HN.out⟩
          · obtain rfl : res = true := HR.out.trans (decide_eq_true (by have := of_decide_eq_true q1; omega))
            go_wp2_with fail
            go_ret
            exact ⟨rfl, HN.out⟩
end Go.Proofs.YtcimbbllefkdlaaGreatDoor

namespace Go.Proofs.YtcimbbllefkdlaaGreatDoor
set_option linter.unusedVariables false
set_option linter.unusedSimpArgs false
open Go.RowKit Go.Lib Go.Sort
theorem faults_le {v : VD} (h : v.Fit) : v.faults.length ≤ 1000 := by
  unfold VD.faults
  have a1 := flt_len 1 0 v.f1 v.ns
  have a2 := flt_len 2 0 v.f2 v.nc
  have a3 := flt_len 2 (v.nc : Int) v.f2b v.ns
  have a4 := flt_len 3 0 v.f3 v.ns
  have a5 := flt_len 4 0 v.f4 v.np
  have a6 := flt_len 4 (v.np : Int) v.f4b v.ns
  have a7 := flt_len 5 0 v.f5 v.ns
  have h1 := h.ns
  have h2 := h.nc
  have h3 := h.np
  have a8 : (if v.f6 then [((6 : Int), (0 : Int))] else []).length ≤ 1 := by split <;> simp
  simp only [List.length_append]
  omega
/-- The view as the law's Doc tells it: its holds elsewhere. -/
def VD.doc (v : VD) (ad : Nat → Option Addr) (c : Nat → Nat) : VD := { v with S := fun i => { v.S i with e := { (v.S i).e with ad := ad i, c := c i } } }
theorem fit_doc {v : VD} (h : v.Fit) (ad : Nat → Option Addr) (c : Nat → Nat) : (v.doc ad c).Fit := ⟨h.ns, h.nc, h.cn, h.np, h.nq, h.hn, fun i hi => by have := h.ok i hi; exact ⟨this.r, this.a, this.p, this.b, this.q, this.r2, this.a2, this.p2, this.b2, this.q2, this.st, this.dl, this.nm⟩⟩
/-- A view, nothing beyond its lengths. -/
def VD.cut (v : VD) : VD := { v with S := fun i => if i < v.ns then v.S i else ⟨false, false, false, ent0⟩, cn := fun c => if c < v.nc then v.cn c else 0 }
theorem atC_congr {w : World} {a : Option Addr} {n k : Nat} {cs ds : Nat → List Value} (h : AtC w a n k cs) (he : ∀ i, i < n → ds i = cs i) : AtC w a n k ds := fun i hi => by
  obtain ⟨b, o, e, h1, h2⟩ := h i hi
  exact ⟨b, o, e, h1, by rw [he i hi]; exact h2⟩
theorem viewIn_cut {w : World} {v : VD} {sa ca pa qa : Option Addr} {cad : Nat → Option Addr} {cc' : Nat → Nat} (h : ViewIn w v sa ca pa qa cad cc') : ViewIn w v.cut sa ca pa qa cad cc' := by
  refine ⟨atC_congr h.s (fun i hi => by have hi' : i < v.ns := hi; simp only [VD.cut, if_pos hi']), fun i hi => ?_, atC_congr h.c (fun i hi => by have hi' : i < v.nc := hi; simp only [VD.cut, if_pos hi']), fun c hc => ?_, h.p, h.q⟩
  · have := h.h i hi
    have hi' : i < v.ns := hi
    simp only [VD.cut, if_pos hi']; exact this
  · have := h.k c hc
    have hc' : c < v.nc := hc
    simp only [VD.cut, if_pos hc']; exact this
theorem viewIn_low {w w' : World} {v : VD} {sa ca pa qa : Option Addr} {cad : Nat → Option Addr} {cc' : Nat → Nat} (h : ViewIn w v sa ca pa qa cad cc') (hp : NoW w w') : ViewIn w' v sa ca pa qa cad cc' :=
  ⟨h.s.low hp, fun i hi => (h.h i hi).low hp, h.c.low hp, fun c hc => (h.k c hc).low hp, h.p.low hp, h.q.low hp⟩
/-- The view that the law goes on with: its slots are those that were handed in; nothing else of it lies in block x. -/
structure VGo (x : Nat) (w wx : World) (u : VD) (sa ca pa qa : Option Addr) (cad : Nat → Option Addr) (cd : Nat → Nat) : Prop where
  fit : u.Fit
  ns : u.ns ≤ 10
  hn : ∀ i, i < u.ns → (u.S i).e.n ≤ 4
  s : AtC w sa u.ns 16 (fun i => (u.S i).cs)
  h : ∀ i, i < u.ns → HoldsIn w (u.S i).e.ad (u.S i).e.n (holdsV (u.O i).1 (u.O i).2.1 (u.O i).2.2.1 (u.O i).2.2.2 (u.S i).e.n)
  low : NoW w wx
  c : AtN x wx ca u.nc 1 (fun c => [.slice (cad c) (u.cn c) (cd c)])
  k : ∀ c, c < u.nc → AtN x wx (cad c) (u.cn c) 3 (fun k => (u.C c k).cs)
  p : AtN x wx pa u.np 7 (fun i => (u.P i).cs)
  q : AtN x wx qa u.nq 2 (fun i => (u.Q i).cs)
theorem VGo.v {x : Nat} {w wx : World} {u : VD} {sa ca pa qa : Option Addr} {cad : Nat → Option Addr} {cd : Nat → Nat} (h : VGo x w wx u sa ca pa qa cad cd) : ViewIn wx u sa ca pa qa cad cd :=
  ⟨h.s.low h.low, fun i hi => (h.h i hi).low h.low, h.c.at', fun c hc => (h.k c hc).at', h.p.at', h.q.at'⟩
theorem VGo.now {x : Nat} {w wx wy : World} {u : VD} {sa ca pa qa : Option Addr} {cad : Nat → Option Addr} {cd : Nat → Nat} (h : VGo x w wx u sa ca pa qa cad cd) (hp : NoW wx wy) : VGo x w wy u sa ca pa qa cad cd :=
  ⟨h.fit, h.ns, h.hn, h.s, h.h, h.low.trans hp (fun _ _ h => h), h.c.fp hp (fun _ e => e.elim), fun c hc => (h.k c hc).fp hp (fun _ e => e.elim), h.p.fp hp (fun _ e => e.elim), h.q.fp hp (fun _ e => e.elim)⟩
/-- Doc, and the document's Look, of a view. -/
theorem rlook_doc (u : VD) (sa ca pa qa : Option Addr) (sc cc pc qc : Nat) (cad : Nat → Option Addr) (cd : Nat → Nat) (w w2 : World) (hf : u.Fit) (hv : ViewIn w u sa ca pa qa cad cd) (sa2 ca2 pa2 : Option Addr) (sc2 cc2 pc2 : Nat) (ad : Nat → Option Addr) (c : Nat → Nat) (cad2 : Nat → Option Addr) (cc3 : Nat → Nat)
    (h1 : AtC w2 sa2 u.ns 18 (fun i => slot18 (u.S i) (ad i) (c i))) (h2 : ∀ i, i < u.ns → HoldsIn w2 (ad i) (u.S i).e.n (holdsV (u.O i).1 (u.O i).2.1 (u.O i).2.2.1 (u.O i).2.2.2 (u.S i).e.n)) (h3 : AtC w2 ca2 u.nc 1 (fun k => [.slice (cad2 k) (u.cn k) (cc3 k)])) (h4 : ∀ k, k < u.nc → AtC w2 (cad2 k) (u.cn k) 3 (fun m => (u.C k m).cs)) (h5 : AtC w2 pa2 u.np 7 (fun i => (u.P i).cs)) (hp : NoW w w2) :
    Calls Tryz.prog 8 #[.agg #[.int .i64 u.now, .slice sa2 u.ns sc2, .slice ca2 u.nc cc2, .slice pa2 u.np pc2, .slice qa u.nq qc, .int .i64 u.free, .int .i64 u.live, .int .i64 u.gone]] w2 fun e w' => ∃ fv, e = .returned fv ∧ w'.ownsRow w2.heap.size 62 2 fv u.faults.length (flatF u.faults) ∧ NoW w2 w' :=
  rlook_ok (u.doc ad c) sa2 ca2 pa2 qa sc2 cc2 pc2 qc (fun _ => 0) (fun _ => 0) cad2 cc3 (fit_doc hf ad c) w2 w2 rhash_ok h1 h2 h3 h4 h5 (hv.q.low hp) (Fp.refl _ _)
theorem anyR_at {n i : Nat} {p : Nat → Bool} (h : anyR n p = false) (hi : i < n) : p i = false := by
  rcases hp : p i with _ | _
  · rfl
  · rw [anyR_yes hi hp] at h; cases h
set_option maxHeartbeats 8000000 in
set_option maxRecDepth 100000 in
theorem walk_AuditLook (w : World) (ht : Tb w) (v0 v1 : Value) (g0 : Good Tryz.prog w 27 v0) (g1 : Good Tryz.prog w 5 v1) : Calls Tryz.prog 3 #[v0, v1] w (Ret1 (.bool true) w) := by
  obtain ⟨u0, sa, ca, pa, qa, sc, cc, pc, qc, cad, cd, rfl, ⟨m1, m2, m3, m4⟩, _, hok0, hv0⟩ := view_open g0
  obtain ⟨y, rfl⟩ : ∃ y : Nat, v1 = .int .u8 y := by obtain ⟨z, e, hz⟩ := good_int Tryz.underlying5 g1; exact ⟨z.toNat, by rw [e, Int.toNat_of_nonneg (wf_pos hz rfl)]⟩
  have HT := Lib.hid ht
  have HV := Lib.hid (viewIn_cut hv0)
  have Hok := Lib.hid (show ∀ i, i < u0.cut.ns → (u0.cut.S i).e.Ok from fun i hi => by have hi' : i < u0.ns := hi; have := hok0 i hi'; simp only [VD.cut, if_pos hi']; exact this)
  have M1 : u0.cut.ns ≤ maxLen := m1
  have M2 : u0.cut.nc ≤ maxLen := m2
  have hcutS : ∀ i, u0.cut.ns ≤ i → (u0.cut.S i).e.n = 0 := fun i hi => by have hi' : ¬ i < u0.ns := Nat.not_lt.2 hi; simp only [VD.cut, if_neg hi']; rfl
  have hcutC : ∀ c, u0.cut.nc ≤ c → u0.cut.cn c = 0 := fun i hi => by have hi' : ¬ i < u0.nc := Nat.not_lt.2 hi; simp only [VD.cut, if_neg hi']
  have HcS := Lib.hid hcutS
  have HcC := Lib.hid hcutC
  clear hok0 hv0 m1 m2 m3 m4 ht g0 g1 hcutS hcutC
  change Calls _ _ #[.agg #[.int .i64 u0.cut.now, .slice sa u0.cut.ns sc, .slice ca u0.cut.nc cc, .slice pa u0.cut.np pc, .slice qa u0.cut.nq qc, .int .i64 u0.cut.free, .int .i64 u0.cut.live, .int .i64 u0.cut.gone], _] _ _
  obtain ⟨u, hu⟩ : ∃ u, u = u0.cut := ⟨_, rfl⟩
  rw [← hu] at HV Hok HcS HcC M1 M2 ⊢
  clear hu
  obtain ⟨gr, hgr⟩ : ∃ b, b = (anyR u.ns (fun i => decide (4 < (u.S i).e.n)) || (anyR u.nc (fun c => decide (12 < u.cn c)) || decide (10 < u.ns ∨ 6 < u.nc ∨ 10 < u.np ∨ 12 < u.nq))) := ⟨_, rfl⟩
  have KG := Lib.hid (fun W hW => great_ok u sa ca pa qa sc cc pc qc cad cd M1 M2 w W HV.out.s HV.out.c hW)
  rw [← hgr] at KG
  have HGr := Lib.hid hgr
  clear hgr M1 M2
  go_enter Tryz.func3, Tryz.ntmps3
  have HN := Lib.hid (Fp.refl (fun _ => False) w)
  go_upto_region 1 with fail
  refine wp_gen (fun z1 hW => ?_)
  have hp := new_now hW
  have hB := new_blk hW
  clear hW
  have hGe := hid_ge HN
  replace HN := hid_now HN hp
  obtain ⟨gV, hgV⟩ : ∃ gV, gV = w.heap.size := ⟨_, rfl⟩
  have G_gV := Lib.hid (Nat.le_trans hGe (Nat.le_of_eq hgV.symm))
  rw [← hgV] at hB ⊢
  have B_gV := hB
  clear hB hGe hgV
  clear hp
  have cgV0 := cell_at B_gV 0 rfl
  have cgV1 := cell_at B_gV 1 rfl
  have cgV2 := cell_at B_gV 2 rfl
  have cgV3 := cell_at B_gV 3 rfl
  have cgV4 := cell_at B_gV 4 rfl
  have cgV5 := cell_at B_gV 5 rfl
  have cgV6 := cell_at B_gV 6 rfl
  have cgV7 := cell_at B_gV 7 rfl
  have zgV := froz_at B_gV
  have lgV := hid_lt B_gV
  go_wp2_with fail
  refine (KG.out _ HN.out).mono ?_
  rintro e x1 ⟨rfl, hp⟩
  replace HN := hid_now HN hp
  replace B_gV := hid_blk B_gV hp
  clear hp cgV0 cgV1 cgV2 cgV3 cgV4 cgV5 cgV6 cgV7 zgV lgV
  rcases gr with _ | _
  · have hq := HGr.out.symm
    simp only [Bool.or_eq_false_iff, decide_eq_false_iff_not, not_or] at hq
    obtain ⟨q1, q2, q3, q4, q5, q6⟩ := hq
    have hf : u.Fit := ⟨by omega, by omega, fun c => by by_cases h : c < u.nc; (have := anyR_at q2 h; have := of_decide_eq_false this; omega); rw [HcC.out c (by omega)]; omega, by omega, by omega, fun i => by by_cases h : i < u.ns; (have := anyR_at q1 h; have := of_decide_eq_false this; omega); rw [HcS.out i (by omega)]; omega, Hok.out⟩
    have HGo := Lib.hid (show VGo gV w x1 u sa ca pa qa cad cd from ⟨hf, by omega, fun i hi => by have := anyR_at q1 hi; have := of_decide_eq_false this; omega, HV.out.s, HV.out.h, HN.out, (AtN.of HV.out.c G_gV.out).fp HN.out (fun _ e => e.elim), fun c hc => (AtN.of (HV.out.k c hc) G_gV.out).fp HN.out (fun _ e => e.elim), (AtN.of HV.out.p G_gV.out).fp HN.out (fun _ e => e.elim), (AtN.of HV.out.q G_gV.out).fp HN.out (fun _ e => e.elim)⟩)
    clear q1 q2 q3 q4 q5 q6 hf HV Hok HcS HcC HGr KG
    go_wp2_with fail
    go_loopg [5] 3 (fun gg tv wx => ∃ (t : Nat) (u : VD) (ca pa qa : Option Addr) (cc pc qc : Nat) (cad : Nat → Option Addr) (cd : Nat → Nat), t ≤ 2 ∧ gg = 3 - t ∧ tv = .int .i64 (t : Int) ∧ wx.heap[gV]? = some (.cells #[.int .i64 u.now, .slice sa u.ns sc, .slice ca u.nc cc, .slice pa u.np pc, .slice qa u.nq qc, .int .i64 u.free, .int .i64 u.live, .int .i64 u.gone] 27 (0, 0)) ∧ VGo gV w wx u sa ca pa qa cad cd ∧ NoW w wx)
    case atStart => exact ⟨0, u, ca, pa, qa, cc, pc, qc, cad, cd, by omega, by omega, rfl, B_gV.out, HGo.out, HN.out⟩
    case round =>
      clear B_gV HGo HN
      obtain ⟨t, u, ca, pa, qa, cc, pc, qc, cad, cd, htl, hg, rfl, hb, hgo, hN⟩ := hrel
      have Hg := Lib.hid hg
      have B_gV := Lib.hid hb
      have HGo := Lib.hid hgo
      have HN := Lib.hid hN
      clear hg hb hgo hN
      by_cases hlt : t < 2
      · have ct : (t : Int) < 2 := by omega
        have cgV0 := cell_at B_gV 0 rfl
        have cgV1 := cell_at B_gV 1 rfl
        have cgV2 := cell_at B_gV 2 rfl
        have cgV3 := cell_at B_gV 3 rfl
        have cgV4 := cell_at B_gV 4 rfl
        have cgV5 := cell_at B_gV 5 rfl
        have cgV6 := cell_at B_gV 6 rfl
        have cgV7 := cell_at B_gV 7 rfl
        have lgV := hid_lt B_gV
        go_upto_region 6 with fail
        refine wp_region_held_drew (S := fun wx => NoW wr wx) (by kernel_rfl) (Fp.drew (Fp.refl _ _)) (fun hHeld0 => ?_)
        refine any_eq hHeld0 (fun p1 hW hHeld => ?_)
        clear hHeld0
        replace B_gV := hid_blk B_gV (noW_drew hW)
        try replace HO1 := Lib.hid (ownsRow_low HO1.out (noW_drew hW))
        clear hW
        (refine tk 0 (some 13) ?_ ?_ ?_; rotate_left; (focus (intro wS hSw; (have q0 := (hSw.cell (p := ⟨gV, 0, none⟩) lgV id).trans cgV0); (have q1 := (hSw.cell (p := ⟨gV, 1, none⟩) lgV id).trans cgV1); (have q2 := (hSw.cell (p := ⟨gV, 2, none⟩) lgV id).trans cgV2); (have q3 := (hSw.cell (p := ⟨gV, 3, none⟩) lgV id).trans cgV3); (have q4 := (hSw.cell (p := ⟨gV, 4, none⟩) lgV id).trans cgV4); (have q5 := (hSw.cell (p := ⟨gV, 5, none⟩) lgV id).trans cgV5); (have q6 := (hSw.cell (p := ⟨gV, 6, none⟩) lgV id).trans cgV6); (have q7 := (hSw.cell (p := ⟨gV, 7, none⟩) lgV id).trans cgV7); go_simp; try with_reducible rfl)); (try simp only [Act.put, List.setIfInBounds_toArray, List.set_cons_zero, List.set_cons_succ]))
        (refine tk 2 (some 15) ?_ ?_ ?_; rotate_left; (focus (intro wS hSw; (have q0 := (hSw.cell (p := ⟨gV, 0, none⟩) lgV id).trans cgV0); (have q1 := (hSw.cell (p := ⟨gV, 1, none⟩) lgV id).trans cgV1); (have q2 := (hSw.cell (p := ⟨gV, 2, none⟩) lgV id).trans cgV2); (have q3 := (hSw.cell (p := ⟨gV, 3, none⟩) lgV id).trans cgV3); (have q4 := (hSw.cell (p := ⟨gV, 4, none⟩) lgV id).trans cgV4); (have q5 := (hSw.cell (p := ⟨gV, 5, none⟩) lgV id).trans cgV5); (have q6 := (hSw.cell (p := ⟨gV, 6, none⟩) lgV id).trans cgV6); (have q7 := (hSw.cell (p := ⟨gV, 7, none⟩) lgV id).trans cgV7); go_simp; try with_reducible rfl)); (try simp only [Act.put, List.setIfInBounds_toArray, List.set_cons_zero, List.set_cons_succ]))
        refine wpAnyH_ready (rs := [1]) (by kernel_rfl) (by simp) ?_
        refine AllReadyH.cons rfl (fun K hK => ?_) AllReadyH.nil
        go_simp
        go_at_call 7
        refine (show Calls _ _ _ _ _ from look_ok u sa ca pa qa sc cc pc qc cad cd HGo.out.fit _ (HT.out.low (HN.out.trans hHeld (fun _ _ h => h))) hash_ok (viewIn_low HGo.out.v hHeld)).mono ?_
        rintro e p2 ⟨fv, rfl, hO, hp⟩
        have HO1 := Lib.hid hO
        clear hO
        have hn := Fp.trans hHeld hp (fun _ _ h => h.elim)
        try replace HO1 := Lib.hid (ownsRow_low HO1.out hp)
        replace B_gV := hid_blk B_gV hp
        refine k_now hK hn ?_
        clear hK K hp hHeld
        have hHeld := hn
        clear hn
        try simp only [Act.put, List.setIfInBounds_toArray, List.set_cons_zero, List.set_cons_succ]
        refine wpAnyH_ready (rs := [3]) (by kernel_rfl) (by simp) ?_
        refine AllReadyH.cons rfl (fun K hK => ?_) AllReadyH.nil
        go_simp
        go_at_call 9
        refine (show Calls _ _ _ _ _ from doc28_ok u sa ca pa qa sc cc pc qc cad cd HGo.out.fit _ (viewIn_low HGo.out.v hHeld)).mono ?_
        rintro e p3 ⟨sa2, ca2, pa2, sc2, cc2, pc2, ad, c, cad2, cc3, rfl, h1, h2, h3, h4, h5, hp⟩
        have HD := Lib.hid (And.intro h1 (And.intro h2 (And.intro h3 (And.intro h4 h5))))
        clear h1 h2 h3 h4 h5
        have hn := Fp.trans hHeld hp (fun _ _ h => h.elim)
        try replace HO1 := Lib.hid (ownsRow_low HO1.out hp)
        replace B_gV := hid_blk B_gV hp
        refine k_now hK hn ?_
        clear hK K hp hHeld
        have hHeld := hn
        clear hn
        try simp only [Act.put, List.setIfInBounds_toArray, List.set_cons_zero, List.set_cons_succ]
        refine wpAnyH_ready (rs := [4]) (by kernel_rfl) (by simp) ?_
        refine AllReadyH.cons rfl (fun K hK => ?_) AllReadyH.nil
        go_simp
        go_at_call 8
        refine (show Calls _ _ _ _ _ from rlook_doc u sa ca pa qa sc cc pc qc cad cd wr _ HGo.out.fit HGo.out.v sa2 ca2 pa2 sc2 cc2 pc2 ad c cad2 cc3 HD.out.1 HD.out.2.1 HD.out.2.2.1 HD.out.2.2.2.1 HD.out.2.2.2.2 hHeld).mono ?_
        rintro e p4 ⟨fv2, rfl, hO, hp⟩
        have HO2 := Lib.hid hO
        clear hO HD
        have hn := Fp.trans hHeld hp (fun _ _ h => h.elim)
        try replace HO1 := Lib.hid (ownsRow_low HO1.out hp)
        replace B_gV := hid_blk B_gV hp
        refine k_now hK hn ?_
        clear hK K hp hHeld
        have hHeld := hn
        clear hn
        try simp only [Act.put, List.setIfInBounds_toArray, List.set_cons_zero, List.set_cons_succ]
        refine wpAnyH_ready (rs := [5]) (by kernel_rfl) (by simp) ?_
        refine AllReadyH.cons rfl (fun K hK => ?_) AllReadyH.nil
        go_simp
        go_at_call 6
        refine (show Calls _ _ _ _ _ from same_ok u.faults fv fv2 _ _ _ HO1.out HO2.out (Nat.le_trans (faults_le HGo.out.fit) (by omega))).mono ?_
        rintro e p5 ⟨rfl, hp⟩
        have hn := Fp.trans hHeld hp (fun _ _ h => h.elim)
        try replace HO1 := Lib.hid (ownsRow_low HO1.out hp)
        replace B_gV := hid_blk B_gV hp
        refine k_now hK hn ?_
        clear hK K hp hHeld
        have hHeld := hn
        clear hn
        try simp only [Act.put, List.setIfInBounds_toArray, List.set_cons_zero, List.set_cons_succ]
        (refine tk 6 (some 19) ?_ ?_ ?_; rotate_left; (focus (intro wS hSw; go_simp; try with_reducible rfl)); (try simp only [Act.put, List.setIfInBounds_toArray, List.set_cons_zero, List.set_cons_succ]))
        refine wpAnyH_done (by kernel_rfl) ?_ _
        clear HO1 HO2 cgV0 cgV1 cgV2 cgV3 cgV4 cgV5 cgV6 cgV7 lgV
        replace HN := hid_now HN hHeld
        have HV2 := Lib.hid (HGo.out.now hHeld)
        clear hHeld
        have cgV0 := cell_at B_gV 0 rfl
        have cgV1 := cell_at B_gV 1 rfl
        have cgV2 := cell_at B_gV 2 rfl
        have cgV3 := cell_at B_gV 3 rfl
        have cgV4 := cell_at B_gV 4 rfl
        have cgV5 := cell_at B_gV 5 rfl
        have cgV6 := cell_at B_gV 6 rfl
        have cgV7 := cell_at B_gV 7 rfl
        have lgV := hid_lt B_gV
        go_wp2_with fail
        refine (mended_ok u sa ca pa qa sc cc pc qc cad cd y HGo.out.fit HGo.out.ns HGo.out.hn p5 rhash_ok HV2.out.v gV (hid_lt B_gV) HV2.out.c HV2.out.k HV2.out.p HV2.out.q).mono ?_
        rintro e m1 ⟨u2, ca2, pa2, qa2, cc2, pc2, qc2, cad2, cd2, rfl, hf2, hv2, hx2, ⟨hns2, hS2, hO2⟩, hp⟩
        have HG2 := Lib.hid (show u2.ns ≤ 10 ∧ ∀ i, i < u2.ns → (u2.S i).e.n ≤ 4 from ⟨by rw [hns2]; exact HGo.out.ns, by rw [hns2, hS2]; exact HGo.out.hn⟩)
        have HX2 := Lib.hid hx2
        have HS9 := Lib.hid (show AtC w sa u2.ns 16 (fun i => (u2.S i).cs) from by rw [hns2, hS2]; exact HGo.out.s)
        have HH9 := Lib.hid (show ∀ i, i < u2.ns → HoldsIn w (u2.S i).e.ad (u2.S i).e.n (holdsV (u2.O i).1 (u2.O i).2.1 (u2.O i).2.2.1 (u2.O i).2.2.2 (u2.S i).e.n) from by rw [hns2, hS2, hO2]; exact HGo.out.h)
        have HF2 := Lib.hid hf2
        have HV3 := Lib.hid hv2
        replace B_gV := hid_blk B_gV hp
        replace HN := hid_now HN hp
        clear hp hf2 hx2 hv2 hns2 hS2 hO2 HV2 lgV cgV0 cgV1 cgV2 cgV3 cgV4 cgV5 cgV6 cgV7
        have cgV0 := cell_at B_gV 0 rfl
        have cgV1 := cell_at B_gV 1 rfl
        have cgV2 := cell_at B_gV 2 rfl
        have cgV3 := cell_at B_gV 3 rfl
        have cgV4 := cell_at B_gV 4 rfl
        have cgV5 := cell_at B_gV 5 rfl
        have cgV6 := cell_at B_gV 6 rfl
        have cgV7 := cell_at B_gV 7 rfl
        have zgV := froz_at B_gV
        have lgV := hid_lt B_gV
        go_upto_region 5 with fail
        clear zgV lgV cgV0 cgV1 cgV2 cgV3 cgV4 cgV5 cgV6 cgV7
        refine wp_gen (fun m2 hW => ?_)
        obtain ⟨hB, hf⟩ := setE8 hW B_gV
        clear hW
        have HN2 := Lib.hid (HN.out.trans hf (fun i hi e => by have h1 : i = gV := e; have h2 := G_gV.out; omega))
        have HGo2 := Lib.hid (show VGo gV w m2 u2 sa ca2 pa2 qa2 cad2 cd2 from ⟨HF2.out, HG2.out.1, HG2.out.2, HS9.out, HH9.out, HN2.out, HX2.out.1.fp hf (fun _ e => e), fun c hc => (HX2.out.2.1 c hc).fp hf (fun _ e => e), HX2.out.2.2.1.fp hf (fun _ e => e), HX2.out.2.2.2.fp hf (fun _ e => e)⟩)
        clear hf
        go_wp2_with fail
        go_roundg (2 - t)
        case measure => have := Hg.out; omega
        case rel => exact ⟨t + 1, u2, ca2, pa2, qa2, cc2, pc2, qc2, cad2, cd2, by omega, by omega, by go_num, hB.out, HGo2.out, HN2.out⟩
      · obtain rfl : t = 2 := by omega
        go_wp2_with fail
        refine (looked_ok _ (HT.out.low HN.out)).mono ?_
        rintro e y9 ⟨rfl, hp⟩
        replace HN := hid_now HN hp
        clear hp
        go_wp2_with fail
        go_ret
        exact ⟨rfl, HN.out⟩
  · clear HGr HV Hok HcS HcC KG
    go_wp2_with fail
    refine (looked_ok _ (HT.out.low HN.out)).mono ?_
    rintro e y9 ⟨rfl, hp⟩
    replace HN := hid_now HN hp
    clear hp
    go_wp2_with fail
    go_ret
    exact ⟨rfl, HN.out⟩
end Go.Proofs.YtcimbbllefkdlaaGreatDoor

namespace Go.Proofs.YtcimbbllefkdlaaGreatDoor
set_option linter.unusedVariables false
set_option linter.unusedSimpArgs false
open Go.RowKit Go.Lib
theorem own : ownKnob Tryz.prog.godebug = none := by kernel_rfl
theorem laidOut : laidOutB Tryz.prog = true := by kernel_rfl
/-- The list of all the rows of this seat. -/
def laid : List (String × DataW Unit) := Rows.auditLookRow.laid

/-- The plain wrap with what is listed, and the world's shape. -/
theorem returns_laid_shaped {H : Type} {enc : TypeId × Value → H} {a : Assume} {C : Checked} {os : Os} {f : FuncId} {fn : Func} {s : ChangeSpec} {conds : List PathCond} {apart fresh handsOn again : Bool} {X : World → Array Value → Prop}
    (hX : ∀ (w w' : World) (args : Array Value), w.heap = w'.heap → X w args → X w' args)
    (own : ownKnob C.prog.godebug = none) (started : os.Started) (noInit : C.prog.inits.idxOf? f = none) (hfn : C.prog.funcs[f]? = some fn)
    (witness : ∃ (w : World) (tape : Tape) (i : Input), w.os = os ∧ (w.forCall tape i).Shaped C.prog ∧ i.vars = [] ∧ Input.okWide C.prog (w.forCall tape i) .any w.heap.size f i ∧
      ((s.pre enc C.prog fn conds apart (w.forCall tape i).memory i.args ∧ X (w.forCall tape i).memory i.args) ∧ sizedMet enc C.prog fn (OpenSpec.ofChange s) apart (w.forCall tape i).memory i.args) ∧ a.holds C.prog (lone (Frame.enter C.prog f i.args .normal) [] (w.forCall tape i)))
    (contract : ∀ (W : World) (base : Nat) (args : Array Value) (ds gs : List (DataW H)) (before : List MemPlace),
      (∀ (j : Nat) t v, fn.params[j]? = some t → args[j]? = some v → Value.okWide C.prog W .any base t v) →
      DataW.Whole enc C.prog fn.params.toList s.vars apart W args.toList ds gs before →
      conds.all (PathCond.test C.prog ⟨fn.params.toList, ds, s.plain.varTypes C.prog, gs⟩) = true →
      (DataW.weightsEach C.prog (fn.params.toList ++ s.plain.varTypes C.prog) (ds ++ gs)).all (· ≤ reachBytes) = true → X W args → W.ShapedOpen C.prog →
      a.holds C.prog (lone (Frame.enter C.prog f args .normal) [] W) →
      Calls C.prog f args W fun e W' => ∃ v, e = .returned v ∧ s.post enc C.prog fn apart fresh handsOn again W args v W') :
    ReturnsInHanded a C os f .any (fun w args => (s.pre enc C.prog fn conds apart w args ∧ X w args) ∧ sizedMet enc C.prog fn (OpenSpec.ofChange s) apart w args) (s.post enc C.prog fn apart fresh handsOn again) := by
  refine returnsInHanded_of_calls own started noInit witness ?_
  intro w tape i _ hsh _ hok hpre hholds
  obtain ⟨_, _, _, fn', hfn', _, _, _, _, hval⟩ := hok
  obtain rfl : fn' = fn := Option.some.inj (hfn'.symm.trans hfn)
  obtain ⟨⟨⟨ds, gs, before, hw, hc⟩, hx⟩, hz⟩ := hpre
  have hw' := DataW.Whole.of_heap (w' := w.forCall tape i) (by rfl) hw
  refine (contract (w.forCall tape i) w.heap.size i.args ds gs before hval hw' hc (hz.weights hw) (hX _ _ _ (by rfl) hx) hsh hholds).mono fun e W' ⟨v, he, hp⟩ => ?_
  subst he
  exact ChangeSpec.post_blind hp

/-- An array of arrays of integers that reads as such a table holds it, cell for cell. -/
theorem rows_of_reads {P : Program} {w : World} {n : String} {k : IntKind} {zss : List (List Int)} {g : Nat} {t e x : TypeId} {m q : Nat}
    (hg : P.globalNamed n = some g) (hty : (P.globals[g]?).map (·.type) = some t) (ht : P.underlying t = some (.array m e)) (he : P.underlying e = some (.array q x)) (hx : P.underlying x = some (.int k)) (hcx : P.cellsOf x = 1) (hce : P.cellsOf e = q)
    (h : VarReads P w n (.agg (zss.map (tabData k)))) : ∀ i zs, zss[i]? = some zs → ∀ j z, zs[j]? = some z → w.cell? ⟨g, i * q + j, none⟩ = some (.int k z) := by
  obtain ⟨g', t', cs, fuel, p, h1, h2, h3, h4⟩ := h
  obtain rfl := Option.some.inj (hg.symm.trans h1)
  obtain rfl := Option.some.inj (hty.symm.trans h2)
  obtain ⟨xs, n1, hcs, hx1, _, hlen, hel⟩ := DataW.trod_array ht h4
  intro i zs hi j z hj
  have hxi : (xs.map (·.1))[i]? = some (tabData k zs) := by
    simp only [Prod.mk.injEq, DataW.agg.injEq] at hx1
    rw [← hx1.1, List.getElem?_map, hi]; rfl
  rw [List.getElem?_map] at hxi
  rcases hxe : xs[i]? with _ | y
  · rw [hxe] at hxi; cases hxi
  · rw [hxe] at hxi
    have hyi : i < m := by have := (List.getElem?_eq_some_iff.1 hxe).1; omega
    have h5 := hel i hyi
    rw [hxe] at h5
    have h6 : y = (tabData k zs, y.2) := by cases y; simp at hxi; simp [hxi]
    rw [h6] at h5
    have h7 := cells_of_tab he hx hcx hce h5
    rw [hce] at h7
    have h8 := congrArg (fun l : List Value => l[j]?) h7
    simp only [List.getElem?_map, hj, Option.map_some, List.getElem?_take, List.getElem?_drop] at h8
    rw [World.var?_cell h1 h3 (i * q + j)]
    split at h8
    · rw [← h8]; simp
    · cases h8

theorem tb_of {W : World} (hL : laidMetH Tryz.prog laid W) : Tb W := by
  rw [MakeChecks.laidMetH_plain _ _ _ (by kernel_rfl)] at hL
  refine ⟨?_, ?_⟩
  · have h := rows_of_reads (k := .i64) (zss := [[0, 0, 0, 0, 0, 0, 0, 0], [0, 120, 300, 0, 0, 0, 0, 0], [0, 60, 60, 0, 0, 0, 0, 0], [0, 240, 240, 7440, 240, 240, 240, 240]]) (g := 1) (t := 217) (e := 216) (x := 3) (m := 4) (q := 8) (by kernel_rfl) (by kernel_rfl) (by kernel_rfl) (by kernel_rfl) (by kernel_rfl) (by kernel_rfl) (by kernel_rfl) (Lib.laidMet.reads hL (.head _))
    intro f s hf hs
    have h1 : ∀ f, f < 4 → ∀ s, s < 8 → ∃ zs, ([[0, 0, 0, 0, 0, 0, 0, 0], [0, 120, 300, 0, 0, 0, 0, 0], [0, 60, 60, 0, 0, 0, 0, 0], [0, 240, 240, 7440, 240, 240, 240, 240]] : List (List Int))[f]? = some zs ∧ zs[s]? = some (lastN f s) := by
      intro f hf s hs
      rcases f with _ | _ | _ | _ | f <;> first | omega | (refine ⟨_, rfl, ?_⟩; rcases s with _ | _ | _ | _ | _ | _ | _ | _ | s <;> first | rfl | omega)
    obtain ⟨zs, e1, e2⟩ := h1 f hf s hs
    exact h f zs e1 s _ e2
  · obtain ⟨g', t', cs, fuel, p, h1, h2, h3, h4⟩ := Lib.laidMet.reads hL (.tail _ (.head _))
    obtain rfl := Option.some.inj ((show Tryz.prog.globalNamed "porter/tuples.words" = some 0 by kernel_rfl).symm.trans h1)
    obtain rfl := Option.some.inj ((show (Tryz.prog.globals[0]?).map (·.type) = some 196 by kernel_rfl).symm.trans h2)
    rcases Go.WideElems.open_map Tryz.underlying196 h4 with ⟨_, hx⟩ | ⟨bm, es, clock, n, rfl, hcs, hb, _, F, hx⟩
    · simp [Rows.laid_porter_tuples_words] at hx
    simp only [Prod.mk.injEq] at hx
    refine ⟨bm, _, ?_, hb, fun V hV k hk => ?_⟩
    · have := World.var?_cell h1 h3 0
      rw [Array.eq_one_of_toList hcs] at this
      simpa using this
    · have hz : (zeroValue 9).run Tryz.prog V = .ok (.string ⟨#[]⟩) V := by kernel_rfl
      have hwf : (Lit.int .u8 (k : Int)).wf = true := by simp [Lit.wf, IntKind.has, IntKind.min, IntKind.max, IntKind.signed, IntKind.bits]; omega
      have hkey := Go.Maps.keyOf_int_mk Tryz.underlying5 hwf
      have hat : ∀ zd : DataW Unit, (DataW.map ((es.toList.map (Go.WideElems.rg Tryz.prog 5 (Go.WideElems.elemAt (fun _ => ()) Tryz.prog W 0 (fun _ => true) false n 9))).foldr DataW.insert [])).atKey (.int .u8 k) zd = (if isWord k = true then .lit (.string (wordOf k)) else zd) := by
        intro zd
        rw [← hx.1]
        unfold isWord wordOf
        by_cases k1 : k = 1
        · subst k1; rfl
        · by_cases k6 : k = 6
          · subst k6; rfl
          · by_cases k17 : k = 17
            · subst k17; rfl
            · have hf : decide (k = 1 ∨ k = 6 ∨ k = 17) = false := by simp [k1, k6, k17]
              rw [hf]
              simp only [Bool.false_eq_true, if_false]
              unfold Rows.laid_porter_tuples_words
              refine WideAt.atKey_none zd (fun p hp => ?_)
              simp only [List.mem_cons, List.mem_nil_iff, or_false] at hp
              rcases hp with rfl | rfl | rfl <;> (intro e; simp only [Lit.int.injEq, true_and] at e; omega)
      have look : ∀ c, (Instr.lookup 196 (.map (some bm)) (.int .u8 k) c).run Tryz.prog V = .ok (if c then .tuple #[.string ⟨(wordOf k).toArray⟩, .bool (isWord k)] else .string ⟨(wordOf k).toArray⟩) V := by
        intro c
        rcases Go.Maps.fit_look (w := V) c (Go.Maps.int_keyed Tryz.underlying5) Tryz.underlying196 hz hV F hkey with ⟨hrun, _, hno⟩ | ⟨e0, y, _, _, hrun, hR, hy, _⟩
        · have h9 := hno .nil
          rw [hat .nil] at h9
          have hw : isWord k = false := by
            rcases hi : isWord k with _ | _
            · rfl
            · rw [hi] at h9; cases h9
          have hw2 : wordOf k = [] := by
            unfold isWord at hw
            have := of_decide_eq_false hw
            unfold wordOf
            simp only [not_or] at this
            simp [this]
          rw [hrun, hw, hw2]
        · obtain ⟨s, hv, rfl, _⟩ := Go.WideElems.elemAt_string Tryz.underlying9 hR
          have h9 := hy .nil
          rw [hat .nil] at h9
          have hw : isWord k = true := by
            rcases hi : isWord k with _ | _
            · rw [hi] at h9; cases h9
            · rfl
          rw [hw] at h9
          simp only [if_true, DataW.lit.injEq, Lit.string.injEq] at h9
          rw [hrun, hw, hv, h9]
      exact ⟨look true, look false⟩

/-- The start that the witnesses take: the heap that the door's own run leaves. -/
theorem shaped {os : Os} {args : Array Value} : ((World.doorLaid Tryz.prog 400 os).forCall (fun _ _ => 0) ⟨#[], args, []⟩).Shaped Tryz.prog :=
  World.shaped_of_RefB (by kernel_rfl) (by kernel_rfl)
theorem laid_met (os : Os) (args : Array Value) : laidMetH Tryz.prog laid ((World.doorLaid Tryz.prog 400 os).forCall (fun _ _ => 0) ⟨#[], args, []⟩).memory :=
  laidMetH_of_parts3 (fuel := 8) (laidMet_of_run' 8 (by kernel_rfl) (by kernel_rfl)) (by kernel_rfl) (by kernel_rfl)
end Go.Proofs.YtcimbbllefkdlaaGreatDoor
