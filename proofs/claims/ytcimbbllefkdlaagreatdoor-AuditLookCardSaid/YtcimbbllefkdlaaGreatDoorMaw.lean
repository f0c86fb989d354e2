/- Texts of this proof, merged: Avm. -/
import Derived.Test.YtcimbbllefkdlaaGreatDoorMav
import Derived.Test.YtcimbbllefkdlaaGreatDoorMaa
import Derived.Test.YtcimbbllefkdlaaGreatDoorMab
import Derived.Test.YtcimbbllefkdlaaGreatDoorMac
import Derived.Test.YtcimbbllefkdlaaGreatDoorMad
import Derived.Test.YtcimbbllefkdlaaGreatDoorMae
import Derived.Test.YtcimbbllefkdlaaGreatDoorMaf
import Derived.Test.YtcimbbllefkdlaaGreatDoorMag
import Derived.Test.YtcimbbllefkdlaaGreatDoorMah
import Derived.Test.YtcimbbllefkdlaaGreatDoorMai
import Derived.Test.YtcimbbllefkdlaaGreatDoorMaj
import Derived.Test.YtcimbbllefkdlaaGreatDoorMak
import Derived.Test.YtcimbbllefkdlaaGreatDoorMal
import Derived.Test.YtcimbbllefkdlaaGreatDoorMam
import Derived.Test.YtcimbbllefkdlaaGreatDoorMan
import Derived.Test.YtcimbbllefkdlaaGreatDoorMao
import Derived.Test.YtcimbbllefkdlaaGreatDoorMap
import Derived.Test.YtcimbbllefkdlaaGreatDoorMaq
import Derived.Test.YtcimbbllefkdlaaGreatDoorMar
import Derived.Test.YtcimbbllefkdlaaGreatDoorMas
import Derived.Test.YtcimbbllefkdlaaGreatDoorMat
import Derived.Test.YtcimbbllefkdlaaGreatDoorMau
namespace Go.Proofs.YtcimbbllefkdlaaGreatDoor
set_option linter.unusedVariables false
set_option linter.unusedSimpArgs false
open Go.RowKit Go.Lib Go.Sort
def s22Z : Value := .agg #[.bool false, .bool false, .bool false, .int .u8 0, .int .u32 0, .int .u16 0, .int .u32 0, .int .u16 0, .int .u8 0, .int .u32 0, .int .u16 0, .int .u32 0, .int .u16 0, .int .i64 0, .int .i64 0, .slice none 0 0, .int .i64 0, .int .u32 0]
theorem s22I : ∃ i, Tryz.prog.info? 73 = some i ∧ i.zero = some s22Z ∧ i.size = 18 ∧ i.bytes ≤ 65536 := by
  have h : ((Tryz.prog.info? 73).map fun i => (i.zero, i.size, decide (i.bytes ≤ 65536))) = some (some s22Z, 18, true) := by kernel_rfl
  rcases hi : Tryz.prog.info? 73 with _ | i
  · simp [hi] at h
  · simp [hi] at h
    exact ⟨i, rfl, h.1, h.2.1, h.2.2⟩
def l19Z : Value := .agg #[.int .i64 0, .int .u32 0, .bool false]
theorem l19I : ∃ i, Tryz.prog.info? 82 = some i ∧ i.zero = some l19Z ∧ i.size = 3 ∧ i.bytes ≤ 65536 := by
  have h : ((Tryz.prog.info? 82).map fun i => (i.zero, i.size, decide (i.bytes ≤ 65536))) = some (some l19Z, 3, true) := by kernel_rfl
  rcases hi : Tryz.prog.info? 82 with _ | i
  · simp [hi] at h
  · simp [hi] at h
    exact ⟨i, rfl, h.1, h.2.1, h.2.2⟩
def ll19Z : Value := .slice none 0 0
theorem ll19I : ∃ i, Tryz.prog.info? 80 = some i ∧ i.zero = some ll19Z ∧ i.size = 1 ∧ i.bytes ≤ 65536 := by
  have h : ((Tryz.prog.info? 80).map fun i => (i.zero, i.size, decide (i.bytes ≤ 65536))) = some (some ll19Z, 1, true) := by kernel_rfl
  rcases hi : Tryz.prog.info? 80 with _ | i
  · simp [hi] at h
  · simp [hi] at h
    exact ⟨i, rfl, h.1, h.2.1, h.2.2⟩
def p16Z : Value := .agg #[.int .u8 0, .int .u32 0, .int .u16 0, .int .u32 0, .int .u16 0, .int .i64 0, .int .i64 0]
theorem p16I : ∃ i, Tryz.prog.info? 78 = some i ∧ i.zero = some p16Z ∧ i.size = 7 ∧ i.bytes ≤ 65536 := by
  have h : ((Tryz.prog.info? 78).map fun i => (i.zero, i.size, decide (i.bytes ≤ 65536))) = some (some p16Z, 7, true) := by kernel_rfl
  rcases hi : Tryz.prog.info? 78 with _ | i
  · simp [hi] at h
  · simp [hi] at h
    exact ⟨i, rfl, h.1, h.2.1, h.2.2⟩
theorem ownsRow_low {w w' : World} {B size n : Nat} {e : TypeId} {v : Value} {xs : List Value} (h : w.ownsRow B e size v n xs) (hp : NoW w w') : w'.ownsRow B e size v n xs :=
  ownsRow_of_block h fun x e => hp.block x (World.ownsRow.lt h x e).2 id
theorem holdsIn_low {w w' : World} {ad : Option Addr} {n : Nat} {ys : List Value} (h : HoldsIn w ad n ys) (hp : NoW w w') : HoldsIn w' ad n ys := h.low hp
def flatL (v : VD) (c n : Nat) : List Value := (List.range n).flatMap fun k => (v.C c k).cs
theorem flatL_succ (v : VD) (c n : Nat) : flatL v c (n + 1) = flatL v c n ++ (v.C c n).cs := by simp [flatL, List.range_succ]
theorem flatP_succ (v : VD) (n : Nat) : ((List.range (n + 1)).flatMap fun i => (v.P i).cs) = ((List.range n).flatMap fun i => (v.P i).cs) ++ (v.P n).cs := by simp [List.range_succ]
theorem linkD_one (x : LinkD) : ∀ u ∈ x.cs, u.oneCell' = true := by
  intro u hu
  simp only [LinkD.cs, List.mem_cons, List.not_mem_nil, or_false] at hu
  rcases hu with rfl | rfl | rfl <;> rfl
theorem rowD_one (x : RowD) : ∀ u ∈ x.cs, u.oneCell' = true := by
  intro u hu
  simp only [RowD.cs, List.mem_cons, List.not_mem_nil, or_false] at hu
  rcases hu with rfl | rfl | rfl | rfl | rfl | rfl | rfl <;> rfl
theorem own_new {w : World} {B size n : Nat} {e : TypeId} {fl : Value} {xs : List Value} (h : w.ownsRow B e size fl n xs) : ∃ a c, fl = .slice a n c ∧ (0 < n → ∃ hb, a = some ⟨hb, 0, none⟩ ∧ B ≤ hb ∧ hb < w.heap.size ∧ ∀ j x, xs[j]? = some x → w.cell? ⟨hb, j, none⟩ = some x) := by
  have h0 := h
  obtain ⟨hlen, h2⟩ := h
  rcases h2 with ⟨rfl, rfl⟩ | ⟨g, cap, cur, rfl, hg, hh, hcap, hcap2, hcs, htk⟩
  · exact ⟨none, 0, rfl, fun h => absurd h (by omega)⟩
  · refine ⟨_, cap, rfl, fun _ => ⟨g, rfl, hg, (Array.getElem?_eq_some_iff.1 hh).1, fun j x hj => ?_⟩⟩
    have := World.ownsRow.cells h0 (g := g) rfl j x hj
    rw [add_eq0] at this
    exact this
theorem own_at {w : World} {B size n : Nat} {e : TypeId} {fl : Value} {el : Nat → List Value} (h : w.ownsRow B e size fl n ((List.range n).flatMap el)) (hl : ∀ i, (el i).length = size) : ∃ a c, fl = .slice a n c ∧ AtC w a n size el := by
  obtain ⟨a, c, h1, _, h2⟩ := LsAt.at' (P := fun _ => False) (ad := fun _ => none) (ys := fun _ => []) ⟨h, fun _ _ h => h.elim⟩ hl
  exact ⟨a, c, h1, h2⟩
theorem LsAt.at2 {B : Nat} {w : World} {T : TypeId} {size k c : Nat} {a : Option Addr} {el : Nat → List Value} {P : Nat → Prop} {ad : Nat → Option Addr} {ys : Nat → List Value} (h : LsAt B w T size k (.slice a k c) el P ad ys) (hl : ∀ i, (el i).length = size) : AtC w a k size el := by
  obtain ⟨a', c', e, _, h2⟩ := h.at' hl
  cases e; exact h2
theorem own_at2 {w : World} {B size n c : Nat} {e : TypeId} {a : Option Addr} {el : Nat → List Value} (h : w.ownsRow B e size (.slice a n c) n ((List.range n).flatMap el)) (hl : ∀ i, (el i).length = size) : AtC w a n size el := by
  obtain ⟨a', c', e, h2⟩ := own_at h hl
  cases e; exact h2
theorem flatMap_get {el : Nat → List Value} {size k i j : Nat} (hl : ∀ i, (el i).length = size) (hi : i < k) (hj : j < (el i).length) : ((List.range k).flatMap el)[i * size + j]? = (el i)[j]? := by
  have hsum : ∀ m, ((List.range m).flatMap el).length = m * size := by
    intro m
    induction m with
    | zero => simp
    | succ m ih => rw [List.range_succ, List.flatMap_append, List.length_append, ih]; simp [hl, Nat.succ_mul]
  obtain ⟨r, hr⟩ : ∃ r, (List.range k).flatMap el = (List.range i).flatMap el ++ (el i ++ r) := by
    obtain ⟨m, rfl⟩ : ∃ m, k = i + 1 + m := ⟨k - (i + 1), by omega⟩
    refine ⟨((List.range m).map (fun x => i + 1 + x)).flatMap el, ?_⟩
    rw [List.range_add, List.flatMap_append, List.range_succ, List.flatMap_append]
    simp
  rw [hr, List.getElem?_append_right (by rw [hsum i]; omega), hsum i, Nat.add_sub_cancel_left, List.getElem?_append_left hj]
set_option maxHeartbeats 8000000 in
set_option maxRecDepth 100000 in
theorem doc28_ok (v : VD) (sa ca pa qa : Option Addr) (sc cc pc qc : Nat) (cad : Nat → Option Addr) (cc' : Nat → Nat) (hf : v.Fit) (w : World) (hv : ViewIn w v sa ca pa qa cad cc') :
    Calls Tryz.prog 9 #[.agg #[.int .i64 v.now, .slice sa v.ns sc, .slice ca v.nc cc, .slice pa v.np pc, .slice qa v.nq qc, .int .i64 v.free, .int .i64 v.live, .int .i64 v.gone]] w fun e w' => ∃ (sa2 ca2 pa2 : Option Addr) (sc2 cc2 pc2 : Nat) (ad : Nat → Option Addr) (c : Nat → Nat) (cad2 : Nat → Option Addr) (cc3 : Nat → Nat), e = .returned (.agg #[.int .i64 v.now, .slice sa2 v.ns sc2, .slice ca2 v.nc cc2, .slice pa2 v.np pc2, .slice qa v.nq qc, .int .i64 v.free, .int .i64 v.live, .int .i64 v.gone]) ∧
      AtC w' sa2 v.ns 18 (fun i => slot18 (v.S i) (ad i) (c i)) ∧ (∀ i, i < v.ns → HoldsIn w' (ad i) (v.S i).e.n (holdsV (v.O i).1 (v.O i).2.1 (v.O i).2.2.1 (v.O i).2.2.2 (v.S i).e.n)) ∧ AtC w' ca2 v.nc 1 (fun k => [.slice (cad2 k) (v.cn k) (cc3 k)]) ∧ (∀ k, k < v.nc → AtC w' (cad2 k) (v.cn k) 3 (fun m => (v.C k m).cs)) ∧ AtC w' pa2 v.np 7 (fun i => (v.P i).cs) ∧ NoW w w' := by
  have HS := Lib.hid hv.s
  have HHo := Lib.hid hv.h
  have HC := Lib.hid hv.c
  have HK := Lib.hid hv.k
  have HP := Lib.hid hv.p
  have Hhn := Lib.hid hf.hn
  have Hcn := Lib.hid hf.cn
  have hns := hf.ns
  have hnc := hf.nc
  have hnp := hf.np
  clear hv hf
  go_enter Tryz.func9, Tryz.ntmps9
  have HN := Lib.hid (Fp.refl (fun _ => False) w)
  go_upto_region 1 with fail
  refine wp_gen (fun z1 hW => ?_)
  obtain ⟨hB, hB2, hp⟩ := new2_blk hW
  clear hW
  have hGe := hid_ge HN
  replace HN := hid_now HN hp
  obtain ⟨gR, hgR⟩ : ∃ gR, gR = w.heap.size + 1 := ⟨_, rfl⟩
  obtain ⟨gV, hgV⟩ : ∃ gV, gV = w.heap.size := ⟨_, rfl⟩
  have G_gV := Lib.hid (show w.heap.size ≤ gV by omega)
  have G_gR := Lib.hid (show w.heap.size ≤ gR by omega)
  have n_gV_gR : ¬ gV = gR := by omega
  have n_gR_gV : ¬ gR = gV := by omega
  rw [← hgR] at hB2 ⊢
  rw [← hgV] at hB ⊢
  have B_gV := hB
  have B_gR := hB2
  clear hB hB2 hgV hgR hGe hp
  have cgV0 := cell_at B_gV 0 rfl
  have cgV4 := cell_at B_gV 4 rfl
  have cgV5 := cell_at B_gV 5 rfl
  have cgV6 := cell_at B_gV 6 rfl
  have cgV7 := cell_at B_gV 7 rfl
  have zgV := froz_at B_gV
  have lgV := hid_lt B_gV
  go_upto_region 2 with fail
  clear cgV0 cgV4 cgV5 cgV6 cgV7 zgV lgV
  refine wp_gen (fun z2 hW => ?_)
  have l_gV := hid_lt B_gV
  have l_gR := hid_lt B_gR
  have hp := new_now hW
  have hB := new_blk hW
  clear hW
  have hGe := hid_ge HN
  replace HN := hid_now HN hp
  replace B_gV := hid_blk B_gV hp
  replace B_gR := hid_blk B_gR hp
  obtain ⟨gW, hgW⟩ : ∃ gW, gW = z1.heap.size := ⟨_, rfl⟩
  rw [← hgW] at hB hGe l_gV l_gR ⊢
  have B_gW := hB
  have G_gW := Lib.hid hGe
  have n_gV_gW : ¬ gV = gW := by omega
  have n_gR_gW : ¬ gR = gW := by omega
  have n_gW_gV : ¬ gW = gV := by omega
  have n_gW_gR : ¬ gW = gR := by omega
  have HVW := Lib.hid l_gV
  have HRW := Lib.hid l_gR
  clear hB hGe hgW hp l_gV l_gR
  obtain ⟨B, hB⟩ : ∃ B, B = z2.heap.size := ⟨_, rfl⟩
  have hBW : gW < B := by rw [hB]; exact hid_lt B_gW
  have HBW := Lib.hid hBW
  have HB0 := Lib.hid (Nat.le_of_eq hB)
  clear hBW hB
  go_wp2_with fail
  go_loopg [4] (v.ns + 1) (fun gg iv wx => ∃ (i : Nat) (fv : Value) (ad : Nat → Option Addr) (c : Nat → Nat), i ≤ v.ns ∧ gg = v.ns + 1 - i ∧ iv = .int .i64 (i : Int) ∧ wx.heap[gV]? = some (.cells #[.int .i64 v.now, .slice sa v.ns sc, .slice ca v.nc cc, .slice pa v.np pc, .slice qa v.nq qc, .int .i64 v.free, .int .i64 v.live, .int .i64 v.gone] 27 (0, 0)) ∧ wx.heap[gR]? = some (.cells #[.int .i64 0, .slice none 0 0, .slice none 0 0, .slice none 0 0, .slice none 0 0, .int .i64 0, .int .i64 0, .int .i64 0] 39 (0, 0)) ∧ wx.heap[gW]? = some (.cells #[.int .i64 v.now, fv, .slice none 0 0, .slice none 0 0, .slice qa v.nq qc, .int .i64 v.free, .int .i64 v.live, .int .i64 v.gone] 39 (0, 0)) ∧ LsAt B wx 73 18 i fv (fun i => slot18 (v.S i) (ad i) (c i)) (fun i => 0 < (v.S i).e.n) ad (fun i => (holdsV (v.O i).1 (v.O i).2.1 (v.O i).2.2.1 (v.O i).2.2.2 (v.S i).e.n)) ∧ B ≤ wx.heap.size ∧ NoW w wx)
  case atStart => exact ⟨0, _, fun _ => none, fun _ => 0, by omega, by omega, rfl, B_gV.out, B_gR.out, B_gW.out, LsAt.nil _ _ _ _ _ _ _ _, HB0.out, HN.out⟩
  case round =>
    clear B_gV B_gR B_gW HN HB0
    obtain ⟨i, fv, ad, c, hi, hg, rfl, hbV, hbR, hbW, hsa, hBs, hN⟩ := hrel
    have Hg := Lib.hid hg
    have B_gV := Lib.hid hbV
    have B_gR := Lib.hid hbR
    have B_gW := Lib.hid hbW
    have HSA := Lib.hid hsa
    have HBs := Lib.hid hBs
    have HN := Lib.hid hN
    clear hg hbV hbR hbW hsa hBs hN
    by_cases hlt1 : i < v.ns
    · skip
      obtain ⟨b1, o1, hs1, lb0, xc⟩ := HS.out i hlt1
      subst hs1
      have x0 : wr.cell? ⟨b1, o1 + i * 16, none⟩ = some (.bool (v.S i).used) := (HN.out.cell (p := ⟨b1, o1 + i * 16, none⟩) lb0 id).trans (xc 0 _ rfl)
      have x1 : wr.cell? ⟨b1, o1 + i * 16 + 1, none⟩ = some (.bool (v.S i).put) := (HN.out.cell (p := ⟨b1, o1 + i * 16 + 1, none⟩) lb0 id).trans (xc 1 _ rfl)
      have x2 : wr.cell? ⟨b1, o1 + i * 16 + 2, none⟩ = some (.bool (v.S i).dead) := (HN.out.cell (p := ⟨b1, o1 + i * 16 + 2, none⟩) lb0 id).trans (xc 2 _ rfl)
      have x3 : wr.cell? ⟨b1, o1 + i * 16 + 3, none⟩ = some (.int .u8 (v.S i).e.r) := (HN.out.cell (p := ⟨b1, o1 + i * 16 + 3, none⟩) lb0 id).trans (xc 3 _ rfl)
      have x4 : wr.cell? ⟨b1, o1 + i * 16 + 4, none⟩ = some (.int .u32 (v.S i).e.a) := (HN.out.cell (p := ⟨b1, o1 + i * 16 + 4, none⟩) lb0 id).trans (xc 4 _ rfl)
      have x5 : wr.cell? ⟨b1, o1 + i * 16 + 5, none⟩ = some (.int .u16 (v.S i).e.p) := (HN.out.cell (p := ⟨b1, o1 + i * 16 + 5, none⟩) lb0 id).trans (xc 5 _ rfl)
      have x6 : wr.cell? ⟨b1, o1 + i * 16 + 6, none⟩ = some (.int .u32 (v.S i).e.b) := (HN.out.cell (p := ⟨b1, o1 + i * 16 + 6, none⟩) lb0 id).trans (xc 6 _ rfl)
      have x7 : wr.cell? ⟨b1, o1 + i * 16 + 7, none⟩ = some (.int .u16 (v.S i).e.q) := (HN.out.cell (p := ⟨b1, o1 + i * 16 + 7, none⟩) lb0 id).trans (xc 7 _ rfl)
      have x8 : wr.cell? ⟨b1, o1 + i * 16 + 8, none⟩ = some (.int .u8 (v.S i).e.r2) := (HN.out.cell (p := ⟨b1, o1 + i * 16 + 8, none⟩) lb0 id).trans (xc 8 _ rfl)
      have x9 : wr.cell? ⟨b1, o1 + i * 16 + 9, none⟩ = some (.int .u32 (v.S i).e.a2) := (HN.out.cell (p := ⟨b1, o1 + i * 16 + 9, none⟩) lb0 id).trans (xc 9 _ rfl)
      have x10 : wr.cell? ⟨b1, o1 + i * 16 + 10, none⟩ = some (.int .u16 (v.S i).e.p2) := (HN.out.cell (p := ⟨b1, o1 + i * 16 + 10, none⟩) lb0 id).trans (xc 10 _ rfl)
      have x11 : wr.cell? ⟨b1, o1 + i * 16 + 11, none⟩ = some (.int .u32 (v.S i).e.b2) := (HN.out.cell (p := ⟨b1, o1 + i * 16 + 11, none⟩) lb0 id).trans (xc 11 _ rfl)
      have x12 : wr.cell? ⟨b1, o1 + i * 16 + 12, none⟩ = some (.int .u16 (v.S i).e.q2) := (HN.out.cell (p := ⟨b1, o1 + i * 16 + 12, none⟩) lb0 id).trans (xc 12 _ rfl)
      have x13 : wr.cell? ⟨b1, o1 + i * 16 + 13, none⟩ = some (.int .i64 (v.S i).e.st) := (HN.out.cell (p := ⟨b1, o1 + i * 16 + 13, none⟩) lb0 id).trans (xc 13 _ rfl)
      have x14 : wr.cell? ⟨b1, o1 + i * 16 + 14, none⟩ = some (.int .i64 (v.S i).e.dl) := (HN.out.cell (p := ⟨b1, o1 + i * 16 + 14, none⟩) lb0 id).trans (xc 14 _ rfl)
      have x15 : wr.cell? ⟨b1, o1 + i * 16 + 15, none⟩ = some (.slice (v.S i).e.ad (v.S i).e.n (v.S i).e.c) := (HN.out.cell (p := ⟨b1, o1 + i * 16 + 15, none⟩) lb0 id).trans (xc 15 _ rfl)
      have lb1 := cell_lt x0
      have pk1 : decide ((i : Int) < (v.ns : Int)) = true := decide_eq_true (by omega)
      have ck1 : (i : Int) < (v.ns : Int) := by omega
      clear xc
      have nV : ¬ gW ≤ gV := by have h1 := HVW.out; omega
      have nb : ¬ gW ≤ b1 := by have h1 := G_gW.out; omega
      have cV1 := cell_at B_gV 1 rfl
      have lV := hid_lt B_gV
      go_upto_region 5 with fail
      refine wp_region_held_drew (S := fun wx => Fp (fun b => gW ≤ b) wr wx) (by kernel_rfl) (Fp.drew (Fp.refl _ _)) (fun hHeld0 => ?_)
      refine any_eq hHeld0 (fun y1 hW hHeld => ?_)
      clear hHeld0
      replace B_gV := hid_blk B_gV (noW_drew hW)
      replace B_gR := hid_blk B_gR (noW_drew hW)
      replace B_gW := hid_blk B_gW (noW_drew hW)
      replace HSA := Lib.hid (HSA.out.low (noW_drew hW))
      try replace HNew := Lib.hid (fun h0 => (HNew.out h0).low (noW_drew hW))
      clear hW
      (refine tk 0 (some 27) ?_ ?_ ?_; rotate_left; (focus (intro wS hSw; go_simp; try with_reducible rfl)); (try simp only [Act.put, List.setIfInBounds_toArray, List.set_cons_zero, List.set_cons_succ]))
      (refine tk 2 (some 29) ?_ ?_ ?_; rotate_left; (focus (intro wS hSw; go_simp; try with_reducible rfl)); (try simp only [Act.put, List.setIfInBounds_toArray, List.set_cons_zero, List.set_cons_succ]))
      (refine tk 3 (some 30) ?_ ?_ ?_; rotate_left; (focus (intro wS hSw; (have qV := (hSw.cell (p := ⟨gV, 1, none⟩) lV nV).trans cV1); go_simp; try with_reducible rfl)); (try simp only [Act.put, List.setIfInBounds_toArray, List.set_cons_zero, List.set_cons_succ]))
      (refine tk 4 (some 31) ?_ ?_ ?_; rotate_left; (focus (intro wS hSw; go_simp; try with_reducible rfl)); (try simp only [Act.put, List.setIfInBounds_toArray, List.set_cons_zero, List.set_cons_succ]))
      (refine tk 5 (some 32) ?_ ?_ ?_; rotate_left; (focus (intro wS hSw; go_simp; try with_reducible rfl)); (try simp only [Act.put, List.setIfInBounds_toArray, List.set_cons_zero, List.set_cons_succ]))
      (refine tk 6 (some 33) ?_ ?_ ?_; rotate_left; (focus (intro wS hSw; go_simp; try with_reducible rfl)); (try simp only [Act.put, List.setIfInBounds_toArray, List.set_cons_zero, List.set_cons_succ]))
      (refine tk 7 (some 34) ?_ ?_ ?_; rotate_left; (focus (intro wS hSw; (have p0 := (hSw.cell (p := ⟨b1, o1 + i * 16, none⟩) lb1 nb).trans x0); go_simp; try with_reducible rfl)); (try simp only [Act.put, List.setIfInBounds_toArray, List.set_cons_zero, List.set_cons_succ]))
      (refine tk 8 (some 35) ?_ ?_ ?_; rotate_left; (focus (intro wS hSw; go_simp; try with_reducible rfl)); (try simp only [Act.put, List.setIfInBounds_toArray, List.set_cons_zero, List.set_cons_succ]))
      (refine tk 9 (some 36) ?_ ?_ ?_; rotate_left; (focus (intro wS hSw; (have qV := (hSw.cell (p := ⟨gV, 1, none⟩) lV nV).trans cV1); go_simp; try with_reducible rfl)); (try simp only [Act.put, List.setIfInBounds_toArray, List.set_cons_zero, List.set_cons_succ]))
      (refine tk 10 (some 37) ?_ ?_ ?_; rotate_left; (focus (intro wS hSw; go_simp; try with_reducible rfl)); (try simp only [Act.put, List.setIfInBounds_toArray, List.set_cons_zero, List.set_cons_succ]))
      (refine tk 11 (some 38) ?_ ?_ ?_; rotate_left; (focus (intro wS hSw; go_simp; try with_reducible rfl)); (try simp only [Act.put, List.setIfInBounds_toArray, List.set_cons_zero, List.set_cons_succ]))
      (refine tk 12 (some 39) ?_ ?_ ?_; rotate_left; (focus (intro wS hSw; go_simp; try with_reducible rfl)); (try simp only [Act.put, List.setIfInBounds_toArray, List.set_cons_zero, List.set_cons_succ]))
      (refine tk 13 (some 40) ?_ ?_ ?_; rotate_left; (focus (intro wS hSw; (have p1 := (hSw.cell (p := ⟨b1, o1 + i * 16 + 1, none⟩) lb1 nb).trans x1); go_simp; try with_reducible rfl)); (try simp only [Act.put, List.setIfInBounds_toArray, List.set_cons_zero, List.set_cons_succ]))
      (refine tk 14 (some 41) ?_ ?_ ?_; rotate_left; (focus (intro wS hSw; go_simp; try with_reducible rfl)); (try simp only [Act.put, List.setIfInBounds_toArray, List.set_cons_zero, List.set_cons_succ]))
      (refine tk 15 (some 42) ?_ ?_ ?_; rotate_left; (focus (intro wS hSw; (have qV := (hSw.cell (p := ⟨gV, 1, none⟩) lV nV).trans cV1); go_simp; try with_reducible rfl)); (try simp only [Act.put, List.setIfInBounds_toArray, List.set_cons_zero, List.set_cons_succ]))
      (refine tk 16 (some 43) ?_ ?_ ?_; rotate_left; (focus (intro wS hSw; go_simp; try with_reducible rfl)); (try simp only [Act.put, List.setIfInBounds_toArray, List.set_cons_zero, List.set_cons_succ]))
      (refine tk 17 (some 44) ?_ ?_ ?_; rotate_left; (focus (intro wS hSw; go_simp; try with_reducible rfl)); (try simp only [Act.put, List.setIfInBounds_toArray, List.set_cons_zero, List.set_cons_succ]))
      (refine tk 18 (some 45) ?_ ?_ ?_; rotate_left; (focus (intro wS hSw; go_simp; try with_reducible rfl)); (try simp only [Act.put, List.setIfInBounds_toArray, List.set_cons_zero, List.set_cons_succ]))
      (refine tk 19 (some 46) ?_ ?_ ?_; rotate_left; (focus (intro wS hSw; (have p2 := (hSw.cell (p := ⟨b1, o1 + i * 16 + 2, none⟩) lb1 nb).trans x2); go_simp; try with_reducible rfl)); (try simp only [Act.put, List.setIfInBounds_toArray, List.set_cons_zero, List.set_cons_succ]))
      (refine tk 20 (some 47) ?_ ?_ ?_; rotate_left; (focus (intro wS hSw; go_simp; try with_reducible rfl)); (try simp only [Act.put, List.setIfInBounds_toArray, List.set_cons_zero, List.set_cons_succ]))
      (refine tk 21 (some 48) ?_ ?_ ?_; rotate_left; (focus (intro wS hSw; (have qV := (hSw.cell (p := ⟨gV, 1, none⟩) lV nV).trans cV1); go_simp; try with_reducible rfl)); (try simp only [Act.put, List.setIfInBounds_toArray, List.set_cons_zero, List.set_cons_succ]))
      (refine tk 22 (some 49) ?_ ?_ ?_; rotate_left; (focus (intro wS hSw; go_simp; try with_reducible rfl)); (try simp only [Act.put, List.setIfInBounds_toArray, List.set_cons_zero, List.set_cons_succ]))
      (refine tk 23 (some 50) ?_ ?_ ?_; rotate_left; (focus (intro wS hSw; go_simp; try with_reducible rfl)); (try simp only [Act.put, List.setIfInBounds_toArray, List.set_cons_zero, List.set_cons_succ]))
      (refine tk 24 (some 51) ?_ ?_ ?_; rotate_left; (focus (intro wS hSw; go_simp; try with_reducible rfl)); (try simp only [Act.put, List.setIfInBounds_toArray, List.set_cons_zero, List.set_cons_succ]))
      (refine tk 25 (some 52) ?_ ?_ ?_; rotate_left; (focus (intro wS hSw; (have p3 := (hSw.cell (p := ⟨b1, o1 + i * 16 + 3, none⟩) lb1 nb).trans x3); (have p4 := (hSw.cell (p := ⟨b1, o1 + i * 16 + 4, none⟩) lb1 nb).trans x4); (have p5 := (hSw.cell (p := ⟨b1, o1 + i * 16 + 5, none⟩) lb1 nb).trans x5); (have p6 := (hSw.cell (p := ⟨b1, o1 + i * 16 + 6, none⟩) lb1 nb).trans x6); (have p7 := (hSw.cell (p := ⟨b1, o1 + i * 16 + 7, none⟩) lb1 nb).trans x7); (have p8 := (hSw.cell (p := ⟨b1, o1 + i * 16 + 8, none⟩) lb1 nb).trans x8); (have p9 := (hSw.cell (p := ⟨b1, o1 + i * 16 + 9, none⟩) lb1 nb).trans x9); (have p10 := (hSw.cell (p := ⟨b1, o1 + i * 16 + 10, none⟩) lb1 nb).trans x10); (have p11 := (hSw.cell (p := ⟨b1, o1 + i * 16 + 11, none⟩) lb1 nb).trans x11); (have p12 := (hSw.cell (p := ⟨b1, o1 + i * 16 + 12, none⟩) lb1 nb).trans x12); (have p13 := (hSw.cell (p := ⟨b1, o1 + i * 16 + 13, none⟩) lb1 nb).trans x13); (have p14 := (hSw.cell (p := ⟨b1, o1 + i * 16 + 14, none⟩) lb1 nb).trans x14); (have p15 := (hSw.cell (p := ⟨b1, o1 + i * 16 + 15, none⟩) lb1 nb).trans x15); go_simp; try with_reducible rfl)); (try simp only [Act.put, List.setIfInBounds_toArray, List.set_cons_zero, List.set_cons_succ]))
      refine wpAnyH_ready (rs := [1, 26]) (by kernel_rfl) (by simp) ?_
      refine AllReadyH.cons rfl (fun K hK => ?_) (AllReadyH.cons rfl (fun K hK => ?_) AllReadyH.nil)
      · have cW1 := cell_at B_gW 1 rfl
        go_simp
        refine k_now hK hHeld ?_
        clear hK K cW1
        try simp only [Act.put, List.setIfInBounds_toArray, List.set_cons_zero, List.set_cons_succ]
        refine wpAnyH_ready (rs := [26]) (by kernel_rfl) (by simp) ?_
        refine AllReadyH.cons rfl (fun K hK => ?_) AllReadyH.nil
        go_simp
        go_at_call 26
        refine (show Calls _ _ _ _ _ from doc_new (v.S i).e.r (v.S i).e.a (v.S i).e.p (v.S i).e.b (v.S i).e.q (v.S i).e.r2 (v.S i).e.a2 (v.S i).e.p2 (v.S i).e.b2 (v.S i).e.q2 (v.S i).e.st (v.S i).e.dl (v.S i).e.ad (v.S i).e.n (v.S i).e.c (v.O i).1 (v.O i).2.1 (v.O i).2.2.1 (v.O i).2.2.2 (Hhn.out i) _ (holdsIn_low (HHo.out i hlt1) (HN.out.trans hHeld (fun k hk h => by have h1 : gW ≤ k := h; have h2 := G_gW.out; omega)))).mono ?_
        rintro e y3 ⟨o', c', rfl, _, hnw, hp⟩
        have HNew : Hid (0 < (v.S i).e.n → NewAt B y3 fv o' (holdsV (v.O i).1 (v.O i).2.1 (v.O i).2.2.1 (v.O i).2.2.2 (v.S i).e.n)) := Lib.hid (fun h0 => by obtain ⟨hb, e1, hge, hh⟩ := hnw h0; exact ⟨hb, e1, Nat.le_trans HBs.out (Nat.le_trans hHeld.size hge), fun e2 => by have h9 := (HSA.out.lt e2).2; omega, hh.lt, fun j x hj => by have := hh.cell j x hj; simpa using this⟩)
        clear hnw
        have hn := Fp.trans hHeld hp (fun _ _ h => h.elim)
        replace HSA := Lib.hid (HSA.out.low hp)
        try replace HNew := Lib.hid (fun h0 => (HNew.out h0).low hp)
        replace B_gV := hid_blk B_gV hp
        replace B_gR := hid_blk B_gR hp
        replace B_gW := hid_blk B_gW hp
        refine k_now hK hn ?_
        clear hK K hp hHeld
        have hHeld := hn
        clear hn
        try simp only [Act.put, List.setIfInBounds_toArray, List.set_cons_zero, List.set_cons_succ]
        (refine tk 27 (some 54) ?_ ?_ ?_; rotate_left; (focus (intro wS hSw; go_simp; try with_reducible rfl)); (try simp only [Act.put, List.setIfInBounds_toArray, List.set_cons_zero, List.set_cons_succ]))
        refine wpAnyH_ready (rs := [28]) (by kernel_rfl) (by simp) ?_
        refine AllReadyH.cons rfl (fun K hK => ?_) AllReadyH.nil
        go_simp
        refine k_gen hK (fun y4 hW => ?_)
        have l2gV := hid_lt B_gV
        have l2gR := hid_lt B_gR
        have l2gW := hid_lt B_gW
        have hp := new_now hW
        have hB := new_blk hW
        have hGe := Fp.size hHeld
        clear hW
        refine ⟨Fp.trans hHeld hp (fun _ _ h => h.elim), ?_⟩
        replace hHeld := Fp.trans hHeld hp (fun _ _ h => h.elim)
        clear hK K
        try simp only [Act.put, List.setIfInBounds_toArray, List.set_cons_zero, List.set_cons_succ]
        obtain ⟨gS, hgS⟩ : ∃ gS, gS = y3.heap.size := ⟨_, rfl⟩
        have R_gS := Lib.hid (Nat.le_trans hGe (Nat.le_of_eq hgS.symm))
        have n_gV_gS : ¬ gV = gS := by omega
        have n_gS_gV : ¬ gS = gV := by omega
        clear l2gV
        replace B_gV := hid_blk B_gV hp
        have n_gR_gS : ¬ gR = gS := by omega
        have n_gS_gR : ¬ gS = gR := by omega
        clear l2gR
        replace B_gR := hid_blk B_gR hp
        have n_gW_gS : ¬ gW = gS := by omega
        have n_gS_gW : ¬ gS = gW := by omega
        clear l2gW
        replace B_gW := hid_blk B_gW hp
        replace HSA := Lib.hid (HSA.out.low hp)
        try replace HNew := Lib.hid (fun h0 => (HNew.out h0).low hp)
        rw [← hgS] at hB ⊢
        have B_gS := hB
        clear hB hgS hp hGe
        refine wpAnyH_ready (rs := [29]) (by kernel_rfl) (by simp) ?_
        refine AllReadyH.cons rfl (fun K hK => ?_) AllReadyH.nil
        rw [if_pos (by kernel_rfl)]
        refine op_append1w _ _ 35 rfl B 73 s22Z 18 Tryz.underlying35 s22I rfl (by decide) fv i _ rfl HSA.out.row gS (slot18 (v.S i) o' c') rfl rfl B_gS.out (slot18_one _ _ _) (by omega) (Nat.le_trans HBs.out hHeld.size) ?_
        intro v2 y5 hown hgr hne hwh
        obtain ⟨gv, cv, rfl⟩ : ∃ gv cv, v2 = .slice (some ⟨gv, 0, none⟩) (i + 1) cv := by rcases hown.2 with ⟨h, _⟩ | ⟨g, cap, cur, e, _⟩; (exact absurd h hne); exact ⟨g, cap, e⟩
        have hf := grown_fp hgr
        have hn := Fp.trans hHeld hf (fun k hk e => by have h1 := (HSA.out.lt e).1; have h2 := HBW.out; show gW ≤ k; omega)
        have hVl := HVW.out
        have hRl := HRW.out
        have hBl := HBW.out
        replace B_gV := hid_blkS B_gV hf (HSA.out.ne (by omega))
        replace B_gR := hid_blkS B_gR hf (HSA.out.ne (by omega))
        replace B_gW := hid_blkS B_gW hf (HSA.out.ne (by omega))
        replace HSA := Lib.hid (HSA.out.push (el' := fun k => slot18 (v.S k) (upd ad i o' k) (upd c i c' k)) (ad' := upd ad i o') (fun k hk => by simp only [upd_lt _ _ hk]) (by simp only [upd_same]) (fun k hk => upd_lt _ _ hk) (fun h => by rw [upd_same]; exact HNew.out h) hown hgr hwh)
        refine k_now hK hn ?_
        clear hK K hHeld hf hown hgr hne hwh HNew B_gS hVl hRl hBl
        have hHeld := hn
        clear hn
        try simp only [Act.put, List.setIfInBounds_toArray, List.set_cons_zero, List.set_cons_succ]
        (refine tk 30 (some 57) ?_ ?_ ?_; rotate_left; (focus (intro wS hSw; go_simp; try with_reducible rfl)); (try simp only [Act.put, List.setIfInBounds_toArray, List.set_cons_zero, List.set_cons_succ]))
        refine wpAnyH_ready (rs := [31]) (by kernel_rfl) (by simp) ?_
        refine AllReadyH.cons rfl (fun K hK => ?_) AllReadyH.nil
        have cW1 := cell_at B_gW 1 rfl
        have zW := froz_at B_gW
        have lW := hid_lt B_gW
        go_simp
        refine k_gen hK (fun y6 hW => ?_)
        have hB := set_blk hW B_gW
        have hf := set_now hW
        clear hW zW lW cW1
        simp only [List.setIfInBounds_toArray, List.set_cons_zero, List.set_cons_succ] at hB
        have hn := Fp.trans hHeld hf (fun k hk e => by have h1 : k = gW := e; show gW ≤ k; omega)
        refine ⟨hn, ?_⟩
        clear hK K hHeld
        have hHeld := hn
        clear hn
        try simp only [Act.put, List.setIfInBounds_toArray, List.set_cons_zero, List.set_cons_succ]
        replace B_gV := hid_blkS B_gV hf n_gV_gW
        replace B_gR := hid_blkS B_gR hf n_gR_gW
        replace B_gW := hB
        replace HSA := Lib.hid (HSA.out.fp hf (fun b hb e => by have h1 : b = gW := e; have h2 := HBW.out; omega))
        clear hB hf
        refine wpAnyH_done (by kernel_rfl) ?_ _
        have hBs2 := Nat.le_trans HBs.out hHeld.size
        replace HN := Lib.hid (HN.out.trans hHeld (fun k hk h => by have h1 : gW ≤ k := h; have h2 := G_gW.out; omega))
        clear hHeld cV1 lV lb1 x0 x1 x2 x3 x4 x5 x6 x7 x8 x9 x10 x11 x12 x13 x14 x15
        go_wp2_with fail
        go_roundg (v.ns - i)
        case measure => have := Hg.out; omega
        case rel => exact ⟨i + 1, _, _, _, by omega, by omega, by go_num, B_gV.out, B_gR.out, B_gW.out, HSA.out, hBs2, HN.out⟩
      · go_simp
        go_at_call 26
        refine (show Calls _ _ _ _ _ from doc_new (v.S i).e.r (v.S i).e.a (v.S i).e.p (v.S i).e.b (v.S i).e.q (v.S i).e.r2 (v.S i).e.a2 (v.S i).e.p2 (v.S i).e.b2 (v.S i).e.q2 (v.S i).e.st (v.S i).e.dl (v.S i).e.ad (v.S i).e.n (v.S i).e.c (v.O i).1 (v.O i).2.1 (v.O i).2.2.1 (v.O i).2.2.2 (Hhn.out i) _ (holdsIn_low (HHo.out i hlt1) (HN.out.trans hHeld (fun k hk h => by have h1 : gW ≤ k := h; have h2 := G_gW.out; omega)))).mono ?_
        rintro e y7 ⟨o', c', rfl, _, hnw, hp⟩
        have HNew : Hid (0 < (v.S i).e.n → NewAt B y7 fv o' (holdsV (v.O i).1 (v.O i).2.1 (v.O i).2.2.1 (v.O i).2.2.2 (v.S i).e.n)) := Lib.hid (fun h0 => by obtain ⟨hb, e1, hge, hh⟩ := hnw h0; exact ⟨hb, e1, Nat.le_trans HBs.out (Nat.le_trans hHeld.size hge), fun e2 => by have h9 := (HSA.out.lt e2).2; omega, hh.lt, fun j x hj => by have := hh.cell j x hj; simpa using this⟩)
        clear hnw
        have hn := Fp.trans hHeld hp (fun _ _ h => h.elim)
        replace HSA := Lib.hid (HSA.out.low hp)
        try replace HNew := Lib.hid (fun h0 => (HNew.out h0).low hp)
        replace B_gV := hid_blk B_gV hp
        replace B_gR := hid_blk B_gR hp
        replace B_gW := hid_blk B_gW hp
        refine k_now hK hn ?_
        clear hK K hp hHeld
        have hHeld := hn
        clear hn
        try simp only [Act.put, List.setIfInBounds_toArray, List.set_cons_zero, List.set_cons_succ]
        (refine tk 27 (some 54) ?_ ?_ ?_; rotate_left; (focus (intro wS hSw; go_simp; try with_reducible rfl)); (try simp only [Act.put, List.setIfInBounds_toArray, List.set_cons_zero, List.set_cons_succ]))
        refine wpAnyH_ready (rs := [1, 28]) (by kernel_rfl) (by simp) ?_
        refine AllReadyH.cons rfl (fun K hK => ?_) (AllReadyH.cons rfl (fun K hK => ?_) AllReadyH.nil)
        · have cW1 := cell_at B_gW 1 rfl
          go_simp
          refine k_now hK hHeld ?_
          clear hK K cW1
          try simp only [Act.put, List.setIfInBounds_toArray, List.set_cons_zero, List.set_cons_succ]
          refine wpAnyH_ready (rs := [28]) (by kernel_rfl) (by simp) ?_
          refine AllReadyH.cons rfl (fun K hK => ?_) AllReadyH.nil
          go_simp
          refine k_gen hK (fun y9 hW => ?_)
          have l2gV := hid_lt B_gV
          have l2gR := hid_lt B_gR
          have l2gW := hid_lt B_gW
          have hp := new_now hW
          have hB := new_blk hW
          have hGe := Fp.size hHeld
          clear hW
          refine ⟨Fp.trans hHeld hp (fun _ _ h => h.elim), ?_⟩
          replace hHeld := Fp.trans hHeld hp (fun _ _ h => h.elim)
          clear hK K
          try simp only [Act.put, List.setIfInBounds_toArray, List.set_cons_zero, List.set_cons_succ]
          obtain ⟨gS, hgS⟩ : ∃ gS, gS = y7.heap.size := ⟨_, rfl⟩
          have R_gS := Lib.hid (Nat.le_trans hGe (Nat.le_of_eq hgS.symm))
          have n_gV_gS : ¬ gV = gS := by omega
          have n_gS_gV : ¬ gS = gV := by omega
          clear l2gV
          replace B_gV := hid_blk B_gV hp
          have n_gR_gS : ¬ gR = gS := by omega
          have n_gS_gR : ¬ gS = gR := by omega
          clear l2gR
          replace B_gR := hid_blk B_gR hp
          have n_gW_gS : ¬ gW = gS := by omega
          have n_gS_gW : ¬ gS = gW := by omega
          clear l2gW
          replace B_gW := hid_blk B_gW hp
          replace HSA := Lib.hid (HSA.out.low hp)
          try replace HNew := Lib.hid (fun h0 => (HNew.out h0).low hp)
          rw [← hgS] at hB ⊢
          have B_gS := hB
          clear hB hgS hp hGe
          refine wpAnyH_ready (rs := [29]) (by kernel_rfl) (by simp) ?_
          refine AllReadyH.cons rfl (fun K hK => ?_) AllReadyH.nil
          rw [if_pos (by kernel_rfl)]
          refine op_append1w _ _ 35 rfl B 73 s22Z 18 Tryz.underlying35 s22I rfl (by decide) fv i _ rfl HSA.out.row gS (slot18 (v.S i) o' c') rfl rfl B_gS.out (slot18_one _ _ _) (by omega) (Nat.le_trans HBs.out hHeld.size) ?_
          intro v2 y10 hown hgr hne hwh
          obtain ⟨gv, cv, rfl⟩ : ∃ gv cv, v2 = .slice (some ⟨gv, 0, none⟩) (i + 1) cv := by rcases hown.2 with ⟨h, _⟩ | ⟨g, cap, cur, e, _⟩; (exact absurd h hne); exact ⟨g, cap, e⟩
          have hf := grown_fp hgr
          have hn := Fp.trans hHeld hf (fun k hk e => by have h1 := (HSA.out.lt e).1; have h2 := HBW.out; show gW ≤ k; omega)
          have hVl := HVW.out
          have hRl := HRW.out
          have hBl := HBW.out
          replace B_gV := hid_blkS B_gV hf (HSA.out.ne (by omega))
          replace B_gR := hid_blkS B_gR hf (HSA.out.ne (by omega))
          replace B_gW := hid_blkS B_gW hf (HSA.out.ne (by omega))
          replace HSA := Lib.hid (HSA.out.push (el' := fun k => slot18 (v.S k) (upd ad i o' k) (upd c i c' k)) (ad' := upd ad i o') (fun k hk => by simp only [upd_lt _ _ hk]) (by simp only [upd_same]) (fun k hk => upd_lt _ _ hk) (fun h => by rw [upd_same]; exact HNew.out h) hown hgr hwh)
          refine k_now hK hn ?_
          clear hK K hHeld hf hown hgr hne hwh HNew B_gS hVl hRl hBl
          have hHeld := hn
          clear hn
          try simp only [Act.put, List.setIfInBounds_toArray, List.set_cons_zero, List.set_cons_succ]
          (refine tk 30 (some 57) ?_ ?_ ?_; rotate_left; (focus (intro wS hSw; go_simp; try with_reducible rfl)); (try simp only [Act.put, List.setIfInBounds_toArray, List.set_cons_zero, List.set_cons_succ]))
          refine wpAnyH_ready (rs := [31]) (by kernel_rfl) (by simp) ?_
          refine AllReadyH.cons rfl (fun K hK => ?_) AllReadyH.nil
          have cW1 := cell_at B_gW 1 rfl
          have zW := froz_at B_gW
          have lW := hid_lt B_gW
          go_simp
          refine k_gen hK (fun y11 hW => ?_)
          have hB := set_blk hW B_gW
          have hf := set_now hW
          clear hW zW lW cW1
          simp only [List.setIfInBounds_toArray, List.set_cons_zero, List.set_cons_succ] at hB
          have hn := Fp.trans hHeld hf (fun k hk e => by have h1 : k = gW := e; show gW ≤ k; omega)
          refine ⟨hn, ?_⟩
          clear hK K hHeld
          have hHeld := hn
          clear hn
          try simp only [Act.put, List.setIfInBounds_toArray, List.set_cons_zero, List.set_cons_succ]
          replace B_gV := hid_blkS B_gV hf n_gV_gW
          replace B_gR := hid_blkS B_gR hf n_gR_gW
          replace B_gW := hB
          replace HSA := Lib.hid (HSA.out.fp hf (fun b hb e => by have h1 : b = gW := e; have h2 := HBW.out; omega))
          clear hB hf
          refine wpAnyH_done (by kernel_rfl) ?_ _
          have hBs2 := Nat.le_trans HBs.out hHeld.size
          replace HN := Lib.hid (HN.out.trans hHeld (fun k hk h => by have h1 : gW ≤ k := h; have h2 := G_gW.out; omega))
          clear hHeld cV1 lV lb1 x0 x1 x2 x3 x4 x5 x6 x7 x8 x9 x10 x11 x12 x13 x14 x15
          go_wp2_with fail
          go_roundg (v.ns - i)
          case measure => have := Hg.out; omega
          case rel => exact ⟨i + 1, _, _, _, by omega, by omega, by go_num, B_gV.out, B_gR.out, B_gW.out, HSA.out, hBs2, HN.out⟩
        · go_simp
          refine k_gen hK (fun y12 hW => ?_)
          have l2gV := hid_lt B_gV
          have l2gR := hid_lt B_gR
          have l2gW := hid_lt B_gW
          have hp := new_now hW
          have hB := new_blk hW
          have hGe := Fp.size hHeld
          clear hW
          refine ⟨Fp.trans hHeld hp (fun _ _ h => h.elim), ?_⟩
          replace hHeld := Fp.trans hHeld hp (fun _ _ h => h.elim)
          clear hK K
          try simp only [Act.put, List.setIfInBounds_toArray, List.set_cons_zero, List.set_cons_succ]
          obtain ⟨gS, hgS⟩ : ∃ gS, gS = y7.heap.size := ⟨_, rfl⟩
          have R_gS := Lib.hid (Nat.le_trans hGe (Nat.le_of_eq hgS.symm))
          have n_gV_gS : ¬ gV = gS := by omega
          have n_gS_gV : ¬ gS = gV := by omega
          clear l2gV
          replace B_gV := hid_blk B_gV hp
          have n_gR_gS : ¬ gR = gS := by omega
          have n_gS_gR : ¬ gS = gR := by omega
          clear l2gR
          replace B_gR := hid_blk B_gR hp
          have n_gW_gS : ¬ gW = gS := by omega
          have n_gS_gW : ¬ gS = gW := by omega
          clear l2gW
          replace B_gW := hid_blk B_gW hp
          replace HSA := Lib.hid (HSA.out.low hp)
          try replace HNew := Lib.hid (fun h0 => (HNew.out h0).low hp)
          rw [← hgS] at hB ⊢
          have B_gS := hB
          clear hB hgS hp hGe
          refine wpAnyH_ready (rs := [1]) (by kernel_rfl) (by simp) ?_
          refine AllReadyH.cons rfl (fun K hK => ?_) AllReadyH.nil
          have cW1 := cell_at B_gW 1 rfl
          go_simp
          refine k_now hK hHeld ?_
          clear hK K cW1
          try simp only [Act.put, List.setIfInBounds_toArray, List.set_cons_zero, List.set_cons_succ]
          refine wpAnyH_ready (rs := [29]) (by kernel_rfl) (by simp) ?_
          refine AllReadyH.cons rfl (fun K hK => ?_) AllReadyH.nil
          rw [if_pos (by kernel_rfl)]
          refine op_append1w _ _ 35 rfl B 73 s22Z 18 Tryz.underlying35 s22I rfl (by decide) fv i _ rfl HSA.out.row gS (slot18 (v.S i) o' c') rfl rfl B_gS.out (slot18_one _ _ _) (by omega) (Nat.le_trans HBs.out hHeld.size) ?_
          intro v2 y14 hown hgr hne hwh
          obtain ⟨gv, cv, rfl⟩ : ∃ gv cv, v2 = .slice (some ⟨gv, 0, none⟩) (i + 1) cv := by rcases hown.2 with ⟨h, _⟩ | ⟨g, cap, cur, e, _⟩; (exact absurd h hne); exact ⟨g, cap, e⟩
          have hf := grown_fp hgr
          have hn := Fp.trans hHeld hf (fun k hk e => by have h1 := (HSA.out.lt e).1; have h2 := HBW.out; show gW ≤ k; omega)
          have hVl := HVW.out
          have hRl := HRW.out
          have hBl := HBW.out
          replace B_gV := hid_blkS B_gV hf (HSA.out.ne (by omega))
          replace B_gR := hid_blkS B_gR hf (HSA.out.ne (by omega))
          replace B_gW := hid_blkS B_gW hf (HSA.out.ne (by omega))
          replace HSA := Lib.hid (HSA.out.push (el' := fun k => slot18 (v.S k) (upd ad i o' k) (upd c i c' k)) (ad' := upd ad i o') (fun k hk => by simp only [upd_lt _ _ hk]) (by simp only [upd_same]) (fun k hk => upd_lt _ _ hk) (fun h => by rw [upd_same]; exact HNew.out h) hown hgr hwh)
          refine k_now hK hn ?_
          clear hK K hHeld hf hown hgr hne hwh HNew B_gS hVl hRl hBl
          have hHeld := hn
          clear hn
          try simp only [Act.put, List.setIfInBounds_toArray, List.set_cons_zero, List.set_cons_succ]
          (refine tk 30 (some 57) ?_ ?_ ?_; rotate_left; (focus (intro wS hSw; go_simp; try with_reducible rfl)); (try simp only [Act.put, List.setIfInBounds_toArray, List.set_cons_zero, List.set_cons_succ]))
          refine wpAnyH_ready (rs := [31]) (by kernel_rfl) (by simp) ?_
          refine AllReadyH.cons rfl (fun K hK => ?_) AllReadyH.nil
          have cW1 := cell_at B_gW 1 rfl
          have zW := froz_at B_gW
          have lW := hid_lt B_gW
          go_simp
          refine k_gen hK (fun y15 hW => ?_)
          have hB := set_blk hW B_gW
          have hf := set_now hW
          clear hW zW lW cW1
          simp only [List.setIfInBounds_toArray, List.set_cons_zero, List.set_cons_succ] at hB
          have hn := Fp.trans hHeld hf (fun k hk e => by have h1 : k = gW := e; show gW ≤ k; omega)
          refine ⟨hn, ?_⟩
          clear hK K hHeld
          have hHeld := hn
          clear hn
          try simp only [Act.put, List.setIfInBounds_toArray, List.set_cons_zero, List.set_cons_succ]
          replace B_gV := hid_blkS B_gV hf n_gV_gW
          replace B_gR := hid_blkS B_gR hf n_gR_gW
          replace B_gW := hB
          replace HSA := Lib.hid (HSA.out.fp hf (fun b hb e => by have h1 : b = gW := e; have h2 := HBW.out; omega))
          clear hB hf
          refine wpAnyH_done (by kernel_rfl) ?_ _
          have hBs2 := Nat.le_trans HBs.out hHeld.size
          replace HN := Lib.hid (HN.out.trans hHeld (fun k hk h => by have h1 : gW ≤ k := h; have h2 := G_gW.out; omega))
          clear hHeld cV1 lV lb1 x0 x1 x2 x3 x4 x5 x6 x7 x8 x9 x10 x11 x12 x13 x14 x15
          go_wp2_with fail
          go_roundg (v.ns - i)
          case measure => have := Hg.out; omega
          case rel => exact ⟨i + 1, _, _, _, by omega, by omega, by go_num, B_gV.out, B_gR.out, B_gW.out, HSA.out, hBs2, HN.out⟩
    · obtain rfl : i = v.ns := by omega
      have pk : decide ((v.ns : Int) < (v.ns : Int)) = false := decide_eq_false (by omega)
      have cV1 := cell_at B_gV 1 rfl
      have lV := hid_lt B_gV
      obtain ⟨wA, hwA⟩ : ∃ x, x = wr := ⟨_, rfl⟩
      subst wr
      go_wp2_with fail
      clear cV1 lV pk
      have HBA := Lib.hid HBs.out
      obtain ⟨B2, hB2⟩ : ∃ x, x = wA.heap.size := ⟨_, rfl⟩
      have HB2 := Lib.hid hB2
      have HBW2 := Lib.hid (show gW < B2 by rw [hB2]; exact hid_lt B_gW)
      clear hB2 Hg hlt1 hi
      go_loopg [5] (v.nc + 1) (fun gg kv wx => ∃ (k : Nat) (fc : Value) (cad2 : Nat → Option Addr) (cc2 : Nat → Nat), k ≤ v.nc ∧ gg = v.nc + 1 - k ∧ kv = .int .i64 (k : Int) ∧ wx.heap[gV]? = some (.cells #[.int .i64 v.now, .slice sa v.ns sc, .slice ca v.nc cc, .slice pa v.np pc, .slice qa v.nq qc, .int .i64 v.free, .int .i64 v.live, .int .i64 v.gone] 27 (0, 0)) ∧ wx.heap[gR]? = some (.cells #[.int .i64 0, .slice none 0 0, .slice none 0 0, .slice none 0 0, .slice none 0 0, .int .i64 0, .int .i64 0, .int .i64 0] 39 (0, 0)) ∧ wx.heap[gW]? = some (.cells #[.int .i64 v.now, fv, fc, .slice none 0 0, .slice qa v.nq qc, .int .i64 v.free, .int .i64 v.live, .int .i64 v.gone] 39 (0, 0)) ∧ LsAt B2 wx 80 1 k fc (fun k => [.slice (cad2 k) (v.cn k) (cc2 k)]) (fun k => 0 < v.cn k) cad2 (fun k => flatL v k (v.cn k)) ∧ B2 ≤ wx.heap.size ∧ Fp (fun b => b = gW) wA wx)
      case atStart => exact ⟨0, _, fun _ => none, fun _ => 0, by omega, by omega, rfl, B_gV.out, B_gR.out, B_gW.out, LsAt.nil _ _ _ _ _ _ _ _, Nat.le_of_eq HB2.out, Fp.refl _ _⟩
      case round =>
        clear B_gV B_gR B_gW
        obtain ⟨k, fc, cad2, cc2, hk, hg, rfl, hbV, hbR, hbW, hla, hBs2, hA⟩ := hrel
        have Hg := Lib.hid hg
        have B_gV := Lib.hid hbV
        have B_gR := Lib.hid hbR
        have B_gW := Lib.hid hbW
        have HLA := Lib.hid hla
        have HBs2 := Lib.hid hBs2
        have HA := Lib.hid hA
        have HNX := Lib.hid (HN.out.trans hA (fun i hi e => by have h1 : i = gW := e; have h2 := G_gW.out; omega))
        clear hg hbV hbR hbW hla hBs2 hA
        obtain ⟨wB, hwB⟩ : ∃ x, x = wr := ⟨_, rfl⟩
        subst wr
        have cV2 := cell_at B_gV 2 rfl
        have lV := hid_lt B_gV
        by_cases hlt2 : k < v.nc
        · have ck2 : (k : Int) < (v.nc : Int) := by omega
          have pk2 : decide ((k : Int) < (v.nc : Int)) = true := decide_eq_true ck2
          obtain ⟨b2, o2, hs2, lb2, xc⟩ := HC.out k hlt2
          subst hs2
          have x0 : wB.cell? ⟨b2, o2 + k, none⟩ = some (.slice (cad k) (v.cn k) (cc' k)) := ((HNX.out).cell (p := ⟨b2, o2 + k, none⟩) lb2 id).trans (by have := xc 0 _ rfl; simpa using this)
          clear xc
          have X0 := Lib.hid x0
          have LB2 := Lib.hid (cell_lt x0)
          dsimp only at LB2
          clear lb2
          go_wp2_with fail
          clear x0 cV2 lV
          go_loopg [7, 6] (v.cn k + 1) (fun gg mv lv wx => ∃ (m : Nat) (fl : Value), m ≤ v.cn k ∧ gg = v.cn k + 1 - m ∧ mv = .int .i64 (m : Int) ∧ fl = lv ∧ wx.ownsRow wB.heap.size 82 3 fl m (flatL v k m) ∧ NoW wB wx)
          case atStart => exact ⟨0, _, by omega, by omega, rfl, rfl, World.ownsRow_nil _ _ _ 3, Fp.refl _ _⟩
          case round =>
            obtain ⟨m, fl, hm, hg, rfl, rfl, hO, hX⟩ := hrel
            have Hg2 := Lib.hid hg
            have HO := Lib.hid hO
            have HX := Lib.hid hX
            clear hg hO hX
            have B_V := hid_blk B_gV HX.out
            have cV2 := cell_at B_V 2 rfl
            have lV := hid_lt B_V
            have x0 := (HX.out.cell (p := ⟨b2, o2 + k, none⟩) LB2.out id).trans X0.out
            have lb2 := cell_lt x0
            have hcl := Hcn.out k
            by_cases hlt3 : m < v.cn k
            · have ck3 : (m : Int) < (v.cn k : Int) := by omega
              have pk3 : decide ((m : Int) < (v.cn k : Int)) = true := decide_eq_true ck3
              obtain ⟨b3, o3, hs3, lb3, yc⟩ := (HK.out k hlt2) m hlt3
              rw [hs3] at x0
              have y0 : wr.cell? ⟨b3, o3 + m * 3, none⟩ = some (.int .i64 (v.C k m).slot) := ((HNX.out.trans HX.out (fun _ _ h => h)).cell (p := ⟨b3, o3 + m * 3, none⟩) lb3 id).trans (yc 0 _ rfl)
              have y1 : wr.cell? ⟨b3, o3 + m * 3 + 1, none⟩ = some (.int .u32 (v.C k m).gen) := ((HNX.out.trans HX.out (fun _ _ h => h)).cell (p := ⟨b3, o3 + m * 3 + 1, none⟩) lb3 id).trans (yc 1 _ rfl)
              have y2 : wr.cell? ⟨b3, o3 + m * 3 + 2, none⟩ = some (.bool (v.C k m).back) := ((HNX.out.trans HX.out (fun _ _ h => h)).cell (p := ⟨b3, o3 + m * 3 + 2, none⟩) lb3 id).trans (yc 2 _ rfl)
              have lb4 := cell_lt y0
              clear yc lb3
              go_wp2_with (at_builtin; go_must (refine wp_append1 rfl _ _ 80 rfl wB.heap.size 82 l19Z 3 Tryz.underlying80 l19I rfl (by decide) fl m (flatL v k m) rfl (ownsRow_low HO.out ((Fp.refl (fun _ => False) wr).alloc _)) wr.heap.size [.int .i64 (v.C k m).slot, .int .u32 ((v.C k m).gen : Nat), .bool (v.C k m).back] rfl rfl (heap_alloc_new wr _) (linkD_one (v.C k m)) (by omega) (Nat.le_trans HX.out.size (by simp)) ?_))
              intro v' w' hown hgr _ _
              have hf : NoW wB w' := (HX.out.trans ((Fp.refl (fun _ => False) wr).alloc (.cells #[.int .i64 (v.C k m).slot, .int .u32 ((v.C k m).gen : Nat), .bool (v.C k m).back] 82)) (fun _ _ h => h)).grown hgr (fun x e => Or.inl (World.ownsRow.lt HO.out x e).1)
              have HO2 := Lib.hid hown
              have HX2 := Lib.hid hf
              clear hown hgr hf x0 cV2 lV lb2 lb4 y0 y1 y2
              go_wp2_with fail
              go_roundg (v.cn k - m)
              case measure => have := Hg2.out; omega
              case rel => exact ⟨m + 1, v', by omega, by omega, by go_num, rfl, by rw [flatL_succ]; exact HO2.out, HX2.out⟩
            · obtain rfl : m = v.cn k := by omega
              have pk3 : decide ((v.cn k : Int) < (v.cn k : Int)) = false := decide_eq_false (by omega)
              obtain ⟨fa, fcap, rfl, hnew⟩ := own_new HO.out
              have hnew2 : 0 < v.cn k → NewAt B2 wr fc fa (flatL v k (v.cn k)) := fun h0 => by obtain ⟨hb, e1, h1, h2, h3⟩ := hnew h0; exact ⟨hb, e1, Nat.le_trans HBs2.out h1, fun e2 => by have h9 := (HLA.out.lt e2).2; omega, h2, h3⟩
              have HNew := Lib.hid hnew2
              have HLB := Lib.hid (HLA.out.low HX.out)
              replace B_gV := hid_blk B_gV HX.out
              replace B_gR := hid_blk B_gR HX.out
              replace B_gW := hid_blk B_gW HX.out
              have cW2 := cell_at B_gW 2 rfl
              have zW := froz_at B_gW
              have lW := hid_lt B_gW
              clear hnew hnew2
              go_wp2_with (at_builtin; go_must (refine wp_append1 rfl _ _ 36 rfl B2 80 ll19Z 1 Tryz.underlying36 ll19I rfl (by decide) fc k ((List.range k).flatMap (fun k => [.slice (cad2 k) (v.cn k) (cc2 k)])) rfl (ownsRow_low HLB.out.row ((Fp.refl (fun _ => False) wr).alloc _)) wr.heap.size [.slice fa (v.cn k) fcap] rfl rfl (heap_alloc_new wr _) (by simp [Value.oneCell']) (by omega) (Nat.le_trans HBs2.out (Nat.le_trans HX.out.size (by simp))) ?_))
              intro v' w' hown hgr hne hwh
              obtain ⟨gv, cv, rfl⟩ : ∃ gv cv, v' = .slice (some ⟨gv, 0, none⟩) (k + 1) cv := by rcases hown.2 with ⟨h, _⟩ | ⟨g, cap, cur, e, _⟩; (exact absurd h hne); exact ⟨g, cap, e⟩
              have hal : NoW wr (wr.alloc (.cells #[.slice fa (v.cn k) fcap] 80)) := (Fp.refl _ _).alloc _
              have HLC := HLB.out.low hal
              have hnn := fun h0 => (HNew.out h0).low hal
              have HLD := Lib.hid (HLC.push (el' := fun j => [.slice (upd cad2 k fa j) (v.cn j) (upd cc2 k fcap j)]) (ad' := upd cad2 k fa) (fun j hj => by simp only [upd_lt _ _ hj]) (by simp only [upd_same]) (fun j hj => upd_lt _ _ hj) (fun h => by rw [upd_same]; exact hnn h) hown hgr (by first | exact hwh | (simp only [World.size_alloc]; exact hwh)))
              have hf := grown_fp hgr
              replace B_gV := hid_blkS (hid_blk B_gV hal) hf (HLC.ne (by have h1 := HBW2.out; have h2 := HVW.out; have h3 := HRW.out; omega))
              replace B_gR := hid_blkS (hid_blk B_gR hal) hf (HLC.ne (by have h1 := HBW2.out; have h2 := HVW.out; have h3 := HRW.out; omega))
              replace B_gW := hid_blkS (hid_blk B_gW hal) hf (HLC.ne (by have h1 := HBW2.out; have h2 := HVW.out; have h3 := HRW.out; omega))
              have HA2 := Lib.hid (((HA.out.trans HX.out (fun _ _ h => h.elim)).trans hal (fun _ _ h => h.elim)).trans hf (fun i hi e => absurd e (HLC.ne (by have h3 := HB2.out; omega))))
              have hw2 := hf.size
              have hw3 := hal.size
              have HBs3 := Lib.hid (show B2 ≤ w'.heap.size from by have h1 := HBs2.out; have h2 := HX.out.size; omega)
              clear hown hgr hne hwh hal HLC hnn hf hw2 hw3 HNew cW2 zW lW cV2 lV x0 lb2 B_V
              have cW2 := cell_at B_gW 2 rfl
              have zW := froz_at B_gW
              have lW := hid_lt B_gW
              go_wp2_with fail
              clear cW2 zW lW
              have hB := set_blk (W := w'.setCell ⟨gW, 2, none⟩ (.slice (some ⟨gv, 0, none⟩) (k + 1) cv)) rfl B_gW
              simp only [List.setIfInBounds_toArray, List.set_cons_zero, List.set_cons_succ] at hB
              have hfs := set_now (W := w'.setCell ⟨gW, 2, none⟩ (.slice (some ⟨gv, 0, none⟩) (k + 1) cv)) rfl
              replace B_gV := hid_blkS B_gV hfs n_gV_gW
              replace B_gR := hid_blkS B_gR hfs n_gR_gW
              have HLE := Lib.hid (HLD.out.fp hfs (fun b hb e => by have h1 : b = gW := e; have h2 := HBW2.out; omega))
              have HA3 := Lib.hid (HA2.out.trans hfs (fun i hi e => e))
              have HBs4 := Lib.hid (Nat.le_trans HBs3.out hfs.size)
              clear hfs
              go_roundg (v.nc - k)
              case measure => have := Hg.out; omega
              case rel => exact ⟨k + 1, _, _, _, by omega, by omega, by go_num, B_gV.out, B_gR.out, hB.out, HLE.out, HBs4.out, HA3.out⟩
        · obtain rfl : k = v.nc := by omega
          have pk2 : decide ((v.nc : Int) < (v.nc : Int)) = false := decide_eq_false (by omega)
          have HSB := Lib.hid (HSA.out.fp HA.out (fun b hb e => by have h1 : b = gW := e; have h2 := HBW.out; omega))
          go_wp2_with fail
          clear cV2 lV pk2 Hg hlt2 hk HA HSA
          obtain ⟨B3, hB3⟩ : ∃ x, x = wB.heap.size := ⟨_, rfl⟩
          have HB3 := Lib.hid hB3
          have HBW3 := Lib.hid (show gW < B3 by rw [hB3]; exact hid_lt B_gW)
          clear hB3
          go_loopg [8] (v.np + 1) (fun gg kv wx => ∃ (j : Nat) (fp : Value), j ≤ v.np ∧ gg = v.np + 1 - j ∧ kv = .int .i64 (j : Int) ∧ wx.heap[gV]? = some (.cells #[.int .i64 v.now, .slice sa v.ns sc, .slice ca v.nc cc, .slice pa v.np pc, .slice qa v.nq qc, .int .i64 v.free, .int .i64 v.live, .int .i64 v.gone] 27 (0, 0)) ∧ wx.heap[gR]? = some (.cells #[.int .i64 0, .slice none 0 0, .slice none 0 0, .slice none 0 0, .slice none 0 0, .int .i64 0, .int .i64 0, .int .i64 0] 39 (0, 0)) ∧ wx.heap[gW]? = some (.cells #[.int .i64 v.now, fv, fc, fp, .slice qa v.nq qc, .int .i64 v.free, .int .i64 v.live, .int .i64 v.gone] 39 (0, 0)) ∧ wx.ownsRow B3 78 7 fp j ((List.range j).flatMap fun i => (v.P i).cs) ∧ B3 ≤ wx.heap.size ∧ Fp (fun b => b = gW) wB wx)
          case atStart => exact ⟨0, _, by omega, by omega, rfl, B_gV.out, B_gR.out, B_gW.out, World.ownsRow_nil _ _ _ 7, Nat.le_of_eq HB3.out, Fp.refl _ _⟩
          case round =>
            clear B_gV B_gR B_gW
            obtain ⟨j, fp, hj, hg, rfl, hbV, hbR, hbW, hO, hBs3, hA⟩ := hrel
            have Hg := Lib.hid hg
            have B_gV := Lib.hid hbV
            have B_gR := Lib.hid hbR
            have B_gW := Lib.hid hbW
            have HO := Lib.hid hO
            have HBs3 := Lib.hid hBs3
            have HA := Lib.hid hA
            have HNY := Lib.hid (HNX.out.trans hA (fun i hi e => by have h1 : i = gW := e; have h2 := G_gW.out; omega))
            clear hg hbV hbR hbW hO hBs3 hA
            have cV3 := cell_at B_gV 3 rfl
            have lV := hid_lt B_gV
            by_cases hlt4 : j < v.np
            · have ck4 : (j : Int) < (v.np : Int) := by omega
              have pk4 : decide ((j : Int) < (v.np : Int)) = true := decide_eq_true ck4
              obtain ⟨b4, o4, hs4, lb0, xc⟩ := HP.out j hlt4
              subst hs4
              have x0 : wr.cell? ⟨b4, o4 + j * 7, none⟩ = some (.int .u8 (v.P j).pr) := (HNY.out.cell (p := ⟨b4, o4 + j * 7, none⟩) lb0 id).trans (xc 0 _ rfl)
              have x1 : wr.cell? ⟨b4, o4 + j * 7 + 1, none⟩ = some (.int .u32 (v.P j).oa) := (HNY.out.cell (p := ⟨b4, o4 + j * 7 + 1, none⟩) lb0 id).trans (xc 1 _ rfl)
              have x2 : wr.cell? ⟨b4, o4 + j * 7 + 2, none⟩ = some (.int .u16 (v.P j).op) := (HNY.out.cell (p := ⟨b4, o4 + j * 7 + 2, none⟩) lb0 id).trans (xc 2 _ rfl)
              have x3 : wr.cell? ⟨b4, o4 + j * 7 + 3, none⟩ = some (.int .u32 (v.P j).ia) := (HNY.out.cell (p := ⟨b4, o4 + j * 7 + 3, none⟩) lb0 id).trans (xc 3 _ rfl)
              have x4 : wr.cell? ⟨b4, o4 + j * 7 + 4, none⟩ = some (.int .u16 (v.P j).ip) := (HNY.out.cell (p := ⟨b4, o4 + j * 7 + 4, none⟩) lb0 id).trans (xc 4 _ rfl)
              have x5 : wr.cell? ⟨b4, o4 + j * 7 + 5, none⟩ = some (.int .i64 (v.P j).live) := (HNY.out.cell (p := ⟨b4, o4 + j * 7 + 5, none⟩) lb0 id).trans (xc 5 _ rfl)
              have x6 : wr.cell? ⟨b4, o4 + j * 7 + 6, none⟩ = some (.int .i64 (v.P j).held) := (HNY.out.cell (p := ⟨b4, o4 + j * 7 + 6, none⟩) lb0 id).trans (xc 6 _ rfl)
              have lb4 := cell_lt x0
              clear xc
              have nV : ¬ gW ≤ gV := by have h1 := HVW.out; omega
              have nb : ¬ gW ≤ b4 := by have h1 := G_gW.out; omega
              go_upto_region 18 with fail
              have HBd := HA
              have hBW3 := HBs3.out
              refine wp_region_held_drew (S := fun wx => Fp (fun b => gW ≤ b) wr wx) (by kernel_rfl) (Fp.drew (Fp.refl _ _)) (fun hHeld0 => ?_)
              refine any_eq hHeld0 (fun p1 hW hHeld => ?_)
              clear hHeld0
              replace B_gV := hid_blk B_gV (noW_drew hW)
              replace B_gR := hid_blk B_gR (noW_drew hW)
              replace B_gW := hid_blk B_gW (noW_drew hW)
              replace HO := Lib.hid (ownsRow_low HO.out (noW_drew hW))
              replace HBd := Lib.hid (HBd.out.trans (noW_drew hW) (fun _ _ h => h.elim))
              clear hW
              (refine tk 0 (some 99) ?_ ?_ ?_; rotate_left; (focus (intro wS hSw; go_simp; try with_reducible rfl)); (try simp only [Act.put, List.setIfInBounds_toArray, List.set_cons_zero, List.set_cons_succ]))
              (refine tk 2 (some 101) ?_ ?_ ?_; rotate_left; (focus (intro wS hSw; go_simp; try with_reducible rfl)); (try simp only [Act.put, List.setIfInBounds_toArray, List.set_cons_zero, List.set_cons_succ]))
              (refine tk 3 (some 102) ?_ ?_ ?_; rotate_left; (focus (intro wS hSw; (have qV := (hSw.cell (p := ⟨gV, 3, none⟩) lV nV).trans cV3); go_simp; try with_reducible rfl)); (try simp only [Act.put, List.setIfInBounds_toArray, List.set_cons_zero, List.set_cons_succ]))
              (refine tk 4 (some 103) ?_ ?_ ?_; rotate_left; (focus (intro wS hSw; go_simp; try with_reducible rfl)); (try simp only [Act.put, List.setIfInBounds_toArray, List.set_cons_zero, List.set_cons_succ]))
              (refine tk 5 (some 104) ?_ ?_ ?_; rotate_left; (focus (intro wS hSw; go_simp; try with_reducible rfl)); (try simp only [Act.put, List.setIfInBounds_toArray, List.set_cons_zero, List.set_cons_succ]))
              (refine tk 6 (some 105) ?_ ?_ ?_; rotate_left; (focus (intro wS hSw; (have p0 := (hSw.cell (p := ⟨b4, o4 + j * 7, none⟩) lb4 nb).trans x0); (have p1 := (hSw.cell (p := ⟨b4, o4 + j * 7 + 1, none⟩) lb4 nb).trans x1); (have p2 := (hSw.cell (p := ⟨b4, o4 + j * 7 + 2, none⟩) lb4 nb).trans x2); (have p3 := (hSw.cell (p := ⟨b4, o4 + j * 7 + 3, none⟩) lb4 nb).trans x3); (have p4 := (hSw.cell (p := ⟨b4, o4 + j * 7 + 4, none⟩) lb4 nb).trans x4); (have p5 := (hSw.cell (p := ⟨b4, o4 + j * 7 + 5, none⟩) lb4 nb).trans x5); (have p6 := (hSw.cell (p := ⟨b4, o4 + j * 7 + 6, none⟩) lb4 nb).trans x6); go_simp; try with_reducible rfl)); (try simp only [Act.put, List.setIfInBounds_toArray, List.set_cons_zero, List.set_cons_succ]))
              refine wpAnyH_ready (rs := [1, 7]) (by kernel_rfl) (by simp) ?_
              refine AllReadyH.cons rfl (fun K hK => ?_) (AllReadyH.cons rfl (fun K hK => ?_) AllReadyH.nil)
              · have cW3 := cell_at B_gW 3 rfl
                go_simp
                refine k_now hK hHeld ?_
                clear hK K cW3
                try simp only [Act.put, List.setIfInBounds_toArray, List.set_cons_zero, List.set_cons_succ]
                refine wpAnyH_ready (rs := [7]) (by kernel_rfl) (by simp) ?_
                refine AllReadyH.cons rfl (fun K hK => ?_) AllReadyH.nil
                go_simp
                refine k_gen hK (fun p3 hW => ?_)
                have l2gV := hid_lt B_gV
                have l2gR := hid_lt B_gR
                have l2gW := hid_lt B_gW
                have hp := new_now hW
                have hB := new_blk hW
                have hGe := Fp.size hHeld
                clear hW
                refine ⟨Fp.trans hHeld hp (fun _ _ h => h.elim), ?_⟩
                replace hHeld := Fp.trans hHeld hp (fun _ _ h => h.elim)
                clear hK K
                try simp only [Act.put, List.setIfInBounds_toArray, List.set_cons_zero, List.set_cons_succ]
                obtain ⟨gS, hgS⟩ : ∃ gS, gS = p1.heap.size := ⟨_, rfl⟩
                have R_gS := Lib.hid (Nat.le_trans hGe (Nat.le_of_eq hgS.symm))
                have n_gV_gS : ¬ gV = gS := by omega
                have n_gS_gV : ¬ gS = gV := by omega
                clear l2gV
                replace B_gV := hid_blk B_gV hp
                have n_gR_gS : ¬ gR = gS := by omega
                have n_gS_gR : ¬ gS = gR := by omega
                clear l2gR
                replace B_gR := hid_blk B_gR hp
                have n_gW_gS : ¬ gW = gS := by omega
                have n_gS_gW : ¬ gS = gW := by omega
                clear l2gW
                replace B_gW := hid_blk B_gW hp
                replace HO := Lib.hid (ownsRow_low HO.out hp)
                replace HBd := Lib.hid (HBd.out.trans hp (fun _ _ h => h.elim))
                rw [← hgS] at hB ⊢
                have B_gS := hB
                clear hB hgS hp hGe
                refine wpAnyH_ready (rs := [8]) (by kernel_rfl) (by simp) ?_
                refine AllReadyH.cons rfl (fun K hK => ?_) AllReadyH.nil
                rw [if_pos (by kernel_rfl)]
                refine op_append1w _ _ 37 rfl B3 78 p16Z 7 Tryz.underlying37 p16I rfl (by decide) fp j _ rfl HO.out gS (v.P j).cs rfl rfl B_gS.out (rowD_one _) (by omega) (Nat.le_trans HBs3.out hHeld.size) ?_
                intro v2 p4 hown hgr hne hwh
                obtain ⟨gv, cv, rfl⟩ : ∃ gv cv, v2 = .slice (some ⟨gv, 0, none⟩) (j + 1) cv := by rcases hown.2 with ⟨h, _⟩ | ⟨g, cap, cur, e, _⟩; (exact absurd h hne); exact ⟨g, cap, e⟩
                have hf := grown_fp hgr
                have hnB : ∀ b, b < B3 → ¬ fp.ownBlock = some b := fun b hb e => by have h1 := (World.ownsRow.lt HO.out b e).1; omega
                have hn := Fp.trans hHeld hf (fun k hk e => by have h1 := (World.ownsRow.lt HO.out k e).1; have h2 := HBW3.out; show gW ≤ k; omega)
                have hbd := HBd.out
                have HBd2 := Lib.hid (hbd.trans hf (fun k hk e => absurd e (hnB k (by have h3 := HB3.out; omega))))
                have hVl := HVW.out
                have hRl := HRW.out
                have hBl := HBW3.out
                replace B_gV := hid_blkS B_gV hf (hnB _ (by omega))
                replace B_gR := hid_blkS B_gR hf (hnB _ (by omega))
                replace B_gW := hid_blkS B_gW hf (hnB _ (by omega))
                replace HO := Lib.hid hown
                refine k_now hK hn ?_
                clear hK K hHeld hf hown hgr hne hwh B_gS hVl hRl hBl hnB hbd HBd
                have HBd := HBd2
                clear HBd2
                have hHeld := hn
                clear hn
                try simp only [Act.put, List.setIfInBounds_toArray, List.set_cons_zero, List.set_cons_succ]
                (refine tk 9 (some 108) ?_ ?_ ?_; rotate_left; (focus (intro wS hSw; go_simp; try with_reducible rfl)); (try simp only [Act.put, List.setIfInBounds_toArray, List.set_cons_zero, List.set_cons_succ]))
                refine wpAnyH_ready (rs := [10]) (by kernel_rfl) (by simp) ?_
                refine AllReadyH.cons rfl (fun K hK => ?_) AllReadyH.nil
                have cW3 := cell_at B_gW 3 rfl
                have zW := froz_at B_gW
                have lW := hid_lt B_gW
                go_simp
                refine k_gen hK (fun p5 hW => ?_)
                have hB := set_blk hW B_gW
                have hf := set_now hW
                clear hW zW lW cW3
                simp only [List.setIfInBounds_toArray, List.set_cons_zero, List.set_cons_succ] at hB
                have hn := Fp.trans hHeld hf (fun k hk e => by have h1 : k = gW := e; show gW ≤ k; omega)
                refine ⟨hn, ?_⟩
                clear hK K hHeld
                have hHeld := hn
                clear hn
                try simp only [Act.put, List.setIfInBounds_toArray, List.set_cons_zero, List.set_cons_succ]
                replace B_gV := hid_blkS B_gV hf n_gV_gW
                replace B_gR := hid_blkS B_gR hf n_gR_gW
                replace B_gW := hB
                replace HO := Lib.hid (ownsRow_of_block HO.out fun x e => hf.block x (World.ownsRow.lt HO.out x e).2 (fun e2 => by have h1 : x = gW := e2; have h2 := HBW3.out; have h3 := (World.ownsRow.lt HO.out x e).1; omega))
                replace HBd := Lib.hid (HBd.out.trans hf (fun _ _ e => e))
                clear hB hf
                refine wpAnyH_done (by kernel_rfl) ?_ _
                have hBs4 := Nat.le_trans HBs3.out hHeld.size
                have HA2 := HBd
                clear hHeld cV3 lV lb4 x0 x1 x2 x3 x4 x5 x6
                go_wp2_with fail
                go_roundg (v.np - j)
                case measure => have := Hg.out; omega
                case rel => exact ⟨j + 1, _, by omega, by omega, by go_num, B_gV.out, B_gR.out, B_gW.out, by rw [flatP_succ]; exact HO.out, hBs4, HA2.out⟩
              · go_simp
                refine k_gen hK (fun p6 hW => ?_)
                have l2gV := hid_lt B_gV
                have l2gR := hid_lt B_gR
                have l2gW := hid_lt B_gW
                have hp := new_now hW
                have hB := new_blk hW
                have hGe := Fp.size hHeld
                clear hW
                refine ⟨Fp.trans hHeld hp (fun _ _ h => h.elim), ?_⟩
                replace hHeld := Fp.trans hHeld hp (fun _ _ h => h.elim)
                clear hK K
                try simp only [Act.put, List.setIfInBounds_toArray, List.set_cons_zero, List.set_cons_succ]
                obtain ⟨gS, hgS⟩ : ∃ gS, gS = p1.heap.size := ⟨_, rfl⟩
                have R_gS := Lib.hid (Nat.le_trans hGe (Nat.le_of_eq hgS.symm))
                have n_gV_gS : ¬ gV = gS := by omega
                have n_gS_gV : ¬ gS = gV := by omega
                clear l2gV
                replace B_gV := hid_blk B_gV hp
                have n_gR_gS : ¬ gR = gS := by omega
                have n_gS_gR : ¬ gS = gR := by omega
                clear l2gR
                replace B_gR := hid_blk B_gR hp
                have n_gW_gS : ¬ gW = gS := by omega
                have n_gS_gW : ¬ gS = gW := by omega
                clear l2gW
                replace B_gW := hid_blk B_gW hp
                replace HO := Lib.hid (ownsRow_low HO.out hp)
                replace HBd := Lib.hid (HBd.out.trans hp (fun _ _ h => h.elim))
                rw [← hgS] at hB ⊢
                have B_gS := hB
                clear hB hgS hp hGe
                refine wpAnyH_ready (rs := [1]) (by kernel_rfl) (by simp) ?_
                refine AllReadyH.cons rfl (fun K hK => ?_) AllReadyH.nil
                have cW3 := cell_at B_gW 3 rfl
                go_simp
                refine k_now hK hHeld ?_
                clear hK K cW3
                try simp only [Act.put, List.setIfInBounds_toArray, List.set_cons_zero, List.set_cons_succ]
                refine wpAnyH_ready (rs := [8]) (by kernel_rfl) (by simp) ?_
                refine AllReadyH.cons rfl (fun K hK => ?_) AllReadyH.nil
                rw [if_pos (by kernel_rfl)]
                refine op_append1w _ _ 37 rfl B3 78 p16Z 7 Tryz.underlying37 p16I rfl (by decide) fp j _ rfl HO.out gS (v.P j).cs rfl rfl B_gS.out (rowD_one _) (by omega) (Nat.le_trans HBs3.out hHeld.size) ?_
                intro v2 p8 hown hgr hne hwh
                obtain ⟨gv, cv, rfl⟩ : ∃ gv cv, v2 = .slice (some ⟨gv, 0, none⟩) (j + 1) cv := by rcases hown.2 with ⟨h, _⟩ | ⟨g, cap, cur, e, _⟩; (exact absurd h hne); exact ⟨g, cap, e⟩
                have hf := grown_fp hgr
                have hnB : ∀ b, b < B3 → ¬ fp.ownBlock = some b := fun b hb e => by have h1 := (World.ownsRow.lt HO.out b e).1; omega
                have hn := Fp.trans hHeld hf (fun k hk e => by have h1 := (World.ownsRow.lt HO.out k e).1; have h2 := HBW3.out; show gW ≤ k; omega)
                have hbd := HBd.out
                have HBd2 := Lib.hid (hbd.trans hf (fun k hk e => absurd e (hnB k (by have h3 := HB3.out; omega))))
                have hVl := HVW.out
                have hRl := HRW.out
                have hBl := HBW3.out
                replace B_gV := hid_blkS B_gV hf (hnB _ (by omega))
                replace B_gR := hid_blkS B_gR hf (hnB _ (by omega))
                replace B_gW := hid_blkS B_gW hf (hnB _ (by omega))
                replace HO := Lib.hid hown
                refine k_now hK hn ?_
                clear hK K hHeld hf hown hgr hne hwh B_gS hVl hRl hBl hnB hbd HBd
                have HBd := HBd2
                clear HBd2
                have hHeld := hn
                clear hn
                try simp only [Act.put, List.setIfInBounds_toArray, List.set_cons_zero, List.set_cons_succ]
                (refine tk 9 (some 108) ?_ ?_ ?_; rotate_left; (focus (intro wS hSw; go_simp; try with_reducible rfl)); (try simp only [Act.put, List.setIfInBounds_toArray, List.set_cons_zero, List.set_cons_succ]))
                refine wpAnyH_ready (rs := [10]) (by kernel_rfl) (by simp) ?_
                refine AllReadyH.cons rfl (fun K hK => ?_) AllReadyH.nil
                have cW3 := cell_at B_gW 3 rfl
                have zW := froz_at B_gW
                have lW := hid_lt B_gW
                go_simp
                refine k_gen hK (fun p9 hW => ?_)
                have hB := set_blk hW B_gW
                have hf := set_now hW
                clear hW zW lW cW3
                simp only [List.setIfInBounds_toArray, List.set_cons_zero, List.set_cons_succ] at hB
                have hn := Fp.trans hHeld hf (fun k hk e => by have h1 : k = gW := e; show gW ≤ k; omega)
                refine ⟨hn, ?_⟩
                clear hK K hHeld
                have hHeld := hn
                clear hn
                try simp only [Act.put, List.setIfInBounds_toArray, List.set_cons_zero, List.set_cons_succ]
                replace B_gV := hid_blkS B_gV hf n_gV_gW
                replace B_gR := hid_blkS B_gR hf n_gR_gW
                replace B_gW := hB
                replace HO := Lib.hid (ownsRow_of_block HO.out fun x e => hf.block x (World.ownsRow.lt HO.out x e).2 (fun e2 => by have h1 : x = gW := e2; have h2 := HBW3.out; have h3 := (World.ownsRow.lt HO.out x e).1; omega))
                replace HBd := Lib.hid (HBd.out.trans hf (fun _ _ e => e))
                clear hB hf
                refine wpAnyH_done (by kernel_rfl) ?_ _
                have hBs4 := Nat.le_trans HBs3.out hHeld.size
                have HA2 := HBd
                clear hHeld cV3 lV lb4 x0 x1 x2 x3 x4 x5 x6
                go_wp2_with fail
                go_roundg (v.np - j)
                case measure => have := Hg.out; omega
                case rel => exact ⟨j + 1, _, by omega, by omega, by go_num, B_gV.out, B_gR.out, B_gW.out, by rw [flatP_succ]; exact HO.out, hBs4, HA2.out⟩
            · obtain rfl : j = v.np := by omega
              have pk4 : decide ((v.np : Int) < (v.np : Int)) = false := decide_eq_false (by omega)
              obtain ⟨sa2, sc2, rfl, _, hat1⟩ := HSB.out.at' (fun i => slot18_len _ _ _)
              obtain ⟨ca2, cc3, rfl, _, hat2⟩ := HLA.out.at' (fun i => rfl)
              obtain ⟨pa2, pc2, rfl, hat3⟩ := own_at HO.out (fun i => rfl)
              clear hat1 hat2 hat3
              have cW0 := cell_at B_gW 0 rfl
              have cW1 := cell_at B_gW 1 rfl
              have cW2 := cell_at B_gW 2 rfl
              have cW3 := cell_at B_gW 3 rfl
              have cW4 := cell_at B_gW 4 rfl
              have cW5 := cell_at B_gW 5 rfl
              have cW6 := cell_at B_gW 6 rfl
              have cW7 := cell_at B_gW 7 rfl
              have cR0 := cell_at B_gR 0 rfl
              have cR1 := cell_at B_gR 1 rfl
              have cR2 := cell_at B_gR 2 rfl
              have cR3 := cell_at B_gR 3 rfl
              have cR4 := cell_at B_gR 4 rfl
              have cR5 := cell_at B_gR 5 rfl
              have cR6 := cell_at B_gR 6 rfl
              have cR7 := cell_at B_gR 7 rfl
              have zR := froz_at B_gR
              have lW := hid_lt B_gW
              have lR := hid_lt B_gR
              go_wp2_with fail
              refine post_gen (fun W hW => ?_)
              obtain ⟨hB, hf⟩ := setE8 hW B_gR
              clear hW cR0 cW0 cR1 cW1 cR2 cW2 cR3 cW3 cR4 cW4 cR5 cW5 cR6 cW6 cR7 cW7 zR lW lR
              have cR0 := cell_at hB 0 rfl
              have cR1 := cell_at hB 1 rfl
              have cR2 := cell_at hB 2 rfl
              have cR3 := cell_at hB 3 rfl
              have cR4 := cell_at hB 4 rfl
              have cR5 := cell_at hB 5 rfl
              have cR6 := cell_at hB 6 rfl
              have cR7 := cell_at hB 7 rfl
              have hSC := (HSB.out.fp HA.out (fun b hb e => by have h1 : b = gW := e; have h2 := HBW.out; omega)).fp hf (fun b hb e => by have h1 : b = gR := e; have h2 := HBW.out; have h3 := HRW.out; omega)
              have hLC := (HLA.out.fp HA.out (fun b hb e => by have h1 : b = gW := e; have h2 := HBW2.out; omega)).fp hf (fun b hb e => by have h1 : b = gR := e; have h2 := HBW2.out; have h3 := HRW.out; omega)
              have hO2 := ownsRow_of_block HO.out fun x e => hf.block x (World.ownsRow.lt HO.out x e).2 (fun e2 => by have h1 : x = gR := e2; have h2 := HBW3.out; have h3 := (World.ownsRow.lt HO.out x e).1; have h4 := HRW.out; omega)
              refine bodyPost_ret (v := .agg #[.int .i64 v.now, .slice sa2 v.ns sc2, .slice ca2 v.nc cc3, .slice pa2 v.np pc2, .slice qa v.nq qc, .int .i64 v.free, .int .i64 v.live, .int .i64 v.gone]) (by simp only [results, Tryz.results9]; go_simp) rfl ⟨sa2, ca2, pa2, sc2, cc3, pc2, ad, c, cad2, cc2, rfl, hSC.at2 (fun i => slot18_len _ _ _), ?_, hLC.at2 (fun i => rfl), ?_, own_at2 hO2 (fun i => rfl), ?_⟩
              · intro i hi h0
                obtain ⟨hb, e1, _, _, h3, h4⟩ := hSC.own i hi h0
                exact ⟨hb, 0, e1, holdsV_len _ _ _ _ _, fun j x hj => by have := h4 j x hj; simpa using this, holdsV_one _ _ _ _ _, h3⟩
              · intro k hk m hm
                obtain ⟨hb, e1, _, _, h3, h4⟩ := hLC.own k hk (by omega)
                exact ⟨hb, 0, e1, h3, fun j x hj => by have h5 := h4 (m * 3 + j) x ((flatMap_get (size := 3) (el := fun m => (v.C k m).cs) (fun i => rfl) hm (List.getElem?_eq_some_iff.1 hj).1).trans hj); simpa using h5⟩
              · exact HNY.out.trans hf (fun i hi e => by have h1 : i = gR := e; have h2 := G_gR.out; omega)
end Go.Proofs.YtcimbbllefkdlaaGreatDoor
