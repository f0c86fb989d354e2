/- Texts of this proof, merged: Avo. -/
import Derived.Test.YtcimbbllefkdlaaGreatDoorMbb
import Derived.Test.YtcimbbllefkdlaaGreatDoorMaa
import Derived.Test.YtcimbbllefkdlaaGreatDoorMab
import Derived.Test.YtcimbbllefkdlaaGreatDoorMac
import Derived.Test.YtcimbbllefkdlaaGreatDoorMad
import Derived.Test.YtcimbbllefkdlaaGreatDoorMae
import Derived.Test.YtcimbbllefkdlaaGreatDoorMaf
import Derived.Test.YtcimbbllefkdlaaGreatDoorMag
import Derived.Test.YtcimbbllefkdlaaGreatDoorMah
import Derived.Test.YtcimbbllefkdlaaGreatDoorMai
import Derived.Test.YtcimbbllefkdlaaGreatDoorMaj
import Derived.Test.YtcimbbllefkdlaaGreatDoorMak
import Derived.Test.YtcimbbllefkdlaaGreatDoorMal
import Derived.Test.YtcimbbllefkdlaaGreatDoorMam
import Derived.Test.YtcimbbllefkdlaaGreatDoorMan
import Derived.Test.YtcimbbllefkdlaaGreatDoorMao
import Derived.Test.YtcimbbllefkdlaaGreatDoorMap
import Derived.Test.YtcimbbllefkdlaaGreatDoorMaq
import Derived.Test.YtcimbbllefkdlaaGreatDoorMar
import Derived.Test.YtcimbbllefkdlaaGreatDoorMas
import Derived.Test.YtcimbbllefkdlaaGreatDoorMat
import Derived.Test.YtcimbbllefkdlaaGreatDoorMau
import Derived.Test.YtcimbbllefkdlaaGreatDoorMav
import Derived.Test.YtcimbbllefkdlaaGreatDoorMaw
import Derived.Test.YtcimbbllefkdlaaGreatDoorMax
import Derived.Test.YtcimbbllefkdlaaGreatDoorMay
import Derived.Test.YtcimbbllefkdlaaGreatDoorMaz
import Derived.Test.YtcimbbllefkdlaaGreatDoorMba
namespace Go.Proofs.YtcimbbllefkdlaaGreatDoor
set_option linter.unusedVariables false
set_option linter.unusedSimpArgs false
open Go.RowKit Go.Lib Go.Sort
def hndZ : Value := .agg #[.int .i64 0, .int .u32 0]
theorem hndI : ∃ i, Tryz.prog.info? 71 = some i ∧ i.zero = some hndZ ∧ i.size = 2 ∧ i.bytes ≤ 65536 := by
  have h : ((Tryz.prog.info? 71).map fun i => (i.zero, i.size, decide (i.bytes ≤ 65536))) = some (some hndZ, 2, true) := by kernel_rfl
  rcases hi : Tryz.prog.info? 71 with _ | i
  · simp [hi] at h
  · simp [hi] at h
    exact ⟨i, rfl, h.1, h.2.1, h.2.2⟩
def lnkZ : Value := .agg #[.int .i64 0, .int .u32 0, .bool false]
theorem lnkI : ∃ i, Tryz.prog.info? 83 = some i ∧ i.zero = some lnkZ ∧ i.size = 3 ∧ i.bytes ≤ 65536 := by
  have h : ((Tryz.prog.info? 83).map fun i => (i.zero, i.size, decide (i.bytes ≤ 65536))) = some (some lnkZ, 3, true) := by kernel_rfl
  rcases hi : Tryz.prog.info? 83 with _ | i
  · simp [hi] at h
  · simp [hi] at h
    exact ⟨i, rfl, h.1, h.2.1, h.2.2⟩
def prowZ : Value := .agg #[.int .u8 0, .int .u32 0, .int .u16 0, .int .u32 0, .int .u16 0, .int .i64 0, .int .i64 0]
theorem prowI : ∃ i, Tryz.prog.info? 84 = some i ∧ i.zero = some prowZ ∧ i.size = 7 ∧ i.bytes ≤ 65536 := by
  have h : ((Tryz.prog.info? 84).map fun i => (i.zero, i.size, decide (i.bytes ≤ 65536))) = some (some prowZ, 7, true) := by kernel_rfl
  rcases hi : Tryz.prog.info? 84 with _ | i
  · simp [hi] at h
  · simp [hi] at h
    exact ⟨i, rfl, h.1, h.2.1, h.2.2⟩
def lstZ : Value := .slice none 0 0
theorem lstI : ∃ i, Tryz.prog.info? 55 = some i ∧ i.zero = some lstZ ∧ i.size = 1 ∧ i.bytes ≤ 65536 := by
  have h : ((Tryz.prog.info? 55).map fun i => (i.zero, i.size, decide (i.bytes ≤ 65536))) = some (some lstZ, 1, true) := by kernel_rfl
  rcases hi : Tryz.prog.info? 55 with _ | i
  · simp [hi] at h
  · simp [hi] at h
    exact ⟨i, rfl, h.1, h.2.1, h.2.2⟩
theorem hash_nat (r a p b q n : Nat) (hn : 0 < n) : ∃ m : Nat, hashOf r a p b q (n : Int) = (m : Int) ∧ m < n := by
  refine ⟨hashL (tupBy r a p b q) % n, ?_, Nat.mod_lt _ hn⟩
  unfold hashOf
  rw [if_neg (by omega)]; rfl
theorem run_mkl (n : Nat) (hn : n ≤ 100) (W : World) : (Instr.makeSlice 23 (.int .i64 n) (.int .i64 n)).run Tryz.prog W = .ok (.slice (some ⟨W.heap.size, 0, none⟩) n n) (W.alloc (.cells (madeCells #[.slice none 0 0] n) 55)) := by
  obtain ⟨i, hi, hz, hs, hb⟩ := lstI
  have hb2 : (i.bytes : Int) * (n : Int) ≤ 281474976710656 := by
    have h := Nat.mul_le_mul hb hn
    have h' : ((i.bytes * n : Nat) : Int) ≤ 6553600 := by omega
    rw [Int.natCast_mul] at h'; omega
  have := run_makeSlice W 23 55 i lstZ Tryz.underlying23 hi hz .i64 .i64 n n (by omega) (by omega) (by rw [hs]; omega) hb2 (by omega)
  rw [hs] at this
  simpa [lstZ, Value.cells] using this
theorem own2_new {B : Nat} {w : World} {gC n : Nat} {L : Nat → Nat → LinkD} (h : w.heap[gC]? = some (.cells (madeCells #[.slice none 0 0] n) 55 (0, 0))) (hB : gC < B) : Own2 B w gC n (fun _ => 0) L (fun _ => .slice none 0 0) := by
  refine ⟨?_, fun k hk => World.ownsRow_nil _ _ _ 3, fun j k _ _ _ b e => by simp [Value.ownBlock] at e, hB⟩
  rw [h]
  congr 2
  apply Array.ext
  · simp [madeCells]
  · intro i h1 h2
    simp [madeCells, Nat.mod_one]
theorem flatR_upd (P : Nat → RowD) (m : Nat) (x : RowD) : ((List.range (m + 1)).flatMap fun k => (upd P m x k).cs) = ((List.range m).flatMap fun k => (P k).cs) ++ x.cs := by
  rw [List.range_succ, List.flatMap_append, flatMap_range_congr (g := fun k => (P k).cs) (fun i hi => by rw [upd_lt _ _ hi])]
  simp only [List.flatMap_cons, List.flatMap_nil, List.append_nil, upd_same]
def leftReg : Code → Option Nat
  | .region id _ _ => some id
  | .seq a _ => leftReg a
  | _ => none
/-- What is left of a function's code, from the statement on whose first region is n. -/
def restAt (n : Nat) : Code → Option Code
  | .seq a b => if leftReg (.seq a b) = some n then some (.seq a b) else restAt n b
  | _ => none
noncomputable def mRest : Code := ((Tryz.f10.body.bind (restAt 18)).getD .skip)
set_option maxHeartbeats 8000000 in
set_option maxRecDepth 100000 in
theorem mended_rest (c3 c5 c6 c7 c8 c9 c10 c11 c12 c13 c14 c15 c16 c17 c18 c19 c20 c21 c22 c23 c24 c25 c26 c27 c28 c29 c30 c31 c32 c33 c34 c35 c36 c37 c38 c39 c40 c41 c42 c43 c44 c45 c46 c47 c48 c49 c50 c51 c52 c53 c54 c55 c56 c57 c58 c59 c60 c61 c62 c63 c64 c65 c66 c67 c68 c69 c70 c71 c72 c73 c74 c75 c76 c77 c78 c79 c80 c81 c82 c83 c84 c85 c86 c87 c88 c89 c90 c91 c92 c93 c94 c95 c96 c97 c98 c99 c100 c101 c102 c103 c104 c105 c106 c107 c108 c109 c110 c111 c112 c113 c114 c115 c116 c117 c118 c119 c120 c121 c122 c123 c124 c125 c126 c127 c128 c129 c130 c131 c132 c133 c134 c135 c136 c137 c138 c139 c140 c141 c142 c143 c144 c145 c146 c147 c148 c149 c150 c151 c152 c153 c154 c155 c156 c157 c158 c159 c160 c161 c162 c163 c164 c165 c166 c167 c168 c169 c170 c171 c172 c173 c174 c175 c176 c177 c178 c179 c180 c181 c182 c183 c184 c185 c186 c187 c188 c189 c190 c191 c192 c193 c194 c195 c196 c197 c198 : Value) (v : VD) (sa ca pa qa : Option Addr) (sc cc pc qc : Nat) (x0 y gV gR : Nat) (w w3 : World) (HX0 : Hid (x0 < w.heap.size)) (HM : Hid (MState x0 v sa sc gV gR w w3)) (HS : Hid (AtC w sa v.ns 16 (fun i => (v.S i).cs))) (HHo : Hid (∀ i, i < v.ns → HoldsIn w (v.S i).e.ad (v.S i).e.n (holdsV (v.O i).1 (v.O i).2.1 (v.O i).2.2.1 (v.O i).2.2.2 (v.S i).e.n))) (hns : v.ns ≤ 10) (hnc : v.nc ≤ 100) (Hhn : Hid (∀ i, (v.S i).e.n ≤ 100)) (hh4 : Hid (∀ i, i < v.ns → (v.S i).e.n ≤ 4)) (Hok : Hid (∀ i, i < v.ns → (v.S i).e.Ok)) (HVR1 : Hid (gR = gV + 1)) (HVR : Hid (gR ≠ gV)) (G_gV : Hid (w.heap.size ≤ gV)) (G_gR : Hid (w.heap.size ≤ gR)) :
    Code.wp Tryz.prog mRest (bodyPost Tryz.prog Tryz.f10 (fun e w' => ∃ (u : VD) (ca2 pa2 qa2 : Option Addr) (cc2 pc2 qc2 : Nat) (cad2 : Nat → Option Addr) (cd2 : Nat → Nat), e = .returned (.agg #[.int .i64 u.now, .slice sa u.ns sc, .slice ca2 u.nc cc2, .slice pa2 u.np pc2, .slice qa2 u.nq qc2, .int .i64 u.free, .int .i64 u.live, .int .i64 u.gone]) ∧ u.Fit ∧ ViewIn w' u sa ca2 pa2 qa2 cad2 cd2 ∧ (AtN x0 w' ca2 u.nc 1 (fun c => [.slice (cad2 c) (u.cn c) (cd2 c)]) ∧ (∀ c, c < u.nc → AtN x0 w' (cad2 c) (u.cn c) 3 (fun k => (u.C c k).cs)) ∧ AtN x0 w' pa2 u.np 7 (fun i => (u.P i).cs) ∧ AtN x0 w' qa2 u.nq 2 (fun i => (u.Q i).cs)) ∧ (u.ns = v.ns ∧ u.S = v.S ∧ u.O = v.O) ∧ NoW w w')) { tmps := #[.agg #[.int .i64 v.now, .slice sa v.ns sc, .slice ca v.nc cc, .slice pa v.np pc, .slice qa v.nq qc, .int .i64 v.free, .int .i64 v.live, .int .i64 v.gone], .int .u8 y, .pointer (some ⟨gV, 0, none⟩), c3, .pointer (some ⟨gR, 0, none⟩), c5, c6, c7, c8, c9, c10, c11, c12, c13, c14, c15, c16, c17, c18, c19, c20, c21, c22, c23, c24, c25, c26, c27, c28, c29, c30, c31, c32, c33, c34, c35, c36, c37, c38, c39, c40, c41, c42, c43, c44, c45, c46, c47, c48, c49, c50, c51, c52, c53, c54, c55, c56, c57, c58, c59, c60, c61, c62, c63, c64, c65, c66, c67, c68, c69, c70, c71, c72, c73, c74, c75, c76, c77, c78, c79, c80, c81, c82, c83, c84, c85, c86, c87, c88, c89, c90, c91, c92, c93, c94, c95, c96, c97, c98, c99, c100, c101, c102, c103, c104, c105, c106, c107, c108, c109, c110, c111, c112, c113, c114, c115, c116, c117, c118, c119, c120, c121, c122, c123, c124, c125, c126, c127, c128, c129, c130, c131, c132, c133, c134, c135, c136, c137, c138, c139, c140, c141, c142, c143, c144, c145, c146, c147, c148, c149, c150, c151, c152, c153, c154, c155, c156, c157, c158, c159, c160, c161, c162, c163, c164, c165, c166, c167, c168, c169, c170, c171, c172, c173, c174, c175, c176, c177, c178, c179, c180, c181, c182, c183, c184, c185, c186, c187, c188, c189, c190, c191, c192, c193, c194, c195, c196, c197, c198], defers := [] } w3 := by
  conv => arg 2; whnf
  go_upto_if 112 with fail
  go_cut [] (fun wx => MState x0 v sa sc gV gR w wx)
  case first =>
    obtain ⟨u, ca1, pa1, qa1, cc1, pc1, qc1, cad1, cd1, hm⟩ := HM.out
    have B_gV := Lib.hid hm.bV
    have B_gR := Lib.hid hm.bR
    have Hm := Lib.hid hm
    clear hm
    obtain ⟨B, hB⟩ : ∃ B, B = w3.heap.size := ⟨_, rfl⟩
    have HB := Lib.hid hB
    have HBV := Lib.hid (show gV < B by rw [hB]; exact hid_lt B_gV)
    have HVRl := Lib.hid (show gR < B by rw [hB]; exact hid_lt B_gR)
    clear hB
    generalize decide ((0 : Int) < bits .and .u8 (y : Int) 4) = tb
    rcases tb with _ | _
    · go_wp2_with fail
      go_meet
      exact HM.out
    · skip
      have c3 := cell_at B_gV 3 rfl
      have zV := froz_at B_gV
      have lV := hid_lt B_gV
      go_wp2_with fail
      clear c3 zV lV
      refine wp_gen (fun yw hW => ?_)
      have hB := set_blk hW B_gV
      simp only [List.setIfInBounds_toArray, List.set_cons_zero, List.set_cons_succ] at hB
      have hfs := set_now hW
      clear hW
      replace B_gR := hid_blkS B_gR hfs (by have h1 := HVR.out; omega)
      have HF0 := Lib.hid hfs
      have HBs0 := Lib.hid (Nat.le_trans (Nat.le_of_eq HB.out) hfs.size)
      clear hfs
      go_loopg [10] (v.ns + 1) (fun gg iv wx => ∃ (i m : Nat) (fp : Value) (P : Nat → RowD), i ≤ v.ns ∧ m ≤ 4 * i ∧ gg = v.ns + 1 - i ∧ iv = .int .i64 (i : Int) ∧ wx.heap[gV]? = some (.cells #[.int .i64 u.now, .slice sa v.ns sc, .slice ca1 v.nc cc1, fp, .slice qa1 u.nq qc1, .int .i64 u.free, .int .i64 u.live, .int .i64 u.gone] 27 (0, 0)) ∧ wx.heap[gR]? = some (.cells #[.int .i64 0, .slice none 0 0, .slice none 0 0, .slice none 0 0, .slice none 0 0, .int .i64 0, .int .i64 0, .int .i64 0] 27 (0, 0)) ∧ wx.ownsRow B 84 7 fp m ((List.range m).flatMap fun k => (P k).cs) ∧ B ≤ wx.heap.size ∧ Fp (fun b => b = gV) w3 wx)
      case atStart => exact ⟨0, 0, _, fun _ => ⟨0, 0, 0, 0, 0, 0, 0⟩, by omega, by omega, by omega, rfl, hB.out, B_gR.out, World.ownsRow_nil _ _ _ 7, HBs0.out, HF0.out⟩
      case round =>
        clear B_gR hB HBs0 HF0
        obtain ⟨i, m0, fp0, P0, hi, hm0, hg, rfl, hbV, hbR, hO, hBs, hF⟩ := hrel
        have Hg := Lib.hid hg
        have B_gV := Lib.hid hbV
        have B_gR := Lib.hid hbR
        have HO := Lib.hid hO
        have HBs := Lib.hid hBs
        have HF := Lib.hid hF
        clear hg hbV hbR hO hBs hF
        have c1 := cell_at B_gV 1 rfl
        have lV := hid_lt B_gV
        by_cases hlt1 : i < v.ns
        · skip
          have ck1 : (i : Int) < (v.ns : Int) := by omega
          have pk1 : decide ((i : Int) < (v.ns : Int)) = true := decide_eq_true ck1
          go_wp2_with fail
          clear c1 lV
          have hh := hh4.out i hlt1
          go_loopg [11] ((v.S i).e.n + 1) (fun gg kv wx => ∃ (k m : Nat) (fp : Value) (P : Nat → RowD), k ≤ (v.S i).e.n ∧ m ≤ 4 * i + k ∧ gg = (v.S i).e.n + 1 - k ∧ kv = .int .i64 (k : Int) ∧ wx.heap[gV]? = some (.cells #[.int .i64 u.now, .slice sa v.ns sc, .slice ca1 v.nc cc1, fp, .slice qa1 u.nq qc1, .int .i64 u.free, .int .i64 u.live, .int .i64 u.gone] 27 (0, 0)) ∧ wx.heap[gR]? = some (.cells #[.int .i64 0, .slice none 0 0, .slice none 0 0, .slice none 0 0, .slice none 0 0, .int .i64 0, .int .i64 0, .int .i64 0] 27 (0, 0)) ∧ wx.ownsRow B 84 7 fp m ((List.range m).flatMap fun k => (P k).cs) ∧ B ≤ wx.heap.size ∧ Fp (fun b => b = gV) w3 wx)
          case atStart => exact ⟨0, m0, _, P0, by omega, by omega, by omega, rfl, B_gV.out, B_gR.out, HO.out, HBs.out, HF.out⟩
          case round =>
            clear B_gV B_gR HO HBs HF
            obtain ⟨k, m, fp, P, hk, hm, hg2, rfl, hbV, hbR, hO, hBs, hF⟩ := hrel
            have Hg2 := Lib.hid hg2
            have B_gV := Lib.hid hbV
            have B_gR := Lib.hid hbR
            have HO := Lib.hid hO
            have HBs := Lib.hid hBs
            have HNX := Lib.hid (Hm.out.low.trans hF (fun i hi e => by have h1 : i = gV := e; have h2 := G_gV.out; omega))
            have HF := Lib.hid hF
            clear hg2 hbV hbR hO hBs hF
            have c1 := cell_at B_gV 1 rfl
            have lV := hid_lt B_gV
            obtain ⟨b1, o1, hs1, lb0, xc⟩ := HS.out i hlt1
            subst hs1
            have x1 : wr.cell? ⟨b1, o1 + i * 16 + 1, none⟩ = some (.bool (v.S i).put) := (HNX.out.cell (p := ⟨b1, o1 + i * 16 + 1, none⟩) lb0 id).trans (xc 1 _ rfl)
            have x3 : wr.cell? ⟨b1, o1 + i * 16 + 3, none⟩ = some (.int .u8 (v.S i).e.r) := (HNX.out.cell (p := ⟨b1, o1 + i * 16 + 3, none⟩) lb0 id).trans (xc 3 _ rfl)
            have x15 : wr.cell? ⟨b1, o1 + i * 16 + 15, none⟩ = some (.slice (v.S i).e.ad (v.S i).e.n (v.S i).e.c) := (HNX.out.cell (p := ⟨b1, o1 + i * 16 + 15, none⟩) lb0 id).trans (xc 15 _ rfl)
            clear xc
            have ck1 : (i : Int) < (v.ns : Int) := by omega
            have pk1 : decide ((i : Int) < (v.ns : Int)) = true := decide_eq_true ck1
            have lb1 := cell_lt x1
            by_cases hlt2 : k < (v.S i).e.n
            · have ck2 : (k : Int) < ((v.S i).e.n : Int) := by omega
              have pk2 : decide ((k : Int) < ((v.S i).e.n : Int)) = true := decide_eq_true ck2
              rcases hd : (v.S i).put with _ | _
              · rw [hd] at x1
                clear hd
                go_wp2_with fail
                go_roundg (v.ns - i)
                case measure => have := Hg.out; omega
                case rel => exact ⟨i + 1, m, _, P, by omega, by omega, by omega, by go_num, B_gV.out, B_gR.out, HO.out, HBs.out, HF.out⟩
              · rw [hd] at x1
                clear hd
                obtain ⟨hb, ho, hs4, hh2⟩ := HHo.out i hlt1 (by omega)
                rw [hs4] at x15
                have lh0 := hh2.lt
                have t0 : wr.cell? ⟨hb, ho + k * 4, none⟩ = some (.int .u32 ((v.O i).1 k : Nat)) := (HNX.out.cell (p := ⟨hb, ho + k * 4, none⟩) lh0 id).trans (by have h1 := hh2.cell (k * 4 + 0) _ (holdsV_get _ _ _ _ _ k 0 hlt2 (by omega)); simpa [Nat.add_assoc] using h1)
                have t1 : wr.cell? ⟨hb, ho + k * 4 + 1, none⟩ = some (.int .u16 ((v.O i).2.1 k : Nat)) := (HNX.out.cell (p := ⟨hb, ho + k * 4 + 1, none⟩) lh0 id).trans (by have h1 := hh2.cell (k * 4 + 1) _ (holdsV_get _ _ _ _ _ k 1 hlt2 (by omega)); simpa [Nat.add_assoc] using h1)
                have t2 : wr.cell? ⟨hb, ho + k * 4 + 2, none⟩ = some (.int .u32 ((v.O i).2.2.1 k : Nat)) := (HNX.out.cell (p := ⟨hb, ho + k * 4 + 2, none⟩) lh0 id).trans (by have h1 := hh2.cell (k * 4 + 2) _ (holdsV_get _ _ _ _ _ k 2 hlt2 (by omega)); simpa [Nat.add_assoc] using h1)
                have t3 : wr.cell? ⟨hb, ho + k * 4 + 3, none⟩ = some (.int .u16 ((v.O i).2.2.2 k : Nat)) := (HNX.out.cell (p := ⟨hb, ho + k * 4 + 3, none⟩) lh0 id).trans (by have h1 := hh2.cell (k * 4 + 3) _ (holdsV_get _ _ _ _ _ k 3 hlt2 (by omega)); simpa [Nat.add_assoc] using h1)
                have lh1 := cell_lt t0
                dsimp only at lh1
                clear hh2
                go_upto_region 27 with fail
                clear t0 t1 t2 t3 lh1 c1 lV x15
                have hVw := hid_lt B_gV
                have hOw : ¬ fp.ownBlock = some wr.heap.size := fun e => by have h1 := (World.ownsRow.lt HO.out _ e).2; omega
                refine wp_gen (fun hw hW => ?_)
                have hp := new_now hW
                have hB := new_blk hW
                clear hW
                replace B_gV := hid_blk B_gV hp
                replace B_gR := hid_blk B_gR hp
                replace HO := Lib.hid (ownsRow_low HO.out hp)
                have HFh := Lib.hid (HF.out.trans hp (fun _ _ h => h.elim))
                replace HBs := Lib.hid (Nat.le_trans HBs.out hp.size)
                have y1 := (hp.cell (p := ⟨b1, o1 + i * 16 + 1, none⟩) lb1 id).trans x1
                have y3 := (hp.cell (p := ⟨b1, o1 + i * 16 + 3, none⟩) lb1 id).trans x3
                have lb2 := Nat.lt_of_lt_of_le lb1 hp.size
                dsimp only at lb2
                obtain ⟨gH, hgH⟩ : ∃ gH, gH = wr.heap.size := ⟨_, rfl⟩
                rw [← hgH] at hB ⊢
                have B_gH := hB
                have HVH := Lib.hid (show gV < gH from by rw [hgH]; exact hVw)
                have HnO := Lib.hid (show ∀ b, b < B → ¬ fp.ownBlock = some b from fun b hb e => by have h1 := (World.ownsRow.lt HO.out b e).1; omega)
                have HnH := Lib.hid (show ¬ fp.ownBlock = some gH from fun e => hOw (by rw [e, hgH]))
                have nb1 : ¬ (b1 = gV ∨ fp.ownBlock = some b1) := fun e => by have h1 := G_gV.out; have h2 := HBV.out; rcases e with e | e; (omega); exact HnO.out b1 (by omega) e
                have nH : ¬ (gH = gV ∨ fp.ownBlock = some gH) := fun e => by rcases e with e | e; (have h1 := HVH.out; omega); exact HnH.out e
                have n_gH_gV : ¬ gH = gV := by have h1 := HVH.out; omega
                have n_gR_gV : ¬ gR = gV := HVR.out
                have h0 := cell_at B_gH 0 rfl
                have h1 := cell_at B_gH 1 rfl
                have h2 := cell_at B_gH 2 rfl
                have h3 := cell_at B_gH 3 rfl
                have lH := hid_lt B_gH
                clear hB hgH hp lb1 x1 x3 hVw hOw
                have HBd := HFh
                refine wp_region_held_drew (S := fun wx => Fp (fun b => b = gV ∨ fp.ownBlock = some b) hw wx) (by kernel_rfl) (Fp.drew (Fp.refl _ _)) (fun hHeld0 => ?_)
                refine any_eq hHeld0 (fun y1 hW hHeld => ?_)
                clear hHeld0
                replace B_gV := hid_blk B_gV (noW_drew hW)
                replace B_gR := hid_blk B_gR (noW_drew hW)
                replace B_gH := hid_blk B_gH (noW_drew hW)
                replace HO := Lib.hid (ownsRow_low HO.out (noW_drew hW))
                replace HBd := Lib.hid (HBd.out.trans (noW_drew hW) (fun _ _ h => h.elim))
                clear hW
                (refine tk 0 (some 151) ?_ ?_ ?_; rotate_left; (focus (intro wS hSw; go_simp; try with_reducible rfl)); (try simp only [Act.put, List.setIfInBounds_toArray, List.set_cons_zero, List.set_cons_succ]))
                (refine tk 2 (some 153) ?_ ?_ ?_; rotate_left; (focus (intro wS hSw; go_simp; try with_reducible rfl)); (try simp only [Act.put, List.setIfInBounds_toArray, List.set_cons_zero, List.set_cons_succ]))
                (refine tk 4 (some 155) ?_ ?_ ?_; rotate_left; (focus (intro wS hSw; go_simp; try with_reducible rfl)); (try simp only [Act.put, List.setIfInBounds_toArray, List.set_cons_zero, List.set_cons_succ]))
                (refine tk 10 (some 161) ?_ ?_ ?_; rotate_left; (focus (intro wS hSw; go_simp; try with_reducible rfl)); (try simp only [Act.put, List.setIfInBounds_toArray, List.set_cons_zero, List.set_cons_succ]))
                (refine tk 11 (some 162) ?_ ?_ ?_; rotate_left; (focus (intro wS hSw; (have q0 := (hSw.cell (p := ⟨gH, 0, none⟩) lH nH).trans h0); (have q1 := (hSw.cell (p := ⟨gH, 1, none⟩) lH nH).trans h1); go_simp; try with_reducible rfl)); (try simp only [Act.put, List.setIfInBounds_toArray, List.set_cons_zero, List.set_cons_succ]))
                (refine tk 12 (some 163) ?_ ?_ ?_; rotate_left; (focus (intro wS hSw; go_simp; try with_reducible rfl)); (try simp only [Act.put, List.setIfInBounds_toArray, List.set_cons_zero, List.set_cons_succ]))
                (refine tk 13 (some 164) ?_ ?_ ?_; rotate_left; (focus (intro wS hSw; (have q2 := (hSw.cell (p := ⟨gH, 2, none⟩) lH nH).trans h2); (have q3 := (hSw.cell (p := ⟨gH, 3, none⟩) lH nH).trans h3); go_simp; try with_reducible rfl)); (try simp only [Act.put, List.setIfInBounds_toArray, List.set_cons_zero, List.set_cons_succ]))
                refine wpAnyH_ready (rs := [1, 3]) (by kernel_rfl) (by simp) ?_
                refine AllReadyH.cons rfl (fun K hK => ?_) (AllReadyH.cons rfl (fun K hK => ?_) AllReadyH.nil)
                · have cV := cell_at B_gV 3 rfl
                  go_simp
                  refine k_now hK hHeld ?_
                  clear hK K cV
                  try simp only [Act.put, List.setIfInBounds_toArray, List.set_cons_zero, List.set_cons_succ]
                  refine wpAnyH_ready (rs := [3]) (by kernel_rfl) (by simp) ?_
                  refine AllReadyH.cons rfl (fun K hK => ?_) AllReadyH.nil
                  have cV := cell_at B_gV 1 rfl
                  go_simp
                  refine k_now hK hHeld ?_
                  clear hK K cV
                  try simp only [Act.put, List.setIfInBounds_toArray, List.set_cons_zero, List.set_cons_succ]
                  (refine tk 5 (some 156) ?_ ?_ ?_; rotate_left; (focus (intro wS hSw; go_simp; try with_reducible rfl)); (try simp only [Act.put, List.setIfInBounds_toArray, List.set_cons_zero, List.set_cons_succ]))
                  (refine tk 6 (some 157) ?_ ?_ ?_; rotate_left; (focus (intro wS hSw; go_simp; try with_reducible rfl)); (try simp only [Act.put, List.setIfInBounds_toArray, List.set_cons_zero, List.set_cons_succ]))
                  (refine tk 7 (some 158) ?_ ?_ ?_; rotate_left; (focus (intro wS hSw; go_simp; try with_reducible rfl)); (try simp only [Act.put, List.setIfInBounds_toArray, List.set_cons_zero, List.set_cons_succ]))
                  (refine tk 8 (some 159) ?_ ?_ ?_; rotate_left; (focus (intro wS hSw; go_simp; try with_reducible rfl)); (try simp only [Act.put, List.setIfInBounds_toArray, List.set_cons_zero, List.set_cons_succ]))
                  (refine tk 9 (some 160) ?_ ?_ ?_; rotate_left; (focus (intro wS hSw; (have p3 := (hSw.cell (p := ⟨b1, o1 + i * 16 + 3, none⟩) lb2 nb1).trans y3); go_simp; try with_reducible rfl)); (try simp only [Act.put, List.setIfInBounds_toArray, List.set_cons_zero, List.set_cons_succ]))
                  (refine tk 14 (some 165) ?_ ?_ ?_; rotate_left; (focus (intro wS hSw; go_simp; try with_reducible rfl)); (try simp only [Act.put, List.setIfInBounds_toArray, List.set_cons_zero, List.set_cons_succ]))
                  refine wpAnyH_ready (rs := [15]) (by kernel_rfl) (by simp) ?_
                  refine AllReadyH.cons rfl (fun K hK => ?_) AllReadyH.nil
                  go_simp
                  refine k_gen hK (fun y4 hW => ?_)
                  have l2gV := hid_lt B_gV
                  have l2gR := hid_lt B_gR
                  have l2gH := hid_lt B_gH
                  have hp := new_now hW
                  have hB := new_blk hW
                  have hGe := Fp.size hHeld
                  clear hW
                  refine ⟨Fp.trans hHeld hp (fun _ _ h => h.elim), ?_⟩
                  replace hHeld := Fp.trans hHeld hp (fun _ _ h => h.elim)
                  clear hK K
                  try simp only [Act.put, List.setIfInBounds_toArray, List.set_cons_zero, List.set_cons_succ]
                  obtain ⟨gS, hgS⟩ : ∃ gS, gS = y1.heap.size := ⟨_, rfl⟩
                  have R_gS := Lib.hid (Nat.le_trans hGe (Nat.le_of_eq hgS.symm))
                  have n_gV_gS : ¬ gV = gS := by omega
                  have n_gS_gV : ¬ gS = gV := by omega
                  clear l2gV
                  replace B_gV := hid_blk B_gV hp
                  have n_gR_gS : ¬ gR = gS := by omega
                  have n_gS_gR : ¬ gS = gR := by omega
                  clear l2gR
                  replace B_gR := hid_blk B_gR hp
                  have n_gH_gS : ¬ gH = gS := by omega
                  have n_gS_gH : ¬ gS = gH := by omega
                  clear l2gH
                  replace B_gH := hid_blk B_gH hp
                  replace HO := Lib.hid (ownsRow_low HO.out hp)
                  replace HBd := Lib.hid (HBd.out.trans hp (fun _ _ h => h.elim))
                  rw [← hgS] at hB ⊢
                  have B_gS := hB
                  clear hB hgS hp hGe
                  refine wpAnyH_ready (rs := [16]) (by kernel_rfl) (by simp) ?_
                  refine AllReadyH.cons rfl (fun K hK => ?_) AllReadyH.nil
                  rw [if_pos (by kernel_rfl)]
                  refine op_append1w _ _ 24 rfl B 84 prowZ 7 Tryz.underlying24 prowI rfl (by decide) fp m _ rfl HO.out gS [.int .u8 (v.S i).e.r, .int .u32 ((v.O i).1 k : Nat), .int .u16 ((v.O i).2.1 k : Nat), .int .u32 ((v.O i).2.2.1 k : Nat), .int .u16 ((v.O i).2.2.2 k : Nat), .int .i64 1, .int .i64 0] rfl rfl B_gS.out (by simp [Value.oneCell']) (by omega) (Nat.le_trans HBs.out hHeld.size) ?_
                  intro v2 y5 hown hgr hne hwh
                  obtain ⟨gv, cv, rfl⟩ : ∃ gv cv, v2 = .slice (some ⟨gv, 0, none⟩) (m + 1) cv := by rcases hown.2 with ⟨h, _⟩ | ⟨g, cap, cur, e, _⟩; (exact absurd h hne); exact ⟨g, cap, e⟩
                  have hf := grown_fp hgr
                  have hn := Fp.trans hHeld hf (fun k hk e => Or.inr e)
                  have HBd2 := Lib.hid (HBd.out.trans hf (fun k hk e => absurd e (HnO.out k (by have h3 := HB.out; omega))))
                  have hl1 := HBV.out
                  have hl2 := HVRl.out
                  replace B_gV := hid_blkS B_gV hf (HnO.out _ hl1)
                  replace B_gR := hid_blkS B_gR hf (HnO.out _ hl2)
                  replace B_gH := hid_blkS B_gH hf HnH.out
                  replace HO := Lib.hid hown
                  refine k_now hK hn ?_
                  clear hK K hHeld hf hown hgr hne hwh B_gS HBd hl1 hl2
                  have HBd := HBd2
                  clear HBd2
                  have hHeld := hn
                  clear hn
                  try simp only [Act.put, List.setIfInBounds_toArray, List.set_cons_zero, List.set_cons_succ]
                  (refine tk 17 (some 168) ?_ ?_ ?_; rotate_left; (focus (intro wS hSw; go_simp; try with_reducible rfl)); (try simp only [Act.put, List.setIfInBounds_toArray, List.set_cons_zero, List.set_cons_succ]))
                  refine wpAnyH_ready (rs := [18]) (by kernel_rfl) (by simp) ?_
                  refine AllReadyH.cons rfl (fun K hK => ?_) AllReadyH.nil
                  have cV := cell_at B_gV 3 rfl
                  have zV := froz_at B_gV
                  have lV := hid_lt B_gV
                  go_simp
                  refine k_gen hK (fun y6 hW => ?_)
                  have hB := set_blk hW B_gV
                  have hf := set_now hW
                  clear hW zV lV cV
                  simp only [List.setIfInBounds_toArray, List.set_cons_zero, List.set_cons_succ] at hB
                  have hn := Fp.trans hHeld hf (fun k hk e => Or.inl e)
                  refine ⟨hn, ?_⟩
                  clear hK K hHeld
                  have hHeld := hn
                  clear hn
                  try simp only [Act.put, List.setIfInBounds_toArray, List.set_cons_zero, List.set_cons_succ]
                  replace B_gR := hid_blkS B_gR hf n_gR_gV
                  replace B_gH := hid_blkS B_gH hf n_gH_gV
                  replace B_gV := hB
                  replace HO := Lib.hid (ownsRow_of_block HO.out fun x e => hf.block x (World.ownsRow.lt HO.out x e).2 (fun e2 => by have h1 : x = gV := e2; have h2 := HBV.out; have h3 := (World.ownsRow.lt HO.out x e).1; omega))
                  replace HBd := Lib.hid (HBd.out.trans hf (fun _ _ e => e))
                  clear hB hf
                  refine wpAnyH_done (by kernel_rfl) ?_ _
                  have hBs4 := Nat.le_trans HBs.out hHeld.size
                  clear hHeld HF HFh y1 y3 lb2 nb1 nH h0 h1 h2 h3 lH HnO HnH HVH B_gH
                  go_wp2_with fail
                  go_roundg ((v.S i).e.n - k)
                  case measure => have := Hg2.out; omega
                  case rel => exact ⟨k + 1, m + 1, _, upd P m ⟨(v.S i).e.r, (v.O i).1 k, (v.O i).2.1 k, (v.O i).2.2.1 k, (v.O i).2.2.2 k, 1, 0⟩, by omega, by omega, by omega, by go_num, B_gV.out, B_gR.out, by rw [flatR_upd]; exact HO.out, hBs4, HBd.out⟩
                · have cV := cell_at B_gV 1 rfl
                  go_simp
                  refine k_now hK hHeld ?_
                  clear hK K cV
                  try simp only [Act.put, List.setIfInBounds_toArray, List.set_cons_zero, List.set_cons_succ]
                  (refine tk 5 (some 156) ?_ ?_ ?_; rotate_left; (focus (intro wS hSw; go_simp; try with_reducible rfl)); (try simp only [Act.put, List.setIfInBounds_toArray, List.set_cons_zero, List.set_cons_succ]))
                  (refine tk 6 (some 157) ?_ ?_ ?_; rotate_left; (focus (intro wS hSw; go_simp; try with_reducible rfl)); (try simp only [Act.put, List.setIfInBounds_toArray, List.set_cons_zero, List.set_cons_succ]))
                  (refine tk 7 (some 158) ?_ ?_ ?_; rotate_left; (focus (intro wS hSw; go_simp; try with_reducible rfl)); (try simp only [Act.put, List.setIfInBounds_toArray, List.set_cons_zero, List.set_cons_succ]))
                  (refine tk 8 (some 159) ?_ ?_ ?_; rotate_left; (focus (intro wS hSw; go_simp; try with_reducible rfl)); (try simp only [Act.put, List.setIfInBounds_toArray, List.set_cons_zero, List.set_cons_succ]))
                  (refine tk 9 (some 160) ?_ ?_ ?_; rotate_left; (focus (intro wS hSw; (have p3 := (hSw.cell (p := ⟨b1, o1 + i * 16 + 3, none⟩) lb2 nb1).trans y3); go_simp; try with_reducible rfl)); (try simp only [Act.put, List.setIfInBounds_toArray, List.set_cons_zero, List.set_cons_succ]))
                  (refine tk 14 (some 165) ?_ ?_ ?_; rotate_left; (focus (intro wS hSw; go_simp; try with_reducible rfl)); (try simp only [Act.put, List.setIfInBounds_toArray, List.set_cons_zero, List.set_cons_succ]))
                  refine wpAnyH_ready (rs := [1, 15]) (by kernel_rfl) (by simp) ?_
                  refine AllReadyH.cons rfl (fun K hK => ?_) (AllReadyH.cons rfl (fun K hK => ?_) AllReadyH.nil)
                  · have cV := cell_at B_gV 3 rfl
                    go_simp
                    refine k_now hK hHeld ?_
                    clear hK K cV
                    try simp only [Act.put, List.setIfInBounds_toArray, List.set_cons_zero, List.set_cons_succ]
                    refine wpAnyH_ready (rs := [15]) (by kernel_rfl) (by simp) ?_
                    refine AllReadyH.cons rfl (fun K hK => ?_) AllReadyH.nil
                    go_simp
                    refine k_gen hK (fun y9 hW => ?_)
                    have l2gV := hid_lt B_gV
                    have l2gR := hid_lt B_gR
                    have l2gH := hid_lt B_gH
                    have hp := new_now hW
                    have hB := new_blk hW
                    have hGe := Fp.size hHeld
                    clear hW
                    refine ⟨Fp.trans hHeld hp (fun _ _ h => h.elim), ?_⟩
                    replace hHeld := Fp.trans hHeld hp (fun _ _ h => h.elim)
                    clear hK K
                    try simp only [Act.put, List.setIfInBounds_toArray, List.set_cons_zero, List.set_cons_succ]
                    obtain ⟨gS, hgS⟩ : ∃ gS, gS = y1.heap.size := ⟨_, rfl⟩
                    have R_gS := Lib.hid (Nat.le_trans hGe (Nat.le_of_eq hgS.symm))
                    have n_gV_gS : ¬ gV = gS := by omega
                    have n_gS_gV : ¬ gS = gV := by omega
                    clear l2gV
                    replace B_gV := hid_blk B_gV hp
                    have n_gR_gS : ¬ gR = gS := by omega
                    have n_gS_gR : ¬ gS = gR := by omega
                    clear l2gR
                    replace B_gR := hid_blk B_gR hp
                    have n_gH_gS : ¬ gH = gS := by omega
                    have n_gS_gH : ¬ gS = gH := by omega
                    clear l2gH
                    replace B_gH := hid_blk B_gH hp
                    replace HO := Lib.hid (ownsRow_low HO.out hp)
                    replace HBd := Lib.hid (HBd.out.trans hp (fun _ _ h => h.elim))
                    rw [← hgS] at hB ⊢
                    have B_gS := hB
                    clear hB hgS hp hGe
                    refine wpAnyH_ready (rs := [16]) (by kernel_rfl) (by simp) ?_
                    refine AllReadyH.cons rfl (fun K hK => ?_) AllReadyH.nil
                    rw [if_pos (by kernel_rfl)]
                    refine op_append1w _ _ 24 rfl B 84 prowZ 7 Tryz.underlying24 prowI rfl (by decide) fp m _ rfl HO.out gS [.int .u8 (v.S i).e.r, .int .u32 ((v.O i).1 k : Nat), .int .u16 ((v.O i).2.1 k : Nat), .int .u32 ((v.O i).2.2.1 k : Nat), .int .u16 ((v.O i).2.2.2 k : Nat), .int .i64 1, .int .i64 0] rfl rfl B_gS.out (by simp [Value.oneCell']) (by omega) (Nat.le_trans HBs.out hHeld.size) ?_
                    intro v2 y10 hown hgr hne hwh
                    obtain ⟨gv, cv, rfl⟩ : ∃ gv cv, v2 = .slice (some ⟨gv, 0, none⟩) (m + 1) cv := by rcases hown.2 with ⟨h, _⟩ | ⟨g, cap, cur, e, _⟩; (exact absurd h hne); exact ⟨g, cap, e⟩
                    have hf := grown_fp hgr
                    have hn := Fp.trans hHeld hf (fun k hk e => Or.inr e)
                    have HBd2 := Lib.hid (HBd.out.trans hf (fun k hk e => absurd e (HnO.out k (by have h3 := HB.out; omega))))
                    have hl1 := HBV.out
                    have hl2 := HVRl.out
                    replace B_gV := hid_blkS B_gV hf (HnO.out _ hl1)
                    replace B_gR := hid_blkS B_gR hf (HnO.out _ hl2)
                    replace B_gH := hid_blkS B_gH hf HnH.out
                    replace HO := Lib.hid hown
                    refine k_now hK hn ?_
                    clear hK K hHeld hf hown hgr hne hwh B_gS HBd hl1 hl2
                    have HBd := HBd2
                    clear HBd2
                    have hHeld := hn
                    clear hn
                    try simp only [Act.put, List.setIfInBounds_toArray, List.set_cons_zero, List.set_cons_succ]
                    (refine tk 17 (some 168) ?_ ?_ ?_; rotate_left; (focus (intro wS hSw; go_simp; try with_reducible rfl)); (try simp only [Act.put, List.setIfInBounds_toArray, List.set_cons_zero, List.set_cons_succ]))
                    refine wpAnyH_ready (rs := [18]) (by kernel_rfl) (by simp) ?_
                    refine AllReadyH.cons rfl (fun K hK => ?_) AllReadyH.nil
                    have cV := cell_at B_gV 3 rfl
                    have zV := froz_at B_gV
                    have lV := hid_lt B_gV
                    go_simp
                    refine k_gen hK (fun y11 hW => ?_)
                    have hB := set_blk hW B_gV
                    have hf := set_now hW
                    clear hW zV lV cV
                    simp only [List.setIfInBounds_toArray, List.set_cons_zero, List.set_cons_succ] at hB
                    have hn := Fp.trans hHeld hf (fun k hk e => Or.inl e)
                    refine ⟨hn, ?_⟩
                    clear hK K hHeld
                    have hHeld := hn
                    clear hn
                    try simp only [Act.put, List.setIfInBounds_toArray, List.set_cons_zero, List.set_cons_succ]
                    replace B_gR := hid_blkS B_gR hf n_gR_gV
                    replace B_gH := hid_blkS B_gH hf n_gH_gV
                    replace B_gV := hB
                    replace HO := Lib.hid (ownsRow_of_block HO.out fun x e => hf.block x (World.ownsRow.lt HO.out x e).2 (fun e2 => by have h1 : x = gV := e2; have h2 := HBV.out; have h3 := (World.ownsRow.lt HO.out x e).1; omega))
                    replace HBd := Lib.hid (HBd.out.trans hf (fun _ _ e => e))
                    clear hB hf
                    refine wpAnyH_done (by kernel_rfl) ?_ _
                    have hBs4 := Nat.le_trans HBs.out hHeld.size
                    clear hHeld HF HFh y1 y3 lb2 nb1 nH h0 h1 h2 h3 lH HnO HnH HVH B_gH
                    go_wp2_with fail
                    go_roundg ((v.S i).e.n - k)
                    case measure => have := Hg2.out; omega
                    case rel => exact ⟨k + 1, m + 1, _, upd P m ⟨(v.S i).e.r, (v.O i).1 k, (v.O i).2.1 k, (v.O i).2.2.1 k, (v.O i).2.2.2 k, 1, 0⟩, by omega, by omega, by omega, by go_num, B_gV.out, B_gR.out, by rw [flatR_upd]; exact HO.out, hBs4, HBd.out⟩
                  · go_simp
                    refine k_gen hK (fun y12 hW => ?_)
                    have l2gV := hid_lt B_gV
                    have l2gR := hid_lt B_gR
                    have l2gH := hid_lt B_gH
                    have hp := new_now hW
                    have hB := new_blk hW
                    have hGe := Fp.size hHeld
                    clear hW
                    refine ⟨Fp.trans hHeld hp (fun _ _ h => h.elim), ?_⟩
                    replace hHeld := Fp.trans hHeld hp (fun _ _ h => h.elim)
                    clear hK K
                    try simp only [Act.put, List.setIfInBounds_toArray, List.set_cons_zero, List.set_cons_succ]
                    obtain ⟨gS, hgS⟩ : ∃ gS, gS = y1.heap.size := ⟨_, rfl⟩
                    have R_gS := Lib.hid (Nat.le_trans hGe (Nat.le_of_eq hgS.symm))
                    have n_gV_gS : ¬ gV = gS := by omega
                    have n_gS_gV : ¬ gS = gV := by omega
                    clear l2gV
                    replace B_gV := hid_blk B_gV hp
                    have n_gR_gS : ¬ gR = gS := by omega
                    have n_gS_gR : ¬ gS = gR := by omega
                    clear l2gR
                    replace B_gR := hid_blk B_gR hp
                    have n_gH_gS : ¬ gH = gS := by omega
                    have n_gS_gH : ¬ gS = gH := by omega
                    clear l2gH
                    replace B_gH := hid_blk B_gH hp
                    replace HO := Lib.hid (ownsRow_low HO.out hp)
                    replace HBd := Lib.hid (HBd.out.trans hp (fun _ _ h => h.elim))
                    rw [← hgS] at hB ⊢
                    have B_gS := hB
                    clear hB hgS hp hGe
                    refine wpAnyH_ready (rs := [1]) (by kernel_rfl) (by simp) ?_
                    refine AllReadyH.cons rfl (fun K hK => ?_) AllReadyH.nil
                    have cV := cell_at B_gV 3 rfl
                    go_simp
                    refine k_now hK hHeld ?_
                    clear hK K cV
                    try simp only [Act.put, List.setIfInBounds_toArray, List.set_cons_zero, List.set_cons_succ]
                    refine wpAnyH_ready (rs := [16]) (by kernel_rfl) (by simp) ?_
                    refine AllReadyH.cons rfl (fun K hK => ?_) AllReadyH.nil
                    rw [if_pos (by kernel_rfl)]
                    refine op_append1w _ _ 24 rfl B 84 prowZ 7 Tryz.underlying24 prowI rfl (by decide) fp m _ rfl HO.out gS [.int .u8 (v.S i).e.r, .int .u32 ((v.O i).1 k : Nat), .int .u16 ((v.O i).2.1 k : Nat), .int .u32 ((v.O i).2.2.1 k : Nat), .int .u16 ((v.O i).2.2.2 k : Nat), .int .i64 1, .int .i64 0] rfl rfl B_gS.out (by simp [Value.oneCell']) (by omega) (Nat.le_trans HBs.out hHeld.size) ?_
                    intro v2 y14 hown hgr hne hwh
                    obtain ⟨gv, cv, rfl⟩ : ∃ gv cv, v2 = .slice (some ⟨gv, 0, none⟩) (m + 1) cv := by rcases hown.2 with ⟨h, _⟩ | ⟨g, cap, cur, e, _⟩; (exact absurd h hne); exact ⟨g, cap, e⟩
                    have hf := grown_fp hgr
                    have hn := Fp.trans hHeld hf (fun k hk e => Or.inr e)
                    have HBd2 := Lib.hid (HBd.out.trans hf (fun k hk e => absurd e (HnO.out k (by have h3 := HB.out; omega))))
                    have hl1 := HBV.out
                    have hl2 := HVRl.out
                    replace B_gV := hid_blkS B_gV hf (HnO.out _ hl1)
                    replace B_gR := hid_blkS B_gR hf (HnO.out _ hl2)
                    replace B_gH := hid_blkS B_gH hf HnH.out
                    replace HO := Lib.hid hown
                    refine k_now hK hn ?_
                    clear hK K hHeld hf hown hgr hne hwh B_gS HBd hl1 hl2
                    have HBd := HBd2
                    clear HBd2
                    have hHeld := hn
                    clear hn
                    try simp only [Act.put, List.setIfInBounds_toArray, List.set_cons_zero, List.set_cons_succ]
                    (refine tk 17 (some 168) ?_ ?_ ?_; rotate_left; (focus (intro wS hSw; go_simp; try with_reducible rfl)); (try simp only [Act.put, List.setIfInBounds_toArray, List.set_cons_zero, List.set_cons_succ]))
                    refine wpAnyH_ready (rs := [18]) (by kernel_rfl) (by simp) ?_
                    refine AllReadyH.cons rfl (fun K hK => ?_) AllReadyH.nil
                    have cV := cell_at B_gV 3 rfl
                    have zV := froz_at B_gV
                    have lV := hid_lt B_gV
                    go_simp
                    refine k_gen hK (fun y15 hW => ?_)
                    have hB := set_blk hW B_gV
                    have hf := set_now hW
                    clear hW zV lV cV
                    simp only [List.setIfInBounds_toArray, List.set_cons_zero, List.set_cons_succ] at hB
                    have hn := Fp.trans hHeld hf (fun k hk e => Or.inl e)
                    refine ⟨hn, ?_⟩
                    clear hK K hHeld
                    have hHeld := hn
                    clear hn
                    try simp only [Act.put, List.setIfInBounds_toArray, List.set_cons_zero, List.set_cons_succ]
                    replace B_gR := hid_blkS B_gR hf n_gR_gV
                    replace B_gH := hid_blkS B_gH hf n_gH_gV
                    replace B_gV := hB
                    replace HO := Lib.hid (ownsRow_of_block HO.out fun x e => hf.block x (World.ownsRow.lt HO.out x e).2 (fun e2 => by have h1 : x = gV := e2; have h2 := HBV.out; have h3 := (World.ownsRow.lt HO.out x e).1; omega))
                    replace HBd := Lib.hid (HBd.out.trans hf (fun _ _ e => e))
                    clear hB hf
                    refine wpAnyH_done (by kernel_rfl) ?_ _
                    have hBs4 := Nat.le_trans HBs.out hHeld.size
                    clear hHeld HF HFh y1 y3 lb2 nb1 nH h0 h1 h2 h3 lH HnO HnH HVH B_gH
                    go_wp2_with fail
                    go_roundg ((v.S i).e.n - k)
                    case measure => have := Hg2.out; omega
                    case rel => exact ⟨k + 1, m + 1, _, upd P m ⟨(v.S i).e.r, (v.O i).1 k, (v.O i).2.1 k, (v.O i).2.2.1 k, (v.O i).2.2.2 k, 1, 0⟩, by omega, by omega, by omega, by go_num, B_gV.out, B_gR.out, by rw [flatR_upd]; exact HO.out, hBs4, HBd.out⟩
            · obtain rfl : k = (v.S i).e.n := by omega
              have pk2 : decide (((v.S i).e.n : Int) < ((v.S i).e.n : Int)) = false := decide_eq_false (by omega)
              go_wp2_with fail
              go_roundg (v.ns - i)
              case measure => have := Hg.out; omega
              case rel => exact ⟨i + 1, m, _, P, by omega, by omega, by omega, by go_num, B_gV.out, B_gR.out, HO.out, HBs.out, HF.out⟩
        · obtain rfl : i = v.ns := by omega
          have pk : decide ((v.ns : Int) < (v.ns : Int)) = false := decide_eq_false (by omega)
          go_wp2_with fail
          go_meet
          obtain ⟨pa2, pc2, rfl, _⟩ := own_at HO.out (fun i => rfl)
          exact MState.of Hm.out HF.out G_gV.out B_gR.out (P' := P0) (cn' := u.cn) (C' := u.C) (cad' := cad1) (cc3 := cd1) (Q' := u.Q) B_gV.out Hm.out.cn (by omega) Hm.out.nq (.inl ⟨rfl, rfl, rfl, rfl, rfl⟩) (.inr (own_atX HO.out (fun i => rfl) (by have h1 := HVRl.out; have h2 := HVR1.out; omega) (by have h1 := HX0.out; have h2 := Hm.out.low.size; have h3 := HB.out; omega))) (.inl ⟨rfl, rfl, rfl⟩)
  case rest =>
    clear HM
    have HM := Lib.hid hcut
    clear hcut
    generalize wc = w4 at *
    go_upto_if 171 with fail
    go_cut [] (fun wx => MState x0 v sa sc gV gR w wx)
    case first =>
      obtain ⟨u, ca1, pa1, qa1, cc1, pc1, qc1, cad1, cd1, hm⟩ := HM.out
      have B_gV := Lib.hid hm.bV
      have B_gR := Lib.hid hm.bR
      have Hm := Lib.hid hm
      clear hm
      obtain ⟨B, hB⟩ : ∃ B, B = w4.heap.size := ⟨_, rfl⟩
      have HB := Lib.hid hB
      have HBV := Lib.hid (show gV < B by rw [hB]; exact hid_lt B_gV)
      have HVRl := Lib.hid (show gR < B by rw [hB]; exact hid_lt B_gR)
      clear hB
      generalize decide ((0 : Int) < bits .and .u8 (y : Int) 8) = tb
      rcases tb with _ | _
      · go_wp2_with fail
        go_meet
        exact HM.out
      · skip
        have c6 := cell_at B_gV 6 rfl
        have c7 := cell_at B_gV 7 rfl
        have zV := froz_at B_gV
        have lV := hid_lt B_gV
        go_wp2_with fail
        clear c6 c7 zV lV
        refine wp_gen (fun yw hW => ?_)
        obtain ⟨z1', hW1⟩ : ∃ z, z = w4.setCell ⟨gV, 6, none⟩ (.int .i64 0) := ⟨_, rfl⟩
        rw [← hW1] at hW
        have hB := set_blk hW (set_blk hW1 B_gV)
        simp only [List.setIfInBounds_toArray, List.set_cons_zero, List.set_cons_succ] at hB
        have hfs := (set_now hW1).trans (set_now hW) (fun _ _ e => e)
        clear hW hW1
        replace B_gR := hid_blkS B_gR hfs (by have h1 := HVR.out; omega)
        have HF0 := Lib.hid hfs
        clear hfs
        go_loopg [13] (v.ns + 1) (fun gg iv wx => ∃ (i : Nat) (lv : Int), i ≤ v.ns ∧ gg = v.ns + 1 - i ∧ iv = .int .i64 (i : Int) ∧ wx.heap[gV]? = some (.cells #[.int .i64 u.now, .slice sa v.ns sc, .slice ca1 v.nc cc1, .slice pa1 u.np pc1, .slice qa1 u.nq qc1, .int .i64 u.free, .int .i64 lv, .int .i64 0] 27 (0, 0)) ∧ wx.heap[gR]? = some (.cells #[.int .i64 0, .slice none 0 0, .slice none 0 0, .slice none 0 0, .slice none 0 0, .int .i64 0, .int .i64 0, .int .i64 0] 27 (0, 0)) ∧ Fp (fun b => b = gV) w4 wx)
        case atStart => exact ⟨0, _, by omega, by omega, rfl, hB.out, B_gR.out, HF0.out⟩
        case round =>
          clear B_gR hB HF0
          obtain ⟨i, lv, hi, hg, rfl, hbV, hbR, hF⟩ := hrel
          have Hg := Lib.hid hg
          have B_gV := Lib.hid hbV
          have B_gR := Lib.hid hbR
          have HNX := Lib.hid (Hm.out.low.trans hF (fun i hi e => by have h1 : i = gV := e; have h2 := G_gV.out; omega))
          have HF := Lib.hid hF
          clear hg hbV hbR hF
          have c1 := cell_at B_gV 1 rfl
          have c6 := cell_at B_gV 6 rfl
          have zV := froz_at B_gV
          have lV := hid_lt B_gV
          by_cases hlt1 : i < v.ns
          · skip
            obtain ⟨b1, o1, hs1, lb0, xc⟩ := HS.out i hlt1
            subst hs1
            have x0 : wr.cell? ⟨b1, o1 + i * 16, none⟩ = some (.bool (v.S i).used) := (HNX.out.cell (p := ⟨b1, o1 + i * 16, none⟩) lb0 id).trans (xc 0 _ rfl)
            clear xc
            have ck1 : (i : Int) < (v.ns : Int) := by omega
            have pk1 : decide ((i : Int) < (v.ns : Int)) = true := decide_eq_true ck1
            rcases hd : (v.S i).used with _ | _
            · rw [hd] at x0
              clear hd
              go_wp2_with fail
              go_roundg (v.ns - i)
              case measure => have := Hg.out; omega
              case rel => exact ⟨i + 1, lv, by omega, by omega, by go_num, B_gV.out, B_gR.out, HF.out⟩
            · rw [hd] at x0
              clear hd
              obtain ⟨l2, hl2⟩ : ∃ l, l = IntKind.i64.wrap (lv + 1) := ⟨_, rfl⟩
              have s1 : IntKind.i64.wrap (lv + 1) = l2 := hl2.symm
              clear hl2
              go_wp2_with fail
              have hB := set_blk (W := (wr.setCell ⟨gV, 6, none⟩ (.int .i64 l2))) rfl B_gV
              simp only [List.setIfInBounds_toArray, List.set_cons_zero, List.set_cons_succ] at hB
              have hfs := set_now (W := (wr.setCell ⟨gV, 6, none⟩ (.int .i64 l2))) rfl
              replace B_gR := hid_blkS B_gR hfs (by have h1 := HVR.out; omega)
              have HF2 := Lib.hid (HF.out.trans hfs (fun _ _ e => e))
              go_roundg (v.ns - i)
              case measure => have := Hg.out; omega
              case rel => exact ⟨i + 1, l2, by omega, by omega, by go_num, hB.out, B_gR.out, HF2.out⟩
          · obtain rfl : i = v.ns := by omega
            have pk : decide ((v.ns : Int) < (v.ns : Int)) = false := decide_eq_false (by omega)
            have c5 := cell_at B_gV 5 rfl
            obtain ⟨l3, hl3⟩ : ∃ l, l = IntKind.i64.wrap ((v.ns : Int) - lv) := ⟨_, rfl⟩
            have s1 : IntKind.i64.wrap ((v.ns : Int) - lv) = l3 := hl3.symm
            clear hl3
            go_wp2_with fail
            go_meet
            have hB := set_blk (W := (wr.setCell ⟨gV, 5, none⟩ (.int .i64 l3))) rfl B_gV
            simp only [List.setIfInBounds_toArray, List.set_cons_zero, List.set_cons_succ] at hB
            have hfs := set_now (W := (wr.setCell ⟨gV, 5, none⟩ (.int .i64 l3))) rfl
            exact MState.of Hm.out (HF.out.trans hfs (fun _ _ e => e)) G_gV.out (hid_blkS B_gR hfs (by have h1 := HVR.out; omega)).out (P' := u.P) (cn' := u.cn) (C' := u.C) (cad' := cad1) (cc3 := cd1) (Q' := u.Q) hB.out Hm.out.cn Hm.out.np Hm.out.nq (.inl ⟨rfl, rfl, rfl, rfl, rfl⟩) (.inl ⟨rfl, rfl, rfl⟩) (.inl ⟨rfl, rfl, rfl⟩)
    case rest =>
      clear HM
      have HM := Lib.hid hcut
      clear hcut
      generalize wc = w5 at *
      obtain ⟨u, ca1, pa1, qa1, cc1, pc1, qc1, cad1, cd1, hm⟩ := HM.out
      have B_gV := Lib.hid hm.bV
      have B_gR := Lib.hid hm.bR
      have Hm := Lib.hid hm
      clear hm
      have cV0 := cell_at B_gV 0 rfl
      have cV1 := cell_at B_gV 1 rfl
      have cV2 := cell_at B_gV 2 rfl
      have cV3 := cell_at B_gV 3 rfl
      have cV4 := cell_at B_gV 4 rfl
      have cV5 := cell_at B_gV 5 rfl
      have cV6 := cell_at B_gV 6 rfl
      have cV7 := cell_at B_gV 7 rfl
      have cR0 := cell_at B_gR 0 rfl
      have cR1 := cell_at B_gR 1 rfl
      have cR2 := cell_at B_gR 2 rfl
      have cR3 := cell_at B_gR 3 rfl
      have cR4 := cell_at B_gR 4 rfl
      have cR5 := cell_at B_gR 5 rfl
      have cR6 := cell_at B_gR 6 rfl
      have cR7 := cell_at B_gR 7 rfl
      have zR := froz_at B_gR
      have lW := hid_lt B_gV
      have lR := hid_lt B_gR
      go_wp2_with fail
      refine post_gen (fun W hW => ?_)
      obtain ⟨hB, hf⟩ := setE8 hW B_gR
      clear hW cR0 cV0 cR1 cV1 cR2 cV2 cR3 cV3 cR4 cV4 cR5 cV5 cR6 cV6 cR7 cV7 zR lW lR
      have cR0 := cell_at hB 0 rfl
      have cR1 := cell_at hB 1 rfl
      have cR2 := cell_at hB 2 rfl
      have cR3 := cell_at hB 3 rfl
      have cR4 := cell_at hB 4 rfl
      have cR5 := cell_at hB 5 rfl
      have cR6 := cell_at hB 6 rfl
      have cR7 := cell_at hB 7 rfl
      refine bodyPost_ret (v := .agg #[.int .i64 u.now, .slice sa v.ns sc, .slice ca1 v.nc cc1, .slice pa1 u.np pc1, .slice qa1 u.nq qc1, .int .i64 u.free, .int .i64 u.live, .int .i64 u.gone]) (by simp only [results, Tryz.results10]; go_simp) rfl ?_
      have hR : ∀ b, b < w5.heap.size → b = gR → b = gR := fun _ _ e => e
      have hS : ∀ b, b = gR → b = gV ∨ b = gV + 1 := fun b e => by have h1 := HVR1.out; omega
      have hl := Hm.out.low.trans hf (fun i hi e => by have h1 : i = gR := e; have h2 := G_gR.out; omega)
      refine ⟨u, ca1, pa1, qa1, cc1, pc1, qc1, cad1, cd1, by rw [Hm.out.ns, Hm.out.nc], ⟨by rw [Hm.out.ns]; omega, by rw [Hm.out.nc]; exact hnc, Hm.out.cn, Hm.out.np, Hm.out.nq, ?_, ?_⟩, ⟨?_, ?_, (Hm.out.c.fp2 hf hS).at', fun c hc => ((Hm.out.k c hc).fp2 hf hS).at', (Hm.out.p.fp2 hf hS).at', (Hm.out.q.fp2 hf hS).at'⟩, ⟨Hm.out.c.fp2 hf hS, fun c hc => (Hm.out.k c hc).fp2 hf hS, Hm.out.p.fp2 hf hS, Hm.out.q.fp2 hf hS⟩, ⟨Hm.out.ns, Hm.out.S, Hm.out.O⟩, hl⟩
      · intro i; rw [Hm.out.S]; exact Hhn.out i
      · intro i hi; rw [Hm.out.S]; exact Hok.out i (by rw [← Hm.out.ns]; exact hi)
      · rw [Hm.out.ns, Hm.out.S]; exact HS.out.low hl
      · intro i hi; rw [Hm.out.S, Hm.out.O]; exact (HHo.out i (by rw [← Hm.out.ns]; exact hi)).low hl
end Go.Proofs.YtcimbbllefkdlaaGreatDoor
