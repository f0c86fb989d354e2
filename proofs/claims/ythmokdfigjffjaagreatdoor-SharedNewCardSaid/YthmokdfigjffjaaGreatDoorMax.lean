/- Texts of this proof, merged: Rr. -/
import Derived.Test.YthmokdfigjffjaaGreatDoorMaw
namespace Go.Proofs.YthmokdfigjffjaaGreatDoor
set_option linter.unusedVariables false
set_option linter.unusedSimpArgs false
open Go.RowKit Go.Lib Go.Sort
theorem run_mk22 (n : Nat) (hn : n ≤ 256) (W : World) : ∃ cs, (Instr.makeSlice 120 (.int .i64 n) (.int .i64 n)).run Tryz.prog W = .ok (.slice (some ⟨W.heap.size, 0, none⟩) n n) (W.alloc (.cells cs 511)) := by
  have h : ((Tryz.prog.info? 511).map fun i => (i.zero.isSome, decide (i.size ≤ 64), decide (i.bytes ≤ 65536))) = some (true, true, true) := by kernel_rfl
  rcases hi : Tryz.prog.info? 511 with _ | i
  · simp [hi] at h
  · simp [hi] at h
    obtain ⟨hz, hs, hb⟩ := h
    obtain ⟨z, hz⟩ := Option.isSome_iff_exists.1 hz
    have hb2 : (i.bytes : Int) * (n : Int) ≤ 281474976710656 := by
      have h := Nat.mul_le_mul hb hn
      have h' : ((i.bytes * n : Nat) : Int) ≤ 16777216 := by omega
      rw [Int.natCast_mul] at h'; omega
    have hs2 : n * i.size ≤ 16384 := Nat.mul_le_mul hn hs
    have := run_makeSlice W 120 511 i z Tryz.underlying120 hi hz .i64 .i64 n n (by omega) (by omega) (by rw [Int.toNat_natCast]; omega) hb2 (by omega)
    exact ⟨_, this⟩
theorem whl22I : ∃ i, Tryz.prog.info? 117 = some i ∧ i.zero = some (.pointer none) ∧ i.size = 1 ∧ i.bytes ≤ 65536 := by
  have h : ((Tryz.prog.info? 117).map fun i => (i.zero, i.size, decide (i.bytes ≤ 65536))) = some (some (.pointer none), 1, true) := by kernel_rfl
  rcases hi : Tryz.prog.info? 117 with _ | i
  · simp [hi] at h
  · simp [hi] at h
    exact ⟨i, rfl, h.1, h.2.1, h.2.2⟩
set_option maxHeartbeats 8000000 in
set_option maxRecDepth 100000 in
theorem r22_good (o ip : Nat) (bits wh : Int) (ns nb nw : Nat) (hb1 : eTb o ip bits = 0) (hs : 1 ≤ ns ∧ ns ≤ 256) (hbk : 1 ≤ nb ∧ nb ≤ 64) (hwk : 1 ≤ nw ∧ nw ≤ 64) (hwh : 1 ≤ wh ∧ wh ≤ 64) (ho : o < 4294967296) (hip : ip < 4294967296) (w : World) :
    Calls Tryz.prog 5 #[.agg #[.int .u32 o, .int .u32 ip, .int .i64 bits, .int .i64 ns, .int .i64 nb, .int .i64 nw, .int .i64 wh]] w fun e w' => ∃ g, e = .returned (.tuple #[.pointer (some ⟨g, 0, none⟩), .int .i64 0]) ∧ NoW w w' := by
  have K1 := Lib.hid (fun W => hb1 ▸ r11_new o ip bits ho hip W)
  have K2 := Lib.hid (fun W => r13_good ns hs.1 hs.2 W)
  have K3 := Lib.hid (fun W => r19_good nb hbk.1 hbk.2 W)
  have K4 := Lib.hid (fun W => r14_good nw hwk.1 hwk.2 W)
  have K5 := Lib.hid (fun W => (show eIn wh 64 = 0 from if_pos hwh) ▸ r15_new wh W)
  have KM := Lib.hid (fun W => run_mk22 ns hs.2 W)
  have Hnw := Lib.hid hwk.2
  clear hb1 hs hbk hwk hwh ho hip
  go_enter Tryz.func5, Tryz.ntmps5
  have HN := Lib.hid (Fp.refl (fun _ => False) w)
  go_upto_region 1 with fail
  refine wp_gen (fun z1 hW => ?_)
  have hp := new_now hW
  have hB := new_blk hW
  clear hW
  have hGe := hid_ge HN
  replace HN := hid_now HN hp
  obtain ⟨gC, hgC⟩ : ∃ gC, gC = w.heap.size := ⟨_, rfl⟩
  have G_gC := Lib.hid (Nat.le_trans hGe (Nat.le_of_eq hgC.symm))
  rw [← hgC] at hB ⊢
  have B_gC := hB
  clear hB hGe hgC hp
  have cgC0 := cell_at B_gC 0 rfl
  have cgC1 := cell_at B_gC 1 rfl
  have cgC2 := cell_at B_gC 2 rfl
  have cgC3 := cell_at B_gC 3 rfl
  have cgC4 := cell_at B_gC 4 rfl
  have cgC5 := cell_at B_gC 5 rfl
  have cgC6 := cell_at B_gC 6 rfl
  have zgC := froz_at B_gC
  have lgC := hid_lt B_gC
  go_wp2_with fail
  refine (show Calls _ _ _ _ _ from K1.out _).mono ?_
  rintro e z2 ⟨tb, rfl, hp⟩
  replace HN := hid_now HN hp
  replace B_gC := hid_blk B_gC hp
  clear hp
  clear cgC0 cgC1 cgC2 cgC3 cgC4 cgC5 cgC6 zgC lgC
  have cgC0 := cell_at B_gC 0 rfl
  have cgC1 := cell_at B_gC 1 rfl
  have cgC2 := cell_at B_gC 2 rfl
  have cgC3 := cell_at B_gC 3 rfl
  have cgC4 := cell_at B_gC 4 rfl
  have cgC5 := cell_at B_gC 5 rfl
  have cgC6 := cell_at B_gC 6 rfl
  have zgC := froz_at B_gC
  have lgC := hid_lt B_gC
  go_wp2_with fail
  refine (show Calls _ _ _ _ _ from K2.out _).mono ?_
  rintro e z3 ⟨sl, rfl, hp⟩
  replace HN := hid_now HN hp
  replace B_gC := hid_blk B_gC hp
  clear hp
  clear cgC0 cgC1 cgC2 cgC3 cgC4 cgC5 cgC6 zgC lgC
  have cgC0 := cell_at B_gC 0 rfl
  have cgC1 := cell_at B_gC 1 rfl
  have cgC2 := cell_at B_gC 2 rfl
  have cgC3 := cell_at B_gC 3 rfl
  have cgC4 := cell_at B_gC 4 rfl
  have cgC5 := cell_at B_gC 5 rfl
  have cgC6 := cell_at B_gC 6 rfl
  have zgC := froz_at B_gC
  have lgC := hid_lt B_gC
  go_wp2_with fail
  refine (show Calls _ _ _ _ _ from K3.out _).mono ?_
  rintro e z4 ⟨bc, rfl, hp⟩
  replace HN := hid_now HN hp
  replace B_gC := hid_blk B_gC hp
  clear hp
  clear cgC0 cgC1 cgC2 cgC3 cgC4 cgC5 cgC6 zgC lgC
  have cgC0 := cell_at B_gC 0 rfl
  have cgC1 := cell_at B_gC 1 rfl
  have cgC2 := cell_at B_gC 2 rfl
  have cgC3 := cell_at B_gC 3 rfl
  have cgC4 := cell_at B_gC 4 rfl
  have cgC5 := cell_at B_gC 5 rfl
  have cgC6 := cell_at B_gC 6 rfl
  have zgC := froz_at B_gC
  have lgC := hid_lt B_gC
  go_wp2_with fail
  refine (show Calls _ _ _ _ _ from K4.out _).mono ?_
  rintro e z5 ⟨ep, rfl, hp⟩
  replace HN := hid_now HN hp
  replace B_gC := hid_blk B_gC hp
  clear hp
  clear cgC0 cgC1 cgC2 cgC3 cgC4 cgC5 cgC6 zgC lgC
  have cgC0 := cell_at B_gC 0 rfl
  have cgC1 := cell_at B_gC 1 rfl
  have cgC2 := cell_at B_gC 2 rfl
  have cgC3 := cell_at B_gC 3 rfl
  have cgC4 := cell_at B_gC 4 rfl
  have cgC5 := cell_at B_gC 5 rfl
  have cgC6 := cell_at B_gC 6 rfl
  have zgC := froz_at B_gC
  have lgC := hid_lt B_gC
  go_wp2_with fail
  refine (show Calls _ _ _ _ _ from K5.out _).mono ?_
  rintro e z6 ⟨w0, rfl, hp⟩
  replace HN := hid_now HN hp
  replace B_gC := hid_blk B_gC hp
  clear hp
  clear cgC0 cgC1 cgC2 cgC3 cgC4 cgC5 cgC6 zgC lgC
  have cgC0 := cell_at B_gC 0 rfl
  have cgC1 := cell_at B_gC 1 rfl
  have cgC2 := cell_at B_gC 2 rfl
  have cgC3 := cell_at B_gC 3 rfl
  have cgC4 := cell_at B_gC 4 rfl
  have cgC5 := cell_at B_gC 5 rfl
  have cgC6 := cell_at B_gC 6 rfl
  have zgC := froz_at B_gC
  have lgC := hid_lt B_gC
  obtain ⟨mcs, km⟩ := KM.out z6
  go_upto_region 17 with fail
  refine wp_gen (fun z7 hW => ?_)
  have hp : NoW z6 z7 := (((Fp.refl _ z6).alloc _).alloc _).trans (new_now hW) (fun _ _ h => h)
  have hB := (new_blk hW).out
  simp only [World.size_alloc] at hB
  clear hW km
  obtain ⟨g, hg⟩ : ∃ g, g = z6.heap.size + 1 + 1 := ⟨_, rfl⟩
  obtain ⟨ss, hss⟩ : ∃ ss, ss = z6.heap.size := ⟨_, rfl⟩
  have Rg := Lib.hid (show w.heap.size ≤ g by have h1 := HN.out.size; omega)
  have n_gC : ¬ gC = g := by have := lgC; omega
  rw [← hg, ← hss] at hB ⊢
  have B_g := Lib.hid hB
  replace HN := hid_now HN hp
  replace B_gC := hid_blk B_gC hp
  clear hB hg hss hp cgC0 cgC1 cgC2 cgC3 cgC4 cgC5 cgC6 zgC lgC
  obtain ⟨B, hB⟩ : ∃ B, B = z7.heap.size := ⟨_, rfl⟩
  have HB := Lib.hid hB
  have HgB := Lib.hid (show g < B by rw [hB]; exact hid_lt B_g)
  clear hB
  go_wp2_with fail
  go_loopg [10, 11, 12] (nw + 1) (fun gg kv _ _ wx => ∃ (i : Nat) (wv : Value) (xs : List Value), i ≤ nw ∧ gg = nw + 1 - i ∧ kv = .int .i64 (i : Int) ∧ wx.heap[g]? = some (.cells #[.pointer tb, .int .i64 0, .int .i64 0, .pointer sl, .slice (some ⟨ss, 0, none⟩) ns ns, .pointer bc, .pointer ep, wv, .pointer (some ⟨ss + 1, 0, none⟩), .slice none 0 0] 127 (0, 0)) ∧ wx.ownsRow B 117 1 wv i xs ∧ B ≤ wx.heap.size ∧ Fp (fun b => b = g) z7 wx)
  case atStart => exact ⟨0, _, [], by omega, by omega, rfl, B_g.out, World.ownsRow_nil _ _ _ 1, Nat.le_of_eq HB.out, Fp.refl _ _⟩
  case round =>
    obtain ⟨i, wv, xs, hi, hg, rfl, hb, hO, hBs, hF⟩ := hrel
    have Hg := Lib.hid hg
    have C_g := Lib.hid hb
    have HO := Lib.hid hO
    have HBs := Lib.hid hBs
    have HF := Lib.hid hF
    clear hg hb hO hBs hF
    have C_gC := hid_blkS B_gC HF.out n_gC
    by_cases hlt : i < nw
    · have ck : (i : Int) < (nw : Int) := by omega
      have hnw := Hnw.out
      have d5 := cell_at C_gC 5 rfl
      have d6 := cell_at C_gC 6 rfl
      have lC := hid_lt C_gC
      go_wp2_with fail
      refine (show Calls _ _ _ _ _ from K5.out _).mono ?_
      rintro e y1 ⟨gw, rfl, hp⟩
      replace C_g := hid_blk C_g hp
      replace HO := Lib.hid (ownsRow_low0 HO.out hp)
      replace HBs := Lib.hid (Nat.le_trans HBs.out hp.size)
      replace HF := Lib.hid (HF.out.trans hp (fun _ _ h => h.elim))
      clear hp d5 d6 lC C_gC
      have c7 := cell_at C_g 7 rfl
      have zg := froz_at C_g
      have lg := hid_lt C_g
      go_wp2_with (at_builtin; go_must (refine wp_append1 rfl _ _ 125 rfl B 117 (.pointer none) 1 Tryz.underlying125 whl22I rfl (by decide) wv i xs rfl (ownsRow_low0 HO.out ((Fp.refl (fun _ => False) y1).alloc _)) y1.heap.size [.pointer gw] rfl rfl (heap_alloc_new y1 _) (by simp [Value.oneCell']) (by omega) (Nat.le_trans HBs.out (by simp)) ?_))
      intro v' w' hown hgr hne hwh
      obtain ⟨gv, cv, rfl⟩ : ∃ gv cv, v' = .slice (some ⟨gv, 0, none⟩) (i + 1) cv := by rcases hown.2 with ⟨h, _⟩ | ⟨g, cap, cur, e, _⟩; (exact absurd h hne); exact ⟨g, cap, e⟩
      have hal : NoW y1 (y1.alloc (.cells #[.pointer gw] 117)) := (Fp.refl _ _).alloc _
      have hnB : ∀ b, b < B → ¬ wv.ownBlock = some b := fun b hb e => by have h1 := (World.ownsRow.lt HO.out b e).1; omega
      have hf : Fp (fun b => wv.ownBlock = some b) (y1.alloc (.cells #[.pointer gw] 117)) w' := Fp.grown (Fp.refl _ _) hgr (fun k e => Or.inr e)
      have hgB := HgB.out
      replace C_g := hid_blkS (hid_blk C_g hal) hf (hnB _ hgB)
      have HO2 := Lib.hid hown
      have HF2 := Lib.hid ((HF.out.trans hal (fun _ _ h => h.elim)).trans hf (fun i hi e => absurd e (hnB i (by have h3 := HB.out; omega))))
      have HBs2 := Lib.hid (Nat.le_trans HBs.out (Nat.le_trans hal.size hf.size))
      clear hown hgr hne hwh hal hnB hf hgB c7 zg lg HO HF HBs
      have c7 := cell_at C_g 7 rfl
      have zg := froz_at C_g
      have lg := hid_lt C_g
      go_wp2_with fail
      clear c7 zg lg
      have hB := set_blk (W := (w'.setCell ⟨g, 7, none⟩ (.slice (some ⟨gv, 0, none⟩) (i + 1) cv))) rfl C_g
      simp only [List.setIfInBounds_toArray, List.set_cons_zero, List.set_cons_succ] at hB
      have hfs := set_now (W := (w'.setCell ⟨g, 7, none⟩ (.slice (some ⟨gv, 0, none⟩) (i + 1) cv))) rfl
      have HO3 := Lib.hid (ownsRow_of_block HO2.out fun x e => hfs.block x (World.ownsRow.lt HO2.out x e).2 (fun e2 => by have h1 : x = g := e2; have h2 := HgB.out; have h3 := (World.ownsRow.lt HO2.out x e).1; omega))
      have HF3 := Lib.hid (HF2.out.trans hfs (fun _ _ e => e))
      have HBs3 := Lib.hid (Nat.le_trans HBs2.out hfs.size)
      clear hfs
      go_roundg (nw - i)
      case measure => have := Hg.out; omega
      case rel => exact ⟨i + 1, _, _, by omega, by omega, by go_num, hB.out, HO3.out, HBs3.out, HF3.out⟩
    · obtain rfl : i = nw := by omega
      have d5 := cell_at C_gC 5 rfl
      have d6 := cell_at C_gC 6 rfl
      have lC := hid_lt C_gC
      go_wp2_with fail
      refine bodyPost_ret (v := .tuple #[.pointer (some ⟨g, 0, none⟩), .int .i64 0]) (by simp only [results, Tryz.results5]; go_simp) rfl ⟨g, rfl, ?_⟩
      exact HN.out.trans HF.out fun k hk e => by have h1 := Rg.out; have h2 : k = g := e; omega
end Go.Proofs.YthmokdfigjffjaaGreatDoor
