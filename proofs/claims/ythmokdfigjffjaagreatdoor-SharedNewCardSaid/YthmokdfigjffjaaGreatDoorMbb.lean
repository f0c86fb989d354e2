/- Texts of this proof, merged: Rt Rv Rw Ry. -/
import Derived.Test.YthmokdfigjffjaaGreatDoorMba
import Derived.Test.YthmokdfigjffjaaGreatDoorMas
namespace Go.Proofs.YthmokdfigjffjaaGreatDoor
set_option linter.unusedVariables false
set_option linter.unusedSimpArgs false
open Go.RowKit Go.Lib Go.Sort
set_option maxHeartbeats 2000000 in
set_option maxRecDepth 100000 in
theorem r07_putc (ty cd : Nat) (hcd : cd < 256) (re da : List UInt8) (hty : ty < 256) (hre : re.length = 4) (hd : da.length ≤ 100000) (w : World) :
    Calls Tryz.prog 117 #[.agg #[.int .u8 ty, .int .u8 cd, .int .u16 0, str re, str da]] w (Ret1 (.tuple #[str ([UInt8.ofNat ty, UInt8.ofNat cd, 0, 0] ++ re ++ da), .int .i64 0]) w) := by
  have K0 := Lib.hid (fun W => r01_put16 0 (by omega) W)
  obtain ⟨t0, ht0⟩ : ∃ t0 : List UInt8, t0 = [UInt8.ofNat ty, UInt8.ofNat cd] := ⟨_, rfl⟩
  have lt0 : t0.length = 2 := by rw [ht0]; rfl
  obtain ⟨z0, hz0⟩ : ∃ z0, z0 = b16 0 := ⟨_, rfl⟩
  have lz0 : z0.length = 2 := by rw [hz0]; rfl
  rw [← hz0] at K0
  obtain ⟨s1, hs1⟩ : ∃ s : List UInt8, s = t0 ++ z0 := ⟨_, rfl⟩
  have ls1 : s1.length ≤ 4 := by rw [hs1]; simp [b16_len]; omega
  have as1 : ∀ W, (Op.stringOp .add ⟨(t0).toArray⟩ ⟨(z0).toArray⟩).run Tryz.prog W = .ok (str s1) W := fun W => by rw [hs1]; exact run_string_add_lists (P := Tryz.prog) W (t0) (z0) (by first | omega | (simp [b16_len]; done) | (simp [b16_len]; omega)) (by first | omega | (simp [b16_len]; done) | (simp [b16_len]; omega))
  obtain ⟨s2, hs2⟩ : ∃ s : List UInt8, s = s1 ++ re := ⟨_, rfl⟩
  have ls2 : s2.length ≤ 8 := by rw [hs2]; simp [b16_len]; omega
  have as2 : ∀ W, (Op.stringOp .add ⟨(s1).toArray⟩ ⟨(re).toArray⟩).run Tryz.prog W = .ok (str s2) W := fun W => by rw [hs2]; exact run_string_add_lists (P := Tryz.prog) W (s1) (re) (by first | omega | (simp [b16_len]; done) | (simp [b16_len]; omega)) (by first | omega | (simp [b16_len]; done) | (simp [b16_len]; omega))
  obtain ⟨s3, hs3⟩ : ∃ s : List UInt8, s = s2 ++ da := ⟨_, rfl⟩
  have ls3 : s3.length ≤ 100008 := by rw [hs3]; simp [b16_len]; omega
  have as3 : ∀ W, (Op.stringOp .add ⟨(s2).toArray⟩ ⟨(da).toArray⟩).run Tryz.prog W = .ok (str s3) W := fun W => by rw [hs3]; exact run_string_add_lists (P := Tryz.prog) W (s2) (da) (by first | omega | (simp [b16_len]; done) | (simp [b16_len]; omega)) (by first | omega | (simp [b16_len]; done) | (simp [b16_len]; omega))
  have hfin : [UInt8.ofNat ty, UInt8.ofNat cd, 0, 0] ++ re ++ da = s3 := by rw [hs3, hs2, hs1, ht0, hz0]; rfl
  rw [hfin]
  have i0 : ((re.length : Int) != 4) = false := by simp [bne]; omega
  have hcv := Lib.hid (fun (W : World) (g : Nat) (T : TypeId) (fr : Nat × Nat) (hb : W.heap[g]? = some (.cells #[.int .u8 (ty : Nat), .int .u8 (cd : Nat)] T fr)) => bytes2g hb (a := ty) (b := cd) rfl rfl hty hcd)
  rw [← ht0] at hcv
  clear hfin ht0 hz0 lt0 lz0 hs1 hs2 hs3 ls1 ls2 ls3
  go_enter Tryz.func117, Tryz.ntmps117
  go_upto_region 3 with fail
  have hb0 := heap_alloc_new w (.cells #[.int .u8 (ty : Nat), .int .u8 (cd : Nat), .int .u16 0, str re, str da] 280)
  have hn0 : NoW w (w.alloc (.cells #[.int .u8 (ty : Nat), .int .u8 (cd : Nat), .int .u16 0, str re, str da] 280)) := (Fp.refl _ _).alloc _
  generalize w.alloc (.cells #[.int .u8 (ty : Nat), .int .u8 (cd : Nat), .int .u16 0, str re, str da] 280) = w0 at *
  obtain ⟨gB, hgB⟩ : ∃ gB, gB = w.heap.size := ⟨_, rfl⟩
  rw [← hgB] at hb0 ⊢
  clear hgB
  have f0 : w0.cell? ⟨gB, 0, none⟩ = some (.int .u8 (ty : Nat)) := by simp [World.cell?, hb0]
  have f1 : w0.cell? ⟨gB, 1, none⟩ = some (.int .u8 (cd : Nat)) := by simp [World.cell?, hb0]
  have f2 : w0.cell? ⟨gB, 2, none⟩ = some (.int .u16 0) := by simp [World.cell?, hb0]
  have f3 : w0.cell? ⟨gB, 3, none⟩ = some (str re) := by simp [World.cell?, hb0]
  have f4 : w0.cell? ⟨gB, 4, none⟩ = some (str da) := by simp [World.cell?, hb0]
  have lB := cell_lt f0
  clear hb0
  go_cut [2, 3] (fun s2 s3' wx => s2 = str s3 ∧ s3' = .int .i64 0 ∧ NoW w0 wx)
  case first =>
    refine wp_region_held_drew (S := fun wx => NoW w0 wx) (by kernel_rfl) (Fp.drew (Fp.refl _ _)) (fun hHeld => ?_)
    generalize w0.drew = wd at *
    (refine tk 0 (some 8) ?_ ?_ ?_; rotate_left; (focus (intro wS hSw; go_simp; try with_reducible rfl)); (try simp only [Act.put, List.setIfInBounds_toArray, List.set_cons_zero, List.set_cons_succ]))
    (refine tk 1 (some 9) ?_ ?_ ?_; rotate_left; (focus (intro wS hSw; (have qt := (hSw.cell (p := ⟨gB, 0, none⟩) lB id).trans f0); go_simp; try with_reducible rfl)); (try simp only [Act.put, List.setIfInBounds_toArray, List.set_cons_zero, List.set_cons_succ]))
    (refine tk 2 (some 10) ?_ ?_ ?_; rotate_left; (focus (intro wS hSw; go_simp; try with_reducible rfl)); (try simp only [Act.put, List.setIfInBounds_toArray, List.set_cons_zero, List.set_cons_succ]))
    (refine tk 3 (some 11) ?_ ?_ ?_; rotate_left; (focus (intro wS hSw; (have qt := (hSw.cell (p := ⟨gB, 1, none⟩) lB id).trans f1); go_simp; try with_reducible rfl)); (try simp only [Act.put, List.setIfInBounds_toArray, List.set_cons_zero, List.set_cons_succ]))
    (refine tk 6 (some 14) ?_ ?_ ?_; rotate_left; (focus (intro wS hSw; go_simp; try with_reducible rfl)); (try simp only [Act.put, List.setIfInBounds_toArray, List.set_cons_zero, List.set_cons_succ]))
    (refine tk 7 (some 15) ?_ ?_ ?_; rotate_left; (focus (intro wS hSw; (have qt := (hSw.cell (p := ⟨gB, 2, none⟩) lB id).trans f2); go_simp; try with_reducible rfl)); (try simp only [Act.put, List.setIfInBounds_toArray, List.set_cons_zero, List.set_cons_succ]))
    (refine tk 10 (some 18) ?_ ?_ ?_; rotate_left; (focus (intro wS hSw; go_simp; try with_reducible rfl)); (try simp only [Act.put, List.setIfInBounds_toArray, List.set_cons_zero, List.set_cons_succ]))
    (refine tk 11 (some 19) ?_ ?_ ?_; rotate_left; (focus (intro wS hSw; (have qt := (hSw.cell (p := ⟨gB, 3, none⟩) lB id).trans f3); go_simp; try with_reducible rfl)); (try simp only [Act.put, List.setIfInBounds_toArray, List.set_cons_zero, List.set_cons_succ]))
    (refine tk 13 (some 21) ?_ ?_ ?_; rotate_left; (focus (intro wS hSw; go_simp; try with_reducible rfl)); (try simp only [Act.put, List.setIfInBounds_toArray, List.set_cons_zero, List.set_cons_succ]))
    (refine tk 14 (some 22) ?_ ?_ ?_; rotate_left; (focus (intro wS hSw; (have qt := (hSw.cell (p := ⟨gB, 4, none⟩) lB id).trans f4); go_simp; try with_reducible rfl)); (try simp only [Act.put, List.setIfInBounds_toArray, List.set_cons_zero, List.set_cons_succ]))
    refine wpAnyH_ready (rs := [4, 8]) (by kernel_rfl) (by simp) ?_
    refine AllReadyH.cons rfl (fun K hK => ?_) (AllReadyH.cons rfl (fun K hK => ?_) AllReadyH.nil)
    · go_simp
      have hbS := heap_alloc_new wd (.cells #[.int .u8 (ty : Nat), .int .u8 (cd : Nat)] 5)
      refine hK.out _ _ (hHeld.alloc _) (fun hHeld2 => ?_)
      clear hK K hHeld
      try simp only [Act.put, List.setIfInBounds_toArray, List.set_cons_zero, List.set_cons_succ]
      generalize wd.alloc (.cells #[.int .u8 (ty : Nat), .int .u8 (cd : Nat)] 5) = w1 at *
      obtain ⟨gS, hgS⟩ : ∃ gS, gS = wd.heap.size := ⟨_, rfl⟩
      rw [← hgS] at hbS ⊢
      clear hgS
      have hHeld := hHeld2
      clear hHeld2
      refine wpAnyH_ready (rs := [5, 8]) (by kernel_rfl) (by simp) ?_
      refine AllReadyH.cons rfl (fun K hK => ?_) (AllReadyH.cons rfl (fun K hK => ?_) AllReadyH.nil)
      · have cv := hcv.out w1 gS _ _ hbS
        go_simp
        refine hK.out _ _ hHeld (fun hHeld => ?_)
        clear hK K cv
        try simp only [Act.put, List.setIfInBounds_toArray, List.set_cons_zero, List.set_cons_succ]
        refine wpAnyH_ready (rs := [8]) (by kernel_rfl) (by simp) ?_
        refine AllReadyH.cons rfl (fun K hK => ?_) AllReadyH.nil
        go_simp
        go_at_call 165
        refine (show Calls _ _ _ _ _ from K0.out _).mono ?_
        rintro e w2 ⟨rfl, hp⟩
        have hn : NoW w0 w2 := Fp.trans hHeld hp (fun _ _ h => h)
        clear hp
        refine hK.out _ _ hn (fun hHeld => ?_)
        clear hK K hn
        try simp only [Act.put, List.setIfInBounds_toArray, List.set_cons_zero, List.set_cons_succ]
        (refine tk 9 (some 17) ?_ ?_ ?_; rotate_left; (focus (intro wS hSw; go_simp; try with_reducible rfl)); (try simp only [Act.put, List.setIfInBounds_toArray, List.set_cons_zero, List.set_cons_succ]))
        (refine tk 12 (some 20) ?_ ?_ ?_; rotate_left; (focus (intro wS hSw; go_simp; try with_reducible rfl)); (try simp only [Act.put, List.setIfInBounds_toArray, List.set_cons_zero, List.set_cons_succ]))
        (refine tk 15 (some 23) ?_ ?_ ?_; rotate_left; (focus (intro wS hSw; go_simp; try with_reducible rfl)); (try simp only [Act.put, List.setIfInBounds_toArray, List.set_cons_zero, List.set_cons_succ]))
        (refine tk 16 (some 2) ?_ ?_ ?_; rotate_left; (focus (intro wS hSw; go_simp; try with_reducible rfl)); (try simp only [Act.put, List.setIfInBounds_toArray, List.set_cons_zero, List.set_cons_succ]))
        (refine tk 17 (some 3) ?_ ?_ ?_; rotate_left; (focus (intro wS hSw; go_simp; try with_reducible rfl)); (try simp only [Act.put, List.setIfInBounds_toArray, List.set_cons_zero, List.set_cons_succ]))
        refine wpAnyH_done (by kernel_rfl) ?_ _
        go_wp2_with fail
        go_meet
        exact ⟨rfl, rfl, hHeld⟩
      · go_simp
        go_at_call 165
        refine (show Calls _ _ _ _ _ from K0.out _).mono ?_
        rintro e w2 ⟨rfl, hp⟩
        have hn : NoW w0 w2 := Fp.trans hHeld hp (fun _ _ h => h)
        have hbS := (hp.block _ (Array.getElem?_eq_some_iff.1 hbS).1 id).trans hbS
        clear hp
        refine hK.out _ _ hn (fun hHeld => ?_)
        clear hK K hn
        try simp only [Act.put, List.setIfInBounds_toArray, List.set_cons_zero, List.set_cons_succ]
        refine wpAnyH_ready (rs := [5]) (by kernel_rfl) (by simp) ?_
        refine AllReadyH.cons rfl (fun K hK => ?_) AllReadyH.nil
        have cv := hcv.out w2 gS _ _ hbS
        go_simp
        refine hK.out _ _ hHeld (fun hHeld => ?_)
        clear hK K cv
        try simp only [Act.put, List.setIfInBounds_toArray, List.set_cons_zero, List.set_cons_succ]
        (refine tk 9 (some 17) ?_ ?_ ?_; rotate_left; (focus (intro wS hSw; go_simp; try with_reducible rfl)); (try simp only [Act.put, List.setIfInBounds_toArray, List.set_cons_zero, List.set_cons_succ]))
        (refine tk 12 (some 20) ?_ ?_ ?_; rotate_left; (focus (intro wS hSw; go_simp; try with_reducible rfl)); (try simp only [Act.put, List.setIfInBounds_toArray, List.set_cons_zero, List.set_cons_succ]))
        (refine tk 15 (some 23) ?_ ?_ ?_; rotate_left; (focus (intro wS hSw; go_simp; try with_reducible rfl)); (try simp only [Act.put, List.setIfInBounds_toArray, List.set_cons_zero, List.set_cons_succ]))
        (refine tk 16 (some 2) ?_ ?_ ?_; rotate_left; (focus (intro wS hSw; go_simp; try with_reducible rfl)); (try simp only [Act.put, List.setIfInBounds_toArray, List.set_cons_zero, List.set_cons_succ]))
        (refine tk 17 (some 3) ?_ ?_ ?_; rotate_left; (focus (intro wS hSw; go_simp; try with_reducible rfl)); (try simp only [Act.put, List.setIfInBounds_toArray, List.set_cons_zero, List.set_cons_succ]))
        refine wpAnyH_done (by kernel_rfl) ?_ _
        go_wp2_with fail
        go_meet
        exact ⟨rfl, rfl, hHeld⟩
    · go_simp
      go_at_call 165
      refine (show Calls _ _ _ _ _ from K0.out _).mono ?_
      rintro e w1 ⟨rfl, hp⟩
      have hn : NoW w0 w1 := Fp.trans hHeld hp (fun _ _ h => h)
      clear hp
      refine hK.out _ _ hn (fun hHeld => ?_)
      clear hK K hn
      try simp only [Act.put, List.setIfInBounds_toArray, List.set_cons_zero, List.set_cons_succ]
      refine wpAnyH_ready (rs := [4]) (by kernel_rfl) (by simp) ?_
      refine AllReadyH.cons rfl (fun K hK => ?_) AllReadyH.nil
      go_simp
      have hbS := heap_alloc_new w1 (.cells #[.int .u8 (ty : Nat), .int .u8 (cd : Nat)] 5)
      refine hK.out _ _ (hHeld.alloc _) (fun hHeld2 => ?_)
      clear hK K hHeld
      try simp only [Act.put, List.setIfInBounds_toArray, List.set_cons_zero, List.set_cons_succ]
      generalize w1.alloc (.cells #[.int .u8 (ty : Nat), .int .u8 (cd : Nat)] 5) = w2 at *
      obtain ⟨gS, hgS⟩ : ∃ gS, gS = w1.heap.size := ⟨_, rfl⟩
      rw [← hgS] at hbS ⊢
      clear hgS
      have hHeld := hHeld2
      clear hHeld2
      refine wpAnyH_ready (rs := [5]) (by kernel_rfl) (by simp) ?_
      refine AllReadyH.cons rfl (fun K hK => ?_) AllReadyH.nil
      have cv := hcv.out w2 gS _ _ hbS
      go_simp
      refine hK.out _ _ hHeld (fun hHeld => ?_)
      clear hK K cv
      try simp only [Act.put, List.setIfInBounds_toArray, List.set_cons_zero, List.set_cons_succ]
      (refine tk 9 (some 17) ?_ ?_ ?_; rotate_left; (focus (intro wS hSw; go_simp; try with_reducible rfl)); (try simp only [Act.put, List.setIfInBounds_toArray, List.set_cons_zero, List.set_cons_succ]))
      (refine tk 12 (some 20) ?_ ?_ ?_; rotate_left; (focus (intro wS hSw; go_simp; try with_reducible rfl)); (try simp only [Act.put, List.setIfInBounds_toArray, List.set_cons_zero, List.set_cons_succ]))
      (refine tk 15 (some 23) ?_ ?_ ?_; rotate_left; (focus (intro wS hSw; go_simp; try with_reducible rfl)); (try simp only [Act.put, List.setIfInBounds_toArray, List.set_cons_zero, List.set_cons_succ]))
      (refine tk 16 (some 2) ?_ ?_ ?_; rotate_left; (focus (intro wS hSw; go_simp; try with_reducible rfl)); (try simp only [Act.put, List.setIfInBounds_toArray, List.set_cons_zero, List.set_cons_succ]))
      (refine tk 17 (some 3) ?_ ?_ ?_; rotate_left; (focus (intro wS hSw; go_simp; try with_reducible rfl)); (try simp only [Act.put, List.setIfInBounds_toArray, List.set_cons_zero, List.set_cons_succ]))
      refine wpAnyH_done (by kernel_rfl) ?_ _
      go_wp2_with fail
      go_meet
      exact ⟨rfl, rfl, hHeld⟩
  case rest =>
    obtain ⟨rfl, rfl, hn4⟩ := hcut
    generalize wc = w4 at *
    go_wp2_with fail
    refine bodyPost_ret (v := .tuple #[str s3, .int .i64 0]) (by simp [results, Tryz.results117, go_sem]) rfl ⟨rfl, hn0.trans hn4 (fun _ _ h => h)⟩

end Go.Proofs.YthmokdfigjffjaaGreatDoor

namespace Go.Proofs.YthmokdfigjffjaaGreatDoor
set_option linter.unusedVariables false
set_option linter.unusedSimpArgs false
open Go.RowKit
abbrev wireA (k p f t b p0 p1 fl : Nat) (raw : Value) : Value := .agg #[.int .u8 k, .int .u8 p, .int .u8 f, .int .u8 t, .int .u8 b, .int .u8 p0, .int .u8 p1, .int .u8 fl, raw]
abbrev wireC (k p f t b p0 p1 fl : Nat) (raw : Value) : List CV := [.i .u8 k, .i .u8 p, .i .u8 f, .i .u8 t, .i .u8 b, .i .u8 p0, .i .u8 p1, .i .u8 fl, .v raw]
theorem wire_ok {k p f t b p0 p1 fl : Nat} {raw : Value} (hr : raw.oneCell' = true) (L : Hp) : (SV.e (.a (wireC k p f t b p0 p1 fl raw))).ok L := by
  intro x hx
  simp only [wireC, List.mem_cons, List.not_mem_nil, or_false] at hx
  rcases hx with rfl | rfl | rfl | rfl | rfl | rfl | rfl | rfl | rfl <;> first | trivial | exact hr
theorem flags_ok (k p f t b p0 p1 fl : Nat) (raw : Value) (hr : raw.oneCell' = true) (hf : fl < 256) : ∃ g : Nat, g < 256 ∧ ∀ w, Calls Tryz.prog 60 #[wireA k p f t b p0 p1 fl raw] w (Ret1 (.int .u8 g) w) := by
  by_cases hq : fl % 4 < 2
  · refine ⟨2, by omega, fun w => ?_⟩
    refine enterS cx Tryz.func60 rfl rfl rfl [.e (.a (wireC k p f t b p0 p1 fl raw))] _ (st0 w) (okc (wire_ok hr _) okn) rfl ?_
    intro c hc
    refine Br.yes (decide_eq_true ?_) (finw (newb hc New.nil) rfl)
    rw [Int.tmod_eq_emod_of_nonneg (by omega)]; omega
  · refine ⟨fl, hf, fun w => ?_⟩
    refine enterS cx Tryz.func60 rfl rfl rfl [.e (.a (wireC k p f t b p0 p1 fl raw))] _ (st0 w) (okc (wire_ok hr _) okn) rfl ?_
    intro c hc
    refine Br.no (decide_eq_false ?_) (finw (newb hc New.nil) rfl)
    rw [Int.tmod_eq_emod_of_nonneg (by omega)]; omega
def ptI : List Nat := [167772161, 167772162, 167772163, 134744072, 117901063, 151587081, 151587092, 134744073]
def ptP : List Nat := [4000, 4001, 53, 53, 80, 81, 82, 83, 1000, 1001, 1002, 1003, 1004, 1010, 8000, 8001]
theorem point_ok (h p : Nat) (w : World) : Calls Tryz.prog 57 #[.int .u8 h, .int .u8 p] w (Ret1 (.agg #[.int .u32 (ptI.getD (h % 8) 0 : Nat), .int .u16 (ptP.getD (p % 16) 0 : Nat)]) w) := by
  refine enterS cx Tryz.func57 rfl rfl rfl [cI .u8 h, cI .u8 p] _ (st0 w) (okc trivial (okc trivial okn)) rfl ?_
  intro b hb
  refine reg_go cx (plc [0, 2, 4, 6, 8, 10, 12, 14, 16] (.l 9)) [0] (by kernel_rfl) ?_
  have h1 : h % 8 < 8 := Nat.mod_lt _ (by omega)
  have h2 : p % 16 < 16 := Nat.mod_lt _ (by omega)
  have e1 : (h : Int).tmod 8 = Int.ofNat (h % 8) := by rw [Int.tmod_eq_emod_of_nonneg (by omega)]; exact (Int.natCast_emod h 8).symm
  have e2 : (p : Int).tmod 16 = Int.ofNat (p % 16) := by rw [Int.tmod_eq_emod_of_nonneg (by omega)]; exact (Int.natCast_emod p 16).symm
  generalize h % 8 = i at *
  generalize p % 16 = j at *
  conv => whnf
  rw [e1]
  rcases i with _ | _ | _ | _ | _ | _ | _ | _ | i <;> first | omega | skip
  all_goals
    conv => whnf
    rw [e2]
    clear e1 e2 h1
    rcases j with _ | _ | _ | _ | _ | _ | _ | _ | _ | _ | _ | _ | _ | _ | _ | _ | j <;> first | omega | exact finw (newb hb New.nil) rfl
theorem ptI_lt (i : Nat) : ptI.getD i 0 < 4294967296 := by
  rcases i with _ | _ | _ | _ | _ | _ | _ | _ | i <;> first | decide | (simp [ptI])
theorem ptP_lt (i : Nat) : ptP.getD i 0 < 65536 := by
  rcases i with _ | _ | _ | _ | _ | _ | _ | _ | _ | _ | _ | _ | _ | _ | _ | _ | i <;> first | decide | (simp [ptP])
end Go.Proofs.YthmokdfigjffjaaGreatDoor

namespace Go.Proofs.YthmokdfigjffjaaGreatDoor
set_option linter.unusedVariables false
set_option linter.unusedSimpArgs false
open Go.RowKit
theorem pt_ok (a b : Int) (L : Hp) : (SV.e (.a [.i .u32 a, .i .u16 b])).ok L := by simp [SV.ok, EV.ok, CV.ok]
section
variable (k p f t b p0 p1 fl : Nat) (raw : Value) (hr : raw.oneCell' = true) (w : World)
include hr
theorem tuple0 (e1 : (p : Int).tmod 4 = Int.ofNat 0) : Calls Tryz.prog 58 #[wireA k p f t b p0 p1 fl raw] w (Ret1 (.agg #[.int .u8 17, .int .u32 (ptI.getD (f % 8) 0 : Nat), .int .u16 (ptP.getD (p0 % 16) 0 : Nat), .int .u32 (ptI.getD (t % 8) 0 : Nat), .int .u16 (ptP.getD (p1 % 16) 0 : Nat)]) w) := by
  refine enterS cx Tryz.func58 rfl rfl rfl [.e (.a (wireC k p f t b p0 p1 fl raw))] _ (st0 w) (okc (wire_ok hr _) okn) rfl ?_
  intro c hc d hd
  refine reg_go cx (plc [0, 2, 4, 6, 8, 10, 12, 14, 16, 18, 22, 24, 26, 28, 30] (.b 10 (plc [] (.b 16 (pl [34, 37, 39]) (.x 18 (pl [33, 34, 39])))) (.x 18 (pl [21, 33, 34, 39])))) [] (by kernel_rfl) ?_
  conv => whnf
  rw [e1]
  refine ⟨?_, ?_⟩
  · refine call1 (fun w1 _ => point_ok f p0 w1) (.e (.a [.i .u32 _, .i .u16 _])) rfl (pt_ok _ _ _) ?_
    refine ⟨?_, ?_⟩
    · refine call1 (fun w1 _ => point_ok t p1 w1) (.e (.a [.i .u32 _, .i .u16 _])) rfl (pt_ok _ _ _) ?_
      intro e he
      refine Br.no rfl ?_
      refine Br.no rfl ?_
      exact finw (newb hc (newb hd (newb he New.nil))) rfl
    · intro e he
      refine call1 (fun w1 _ => point_ok t p1 w1) (.e (.a [.i .u32 _, .i .u16 _])) rfl (pt_ok _ _ _) ?_
      refine Br.no rfl ?_
      refine Br.no rfl ?_
      exact finw (newb hc (newb hd (newb he New.nil))) rfl
  · intro e he
    refine call1 (fun w1 _ => point_ok f p0 w1) (.e (.a [.i .u32 _, .i .u16 _])) rfl (pt_ok _ _ _) ?_
    refine call1 (fun w1 _ => point_ok t p1 w1) (.e (.a [.i .u32 _, .i .u16 _])) rfl (pt_ok _ _ _) ?_
    refine Br.no rfl ?_
    refine Br.no rfl ?_
    exact finw (newb hc (newb hd (newb he New.nil))) rfl
theorem tuple1 (e1 : (p : Int).tmod 4 = Int.ofNat 1) : Calls Tryz.prog 58 #[wireA k p f t b p0 p1 fl raw] w (Ret1 (.agg #[.int .u8 6, .int .u32 (ptI.getD (f % 8) 0 : Nat), .int .u16 (ptP.getD (p0 % 16) 0 : Nat), .int .u32 (ptI.getD (t % 8) 0 : Nat), .int .u16 (ptP.getD (p1 % 16) 0 : Nat)]) w) := by
  refine enterS cx Tryz.func58 rfl rfl rfl [.e (.a (wireC k p f t b p0 p1 fl raw))] _ (st0 w) (okc (wire_ok hr _) okn) rfl ?_
  intro c hc d hd
  refine reg_go cx (plc [0, 2, 4, 6, 8, 10, 12, 14, 16, 18, 22, 24, 26, 28, 30] (.b 10 (plc [] (.b 16 (pl [34, 37, 39]) (.x 18 (pl [33, 34, 39])))) (.x 18 (pl [21, 33, 34, 39])))) [] (by kernel_rfl) ?_
  conv => whnf
  rw [e1]
  refine ⟨?_, ?_⟩
  · refine call1 (fun w1 _ => point_ok f p0 w1) (.e (.a [.i .u32 _, .i .u16 _])) rfl (pt_ok _ _ _) ?_
    refine ⟨?_, ?_⟩
    · refine call1 (fun w1 _ => point_ok t p1 w1) (.e (.a [.i .u32 _, .i .u16 _])) rfl (pt_ok _ _ _) ?_
      intro e he
      refine Br.no rfl ?_
      refine Br.no rfl ?_
      exact finw (newb hc (newb hd (newb he New.nil))) rfl
    · intro e he
      refine call1 (fun w1 _ => point_ok t p1 w1) (.e (.a [.i .u32 _, .i .u16 _])) rfl (pt_ok _ _ _) ?_
      refine Br.no rfl ?_
      refine Br.no rfl ?_
      exact finw (newb hc (newb hd (newb he New.nil))) rfl
  · intro e he
    refine call1 (fun w1 _ => point_ok f p0 w1) (.e (.a [.i .u32 _, .i .u16 _])) rfl (pt_ok _ _ _) ?_
    refine call1 (fun w1 _ => point_ok t p1 w1) (.e (.a [.i .u32 _, .i .u16 _])) rfl (pt_ok _ _ _) ?_
    refine Br.no rfl ?_
    refine Br.no rfl ?_
    exact finw (newb hc (newb hd (newb he New.nil))) rfl
theorem tuple3 (e1 : (p : Int).tmod 4 = Int.ofNat 3) : Calls Tryz.prog 58 #[wireA k p f t b p0 p1 fl raw] w (Ret1 (.agg #[.int .u8 17, .int .u32 (ptI.getD (f % 8) 0 : Nat), .int .u16 (ptP.getD (p0 % 16) 0 : Nat), .int .u32 (ptI.getD (t % 8) 0 : Nat), .int .u16 (ptP.getD (p1 % 16) 0 : Nat)]) w) := by
  refine enterS cx Tryz.func58 rfl rfl rfl [.e (.a (wireC k p f t b p0 p1 fl raw))] _ (st0 w) (okc (wire_ok hr _) okn) rfl ?_
  intro c hc d hd
  refine reg_go cx (plc [0, 2, 4, 6, 8, 10, 12, 14, 16, 18, 22, 24, 26, 28, 30] (.b 10 (plc [] (.b 16 (pl [34, 37, 39]) (.x 18 (pl [33, 34, 39])))) (.x 18 (pl [21, 33, 34, 39])))) [] (by kernel_rfl) ?_
  conv => whnf
  rw [e1]
  refine ⟨?_, ?_⟩
  · refine call1 (fun w1 _ => point_ok f p0 w1) (.e (.a [.i .u32 _, .i .u16 _])) rfl (pt_ok _ _ _) ?_
    refine ⟨?_, ?_⟩
    · refine call1 (fun w1 _ => point_ok t p1 w1) (.e (.a [.i .u32 _, .i .u16 _])) rfl (pt_ok _ _ _) ?_
      intro e he
      refine Br.no rfl ?_
      refine Br.no rfl ?_
      exact finw (newb hc (newb hd (newb he New.nil))) rfl
    · intro e he
      refine call1 (fun w1 _ => point_ok t p1 w1) (.e (.a [.i .u32 _, .i .u16 _])) rfl (pt_ok _ _ _) ?_
      refine Br.no rfl ?_
      refine Br.no rfl ?_
      exact finw (newb hc (newb hd (newb he New.nil))) rfl
  · intro e he
    refine call1 (fun w1 _ => point_ok f p0 w1) (.e (.a [.i .u32 _, .i .u16 _])) rfl (pt_ok _ _ _) ?_
    refine call1 (fun w1 _ => point_ok t p1 w1) (.e (.a [.i .u32 _, .i .u16 _])) rfl (pt_ok _ _ _) ?_
    refine Br.no rfl ?_
    refine Br.no rfl ?_
    exact finw (newb hc (newb hd (newb he New.nil))) rfl
theorem tuple2z (e1 : (p : Int).tmod 4 = Int.ofNat 2) (hz : (fl : Int).tmod 4 = 0) : Calls Tryz.prog 58 #[wireA k p f t b p0 p1 fl raw] w (Ret1 (.agg #[.int .u8 1, .int .u32 (ptI.getD (f % 8) 0 : Nat), .int .u16 0, .int .u32 (ptI.getD (t % 8) 0 : Nat), .int .u16 (ptP.getD (p1 % 16) 0 : Nat)]) w) := by
  refine enterS cx Tryz.func58 rfl rfl rfl [.e (.a (wireC k p f t b p0 p1 fl raw))] _ (st0 w) (okc (wire_ok hr _) okn) rfl ?_
  intro c hc d hd
  refine reg_go cx (plc [0, 2, 4, 6, 8, 10, 12, 14, 16, 18, 22, 24, 26, 28, 30] (.b 10 (plc [] (.b 16 (pl [34, 37, 39]) (.x 18 (pl [33, 34, 39])))) (.x 18 (pl [21, 33, 34, 39])))) [] (by kernel_rfl) ?_
  conv => whnf
  rw [e1]
  refine ⟨?_, ?_⟩
  · refine call1 (fun w1 _ => point_ok f p0 w1) (.e (.a [.i .u32 _, .i .u16 _])) rfl (pt_ok _ _ _) ?_
    refine ⟨?_, ?_⟩
    · refine call1 (fun w1 _ => point_ok t p1 w1) (.e (.a [.i .u32 _, .i .u16 _])) rfl (pt_ok _ _ _) ?_
      intro e he
      refine Br.yes rfl ?_
      refine Br.yes (decide_eq_true hz) ?_
      refine Br.yes rfl ?_
      refine Br.no (decide_eq_false (by omega)) ?_
      exact finw (newb hc (newb hd (newb he New.nil))) rfl
    · intro e he
      refine call1 (fun w1 _ => point_ok t p1 w1) (.e (.a [.i .u32 _, .i .u16 _])) rfl (pt_ok _ _ _) ?_
      refine Br.yes rfl ?_
      refine Br.yes (decide_eq_true hz) ?_
      refine Br.yes rfl ?_
      refine Br.no (decide_eq_false (by omega)) ?_
      exact finw (newb hc (newb hd (newb he New.nil))) rfl
  · intro e he
    refine call1 (fun w1 _ => point_ok f p0 w1) (.e (.a [.i .u32 _, .i .u16 _])) rfl (pt_ok _ _ _) ?_
    refine call1 (fun w1 _ => point_ok t p1 w1) (.e (.a [.i .u32 _, .i .u16 _])) rfl (pt_ok _ _ _) ?_
    refine Br.yes rfl ?_
    refine Br.yes (decide_eq_true hz) ?_
    refine Br.yes rfl ?_
    refine Br.no (decide_eq_false (by omega)) ?_
    exact finw (newb hc (newb hd (newb he New.nil))) rfl
theorem tuple2p (e1 : (p : Int).tmod 4 = Int.ofNat 2) (hz : ¬ (fl : Int).tmod 4 = 0) : Calls Tryz.prog 58 #[wireA k p f t b p0 p1 fl raw] w (Ret1 (.agg #[.int .u8 1, .int .u32 (ptI.getD (f % 8) 0 : Nat), .int .u16 (ptP.getD (p0 % 16) 0 : Nat), .int .u32 (ptI.getD (t % 8) 0 : Nat), .int .u16 0]) w) := by
  refine enterS cx Tryz.func58 rfl rfl rfl [.e (.a (wireC k p f t b p0 p1 fl raw))] _ (st0 w) (okc (wire_ok hr _) okn) rfl ?_
  intro c hc d hd
  refine reg_go cx (plc [0, 2, 4, 6, 8, 10, 12, 14, 16, 18, 22, 24, 26, 28, 30] (.b 10 (plc [] (.b 16 (pl [34, 37, 39]) (.x 18 (pl [33, 34, 39])))) (.x 18 (pl [21, 33, 34, 39])))) [] (by kernel_rfl) ?_
  conv => whnf
  rw [e1]
  have hnn : 0 ≤ (fl : Int).tmod 4 := Int.tmod_nonneg _ (by omega)
  refine ⟨?_, ?_⟩
  · refine call1 (fun w1 _ => point_ok f p0 w1) (.e (.a [.i .u32 _, .i .u16 _])) rfl (pt_ok _ _ _) ?_
    refine ⟨?_, ?_⟩
    · refine call1 (fun w1 _ => point_ok t p1 w1) (.e (.a [.i .u32 _, .i .u16 _])) rfl (pt_ok _ _ _) ?_
      intro e he
      refine Br.yes rfl ?_
      refine Br.no (decide_eq_false hz) ?_
      refine Br.yes rfl ?_
      refine Br.yes (decide_eq_true (by omega)) ?_
      exact finw (newb hc (newb hd (newb he New.nil))) rfl
    · intro e he
      refine call1 (fun w1 _ => point_ok t p1 w1) (.e (.a [.i .u32 _, .i .u16 _])) rfl (pt_ok _ _ _) ?_
      refine Br.yes rfl ?_
      refine Br.no (decide_eq_false hz) ?_
      refine Br.yes rfl ?_
      refine Br.yes (decide_eq_true (by omega)) ?_
      exact finw (newb hc (newb hd (newb he New.nil))) rfl
  · intro e he
    refine call1 (fun w1 _ => point_ok f p0 w1) (.e (.a [.i .u32 _, .i .u16 _])) rfl (pt_ok _ _ _) ?_
    refine call1 (fun w1 _ => point_ok t p1 w1) (.e (.a [.i .u32 _, .i .u16 _])) rfl (pt_ok _ _ _) ?_
    refine Br.yes rfl ?_
    refine Br.no (decide_eq_false hz) ?_
    refine Br.yes rfl ?_
    refine Br.yes (decide_eq_true (by omega)) ?_
    exact finw (newb hc (newb hd (newb he New.nil))) rfl
/-- A wire's tuple: what it is. -/
theorem tuple_ok : ∃ pr sr a ds b' : Nat, (pr = 17 ∨ pr = 6 ∨ pr = 1) ∧ sr < 4294967296 ∧ a < 65536 ∧ ds < 4294967296 ∧ b' < 65536 ∧ ∀ w, Calls Tryz.prog 58 #[wireA k p f t b p0 p1 fl raw] w (Ret1 (.agg #[.int .u8 pr, .int .u32 sr, .int .u16 a, .int .u32 ds, .int .u16 b']) w) := by
  have e1 : (p : Int).tmod 4 = Int.ofNat (p % 4) := by rw [Int.tmod_eq_emod_of_nonneg (by omega)]; exact (Int.natCast_emod p 4).symm
  have h1 : p % 4 < 4 := Nat.mod_lt _ (by omega)
  generalize p % 4 = i at *
  rcases i with _ | _ | _ | _ | i
  · exact ⟨17, _, _, _, _, by omega, ptI_lt _, ptP_lt _, ptI_lt _, ptP_lt _, fun w => tuple0 k p f t b p0 p1 fl raw hr w e1⟩
  · exact ⟨6, _, _, _, _, by omega, ptI_lt _, ptP_lt _, ptI_lt _, ptP_lt _, fun w => tuple1 k p f t b p0 p1 fl raw hr w e1⟩
  · by_cases hz : (fl : Int).tmod 4 = 0
    · exact ⟨1, _, 0, _, _, by omega, ptI_lt _, by omega, ptI_lt _, ptP_lt _, fun w => tuple2z k p f t b p0 p1 fl raw hr w e1 hz⟩
    · exact ⟨1, _, _, _, 0, by omega, ptI_lt _, ptP_lt _, ptI_lt _, by omega, fun w => tuple2p k p f t b p0 p1 fl raw hr w e1 hz⟩
  · exact ⟨17, _, _, _, _, by omega, ptI_lt _, ptP_lt _, ptI_lt _, ptP_lt _, fun w => tuple3 k p f t b p0 p1 fl raw hr w e1⟩
  · omega
end
end Go.Proofs.YthmokdfigjffjaaGreatDoor

namespace Go.Proofs.YthmokdfigjffjaaGreatDoor
set_option linter.unusedVariables false
set_option linter.unusedSimpArgs false
open Go.RowKit Go.Lib Go.Sort
theorem udpSeal_le (a b : Nat) (s : List UInt8) : (udpSeal a b s).length ≤ s.length := by
  unfold udpSeal; split
  · exact Nat.le_refl _
  · simp [b16_len]; omega
theorem tcpSeal_le (a b : Nat) (s : List UInt8) : (tcpSeal a b s).length ≤ s.length := by
  unfold tcpSeal; split
  · exact Nat.le_refl _
  · simp [b16_len]; omega
theorem icmpSeal_le (s : List UInt8) : (icmpSeal s).length ≤ s.length := by
  unfold icmpSeal; split
  · exact Nat.le_refl _
  · simp [b16_len]; omega
theorem ipPut_len (ttl pr sr ds : Nat) (d : List UInt8) : (ipPut ttl pr sr ds d).length = 20 + d.length := by
  simp [ipPut, ipHead, b16_len, b32]; omega
theorem made_any (pr sr a ds b fl ttl : Nat) (d : List UInt8) (hd : d.length ≤ 100) (hpr : pr = 17 ∨ pr = 6 ∨ pr = 1) (hsr : sr < 4294967296) (ha : a < 65536) (hds : ds < 4294967296) (hb : b < 65536) (hfl : fl < 256) (httl : ttl < 256) :
    ∃ t : List UInt8, t.length ≤ 200 ∧ ∀ w, Calls Tryz.prog 59 #[.agg #[.int .u8 pr, .int .u32 sr, .int .u16 a, .int .u32 ds, .int .u16 b], .int .u8 fl, .int .u8 ttl, str d] w (Ret1 (str t) w) := by
  rcases hpr with rfl | rfl | rfl
  · have hl := udpSeal_le sr ds (udpRaw a b d)
    have h2 : (udpRaw a b d).length = 8 + d.length := by simp [udpRaw, b16_len]; omega
    exact ⟨_, by rw [ipPut_len]; omega, fun w => made_ok 17 sr ds a b fl ttl d _ httl (by omega) hsr hds (by omega) (fun W => load_udp sr ds a b fl d ha hb hsr hds (by omega) W) w⟩
  · have hl := tcpSeal_le sr ds (tcpRaw a b fl d)
    have h2 : (tcpRaw a b fl d).length = 20 + d.length := by simp [tcpRaw, b16_len, b32]; omega
    exact ⟨_, by rw [ipPut_len]; omega, fun w => made_ok 6 sr ds a b fl ttl d _ httl (by omega) hsr hds (by omega) (fun W => load_tcp sr ds a b fl d ha hb hsr hds hfl (by omega) W) w⟩
  · have hl := icmpSeal_le (icmpRaw a b d)
    have h2 : (icmpRaw a b d).length = 8 + d.length := by simp [icmpRaw, b16_len]; omega
    by_cases hz : b = 0
    · exact ⟨_, by rw [ipPut_len]; omega, fun w => made_ok 1 sr ds a b fl ttl d _ httl (by omega) hsr hds (by omega) (fun W => load_ask sr ds a b fl d hz ha hb hsr hds (by omega) W) w⟩
    · exact ⟨_, by rw [ipPut_len]; omega, fun w => made_ok 1 sr ds a b fl ttl d _ httl (by omega) hsr hds (by omega) (fun W => load_told sr ds a b fl d hz ha hb hsr hds (by omega) W) w⟩
theorem wrong_ok (sr ds : Nat) (ab : List UInt8) (hsr : sr < 4294967296) (hds : ds < 4294967296) (hab : ab.length ≤ 548) :
    ∃ t : List UInt8, ∀ w, Calls Tryz.prog 56 #[.int .u32 sr, .int .u32 ds, .int .u8 3, str ab] w (Ret1 (str t) w) := by
  obtain ⟨m, hm⟩ : ∃ m : List UInt8, m = [UInt8.ofNat 3, UInt8.ofNat 1, 0, 0] ++ [0, 0, 0, 0] ++ ab := ⟨_, rfl⟩
  have hml : m.length = 8 + ab.length := by rw [hm]; simp; omega
  refine ⟨ipPut 64 1 sr ds (icmpSeal m), fun w => ?_⟩
  have hl := icmpSeal_le m
  have KP := Lib.hid (fun W => hm ▸ r07_putc 3 1 (by omega) [0, 0, 0, 0] ab (by omega) rfl (by omega) W)
  have KS := Lib.hid (fun W => r07_seal m (by omega) (by omega) W)
  have K4 := Lib.hid (fun W => r04_put 64 1 sr ds (icmpSeal m) (by omega) (by omega) hsr hds (by omega) W)
  have hcut : ∀ W, (Instr.sliceAt 9 (str ab) none (some (.int .i64 (ab.length : Int))) none).run Tryz.prog W = .ok (str ab) W := fun W => by rw [run_cutTo ab rfl (Nat.le_refl _) W, List.take_length]
  have hmin : min (ab.length : Int) 548 = ab.length := by omega
  generalize icmpSeal m = out at *
  clear hm hml hl
  go_enter Tryz.func56, Tryz.ntmps56
  go_wp2_with fail
  refine (show Calls _ _ _ _ _ from KP.out _).mono ?_
  rintro e w1 ⟨rfl, hp1⟩
  go_wp2_with fail
  refine (show Calls _ _ _ _ _ from KS.out _).mono ?_
  rintro e w2 ⟨rfl, hp2⟩
  go_wp2_with fail
  refine (show Calls _ _ _ _ _ from K4.out _).mono ?_
  rintro e w3 ⟨rfl, hp3⟩
  go_wp2_with fail
  go_ret
  exact ⟨rfl, (hp1.trans hp2 fun _ _ h => h).trans hp3 fun _ _ h => h⟩
theorem str_ok (l : List UInt8) (L : Hp) : (SV.e (.c (.v (str l)))).ok L := rfl
theorem tup_okc (a b c d e : Int) (L : Hp) : (SV.e (.a [.i .u8 a, .i .u32 b, .i .u16 c, .i .u32 d, .i .u16 e])).ok L := by simp [SV.ok, EV.ok, CV.ok]
/-- A wire's text: some text, whatever the world. -/
theorem text_ok (k p f t b p0 p1 fl : Nat) (raw : ByteArray) (hfl : fl < 256) : ∃ l : ByteArray, ∀ w, Calls Tryz.prog 9 #[wireA k p f t b p0 p1 fl (.string raw)] w (Ret1 (.string l) w) := by
  obtain ⟨pr, sr, a, ds, b', h1, h2, h3, h4, h5, KT⟩ := tuple_ok k p f t b p0 p1 fl (.string raw) rfl
  obtain ⟨g, hg, KF⟩ := flags_ok k p f t b p0 p1 fl (.string raw) rfl hfl
  by_cases q5 : (k : Int).tmod 8 = 5
  · obtain ⟨m, hm, KM⟩ := made_any pr sr a ds b' g 9 [97, 98, 99, 100, 101, 102, 103, 104] (by decide) h1 h2 h3 h4 h5 hg (by omega)
    obtain ⟨l, KW⟩ := wrong_ok (ptI.getD (b % 8) 0) sr m (ptI_lt _) h2 (by omega)
    refine ⟨⟨l.toArray⟩, fun w => ?_⟩
    refine enterS cx Tryz.func9 rfl rfl rfl [.e (.a (wireC k p f t b p0 p1 fl (.string raw)))] _ (st0 w) (okc (wire_ok rfl _) okn) rfl ?_
    intro c hc
    refine Br.yes (decide_eq_true q5) ?_
    refine reg_go cx (pl [0, 2, 8, 16, 20, 5, 6, 11, 12, 14, 19, 23, 25, 27, 28]) [] (by kernel_rfl) ?_
    refine call1 (fun w1 _ => point_ok b 0 w1) (.e (.a [.i .u32 _, .i .u16 _])) rfl (pt_ok _ _ _) ?_
    refine call1 (fun w1 _ => KT w1) (.e (.a [.i .u8 _, .i .u32 _, .i .u16 _, .i .u32 _, .i .u16 _])) rfl (tup_okc _ _ _ _ _ _) ?_
    refine call1 (fun w1 _ => KT w1) (.e (.a [.i .u8 _, .i .u32 _, .i .u16 _, .i .u32 _, .i .u16 _])) rfl (tup_okc _ _ _ _ _ _) ?_
    refine call1 (fun w1 _ => KF w1) (.e (.c (.i .u8 _))) rfl trivial ?_
    refine call1 (fun w1 _ => KM w1) (.e (.c (.v (str m)))) rfl (str_ok _ _) ?_
    refine call1 (fun w1 _ => KW w1) (.e (.c (.v (str l)))) rfl (str_ok _ _) ?_
    exact finw (newb hc New.nil) rfl
  by_cases q6 : (k : Int).tmod 8 = 6
  · obtain ⟨m, hm, KM⟩ := made_any pr sr a ds b' g 1 [97, 98, 99] (by decide) h1 h2 h3 h4 h5 hg (by omega)
    refine ⟨⟨m.toArray⟩, fun w => ?_⟩
    refine enterS cx Tryz.func9 rfl rfl rfl [.e (.a (wireC k p f t b p0 p1 fl (.string raw)))] _ (st0 w) (okc (wire_ok rfl _) okn) rfl ?_
    intro c hc
    refine Br.no (decide_eq_false q5) ?_
    refine Br.yes (decide_eq_true q6) ?_
    refine reg_go cx (pl [0, 4, 3, 7, 9, 10]) [] (by kernel_rfl) ?_
    refine call1 (fun w1 _ => KT w1) (.e (.a [.i .u8 _, .i .u32 _, .i .u16 _, .i .u32 _, .i .u16 _])) rfl (tup_okc _ _ _ _ _ _) ?_
    refine call1 (fun w1 _ => KF w1) (.e (.c (.i .u8 _))) rfl trivial ?_
    refine call1 (fun w1 _ => KM w1) (.e (.c (.v (str m)))) rfl (str_ok _ _) ?_
    exact finw (newb hc New.nil) rfl
  by_cases q7 : (k : Int).tmod 8 = 7
  · refine ⟨raw, fun w => ?_⟩
    refine enterS cx Tryz.func9 rfl rfl rfl [.e (.a (wireC k p f t b p0 p1 fl (.string raw)))] _ (st0 w) (okc (wire_ok rfl _) okn) rfl ?_
    intro c hc
    refine Br.no (decide_eq_false q5) ?_
    refine Br.no (decide_eq_false q6) ?_
    refine Br.yes (decide_eq_true q7) ?_
    exact finw (newb hc New.nil) rfl
  · obtain ⟨m, hm, KM⟩ := made_any pr sr a ds b' g 64 [97, 98, 99, 100] (by decide) h1 h2 h3 h4 h5 hg (by omega)
    refine ⟨⟨m.toArray⟩, fun w => ?_⟩
    refine enterS cx Tryz.func9 rfl rfl rfl [.e (.a (wireC k p f t b p0 p1 fl (.string raw)))] _ (st0 w) (okc (wire_ok rfl _) okn) rfl ?_
    intro c hc
    refine Br.no (decide_eq_false q5) ?_
    refine Br.no (decide_eq_false q6) ?_
    refine Br.no (decide_eq_false q7) ?_
    refine reg_go cx (pl [0, 4, 3, 7, 9, 10]) [] (by kernel_rfl) ?_
    refine call1 (fun w1 _ => KT w1) (.e (.a [.i .u8 _, .i .u32 _, .i .u16 _, .i .u32 _, .i .u16 _])) rfl (tup_okc _ _ _ _ _ _) ?_
    refine call1 (fun w1 _ => KF w1) (.e (.c (.i .u8 _))) rfl trivial ?_
    refine call1 (fun w1 _ => KM w1) (.e (.c (.v (str m)))) rfl (str_ok _ _) ?_
    exact finw (newb hc New.nil) rfl
end Go.Proofs.YthmokdfigjffjaaGreatDoor
