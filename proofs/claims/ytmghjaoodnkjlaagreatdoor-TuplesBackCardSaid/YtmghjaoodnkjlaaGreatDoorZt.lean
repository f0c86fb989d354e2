/- Chapter 08, 18: the document's texts of a tuple and of an entry (written by genzt.py). -/
import Derived.Test.YtmghjaoodnkjlaaGreatDoorZd
import Derived.Test.YtmghjaoodnkjlaaGreatDoorZc
namespace Go.Proofs.YtmghjaoodnkjlaaGreatDoor
set_option linter.unusedVariables false
set_option linter.unusedSimpArgs false
open Go.RowKit Go.Lib Go.Sort

set_option maxHeartbeats 4000000 in
set_option maxRecDepth 100000 in
theorem rtup_text (k a p b q : Nat) (ha : a < 4294967296) (hp : p < 65536) (hb : b < 4294967296) (hq : q < 65536) (h : tupB k p q = true) (w : World) :
    Calls Tryz.prog 21 #[.agg #[.int .u8 k, .int .u32 a, .int .u16 p, .int .u32 b, .int .u16 q]] w (Ret1 (str (tupT k a p b q)) w) := by
  have kmay := fun W => rmay8_ok k a p b q W
  rw [h] at kmay
  have kword : ∀ W, Calls Tryz.prog 41 #[.int .u8 k] W (Ret1 (str (wordOf k)) W) := fun W => (word_ok k W).mono fun e w' ⟨h1, h2⟩ => ⟨h1, by rw [h2]; exact Fp.refl _ _⟩
  have kp1 := fun W => rt_ptext a ha p hp W
  have kp2 := fun W => rt_ptext b hb q hq W
  have HF0 : tupT k a p b q = wordOf k ++ [32] ++ withT 58 a p ++ [32] ++ withT 58 b q := by simp [tupT, joinB, List.intercalate]
  have lt0 : (wordOf k).length ≤ 4 := wordOf_len k
  obtain ⟨t0, ht0⟩ : ∃ s : List UInt8, s = wordOf k := ⟨_, rfl⟩
  rw [← ht0] at lt0
  have lt1 : (withT 58 a p).length ≤ 40 := withT_len a p ha hp
  obtain ⟨t1, ht1⟩ : ∃ s : List UInt8, s = withT 58 a p := ⟨_, rfl⟩
  rw [← ht1] at lt1
  have lt2 : (withT 58 b q).length ≤ 40 := withT_len b q hb hq
  obtain ⟨t2, ht2⟩ : ∃ s : List UInt8, s = withT 58 b q := ⟨_, rfl⟩
  rw [← ht2] at lt2
  obtain ⟨s1, hs1⟩ : ∃ s : List UInt8, s = t0 ++ [32] := ⟨_, rfl⟩
  have ls1 : s1.length ≤ 10 := by rw [hs1]; simp; omega
  have as1 : ∀ W, (Op.stringOp .add ⟨(t0).toArray⟩ ⟨#[32]⟩).run Tryz.prog W = .ok (str s1) W := fun W => by rw [hs1]; exact run_string_add_lists W (t0) ([32]) (by first | omega | (simp; omega)) (by first | omega | (simp; omega) | simp)
  obtain ⟨s2, hs2⟩ : ∃ s : List UInt8, s = s1 ++ t1 := ⟨_, rfl⟩
  have ls2 : s2.length ≤ 60 := by rw [hs2]; simp; omega
  have as2 : ∀ W, (Op.stringOp .add ⟨(s1).toArray⟩ ⟨(t1).toArray⟩).run Tryz.prog W = .ok (str s2) W := fun W => by rw [hs2]; exact run_string_add_lists W (s1) (t1) (by first | omega | (simp; omega)) (by first | omega | (simp; omega) | simp)
  obtain ⟨s3, hs3⟩ : ∃ s : List UInt8, s = s2 ++ [32] := ⟨_, rfl⟩
  have ls3 : s3.length ≤ 70 := by rw [hs3]; simp; omega
  have as3 : ∀ W, (Op.stringOp .add ⟨(s2).toArray⟩ ⟨#[32]⟩).run Tryz.prog W = .ok (str s3) W := fun W => by rw [hs3]; exact run_string_add_lists W (s2) ([32]) (by first | omega | (simp; omega)) (by first | omega | (simp; omega) | simp)
  obtain ⟨s4, hs4⟩ : ∃ s : List UInt8, s = s3 ++ t2 := ⟨_, rfl⟩
  have ls4 : s4.length ≤ 120 := by rw [hs4]; simp; omega
  have as4 : ∀ W, (Op.stringOp .add ⟨(s3).toArray⟩ ⟨(t2).toArray⟩).run Tryz.prog W = .ok (str s4) W := fun W => by rw [hs4]; exact run_string_add_lists W (s3) (t2) (by first | omega | (simp; omega)) (by first | omega | (simp; omega) | simp)
  rw [← ht0] at kword
  rw [← ht1] at kp1
  rw [← ht2] at kp2
  rw [← ht0, ← ht1, ← ht2, ← hs1, ← hs2, ← hs3, ← hs4] at HF0
  have HF := Lib.hid HF0
  have Kmay := Lib.hid kmay
  have Kword := Lib.hid kword
  have Kp1 := Lib.hid kp1
  have Kp2 := Lib.hid kp2
  clear kmay kword kp1 kp2 HF0 h ha hp hb hq ht0 ht1 ht2 hs1 hs2 hs3 hs4 lt0 lt1 lt2 ls1 ls2 ls3 ls4
  go_enter Tryz.func21, Tryz.ntmps21
  go_wp2_with fail
  have hw0 : NoW w (w.alloc (.cells #[.int .u8 k, .int .u32 a, .int .u16 p, .int .u32 b, .int .u16 q] 29)) := (Fp.refl _ _).alloc _
  have hb0 := heap_alloc_new w (.cells #[.int .u8 k, .int .u32 a, .int .u16 p, .int .u32 b, .int .u16 q] 29)
  generalize w.alloc (.cells #[.int .u8 k, .int .u32 a, .int .u16 p, .int .u32 b, .int .u16 q] 29) = w0 at *
  generalize w.heap.size = gBX at *
  have BX := Lib.hid hb0
  have Hn0 := Lib.hid hw0
  clear hb0 hw0
  refine (Kmay.out _).mono ?_
  rintro e v0 ⟨rfl, hp⟩
  have Hm0 := Lib.hid (Hn0.out.trans hp (fun _ _ h => h))
  have hb := (hp.block _ (Array.getElem?_eq_some_iff.1 BX.out).1 id).trans BX.out
  clear BX
  have BX := Lib.hid hb
  clear hb
  clear hp Hn0
  have cBX0 : v0.cell? ⟨gBX, 0, none⟩ = some (.int .u8 k) := by simp [World.cell?, BX.out]
  have cBX1 : v0.cell? ⟨gBX, 1, none⟩ = some (.int .u32 a) := by simp [World.cell?, BX.out]
  have cBX2 : v0.cell? ⟨gBX, 2, none⟩ = some (.int .u16 p) := by simp [World.cell?, BX.out]
  have cBX3 : v0.cell? ⟨gBX, 3, none⟩ = some (.int .u32 b) := by simp [World.cell?, BX.out]
  have cBX4 : v0.cell? ⟨gBX, 4, none⟩ = some (.int .u16 q) := by simp [World.cell?, BX.out]
  have lBX : gBX < v0.heap.size := cell_lt cBX0
  go_wp2_with fail
  clear cBX0 cBX1 cBX2 cBX3 cBX4 lBX
  have cBX0 : v0.cell? ⟨gBX, 0, none⟩ = some (.int .u8 k) := by simp [World.cell?, BX.out]
  have cBX1 : v0.cell? ⟨gBX, 1, none⟩ = some (.int .u32 a) := by simp [World.cell?, BX.out]
  have cBX2 : v0.cell? ⟨gBX, 2, none⟩ = some (.int .u16 p) := by simp [World.cell?, BX.out]
  have cBX3 : v0.cell? ⟨gBX, 3, none⟩ = some (.int .u32 b) := by simp [World.cell?, BX.out]
  have cBX4 : v0.cell? ⟨gBX, 4, none⟩ = some (.int .u16 q) := by simp [World.cell?, BX.out]
  have lBX : gBX < v0.heap.size := cell_lt cBX0
  refine wp_region_held_drew (S := fun wx => NoW v0 wx) (by kernel_rfl) (Fp.drew (Fp.refl _ _)) (fun hHeld => ?_)
  (refine take_at 0 (some 6) rfl rfl (by kernel_rfl) (by kernel_rfl) (by kernel_rfl) (fun _ _ _ h => h) (v := ?_) (by kernel_rfl) ?_ (by assumption) ?_; rotate_left; (focus (intro wS hSw; skip; go_simp; try with_reducible rfl)); (try simp only [Act.put, List.setIfInBounds_toArray, List.set_cons_zero, List.set_cons_succ]))
  (refine take_at 1 (some 7) rfl rfl (by kernel_rfl) (by kernel_rfl) (by kernel_rfl) (fun _ _ _ h => h) (v := ?_) (by kernel_rfl) ?_ (by assumption) ?_; rotate_left; (focus (intro wS hSw; (have qBX0 := (hSw.cell (p := ⟨gBX, 0, none⟩) lBX id).trans cBX0); go_simp; try with_reducible rfl)); (try simp only [Act.put, List.setIfInBounds_toArray, List.set_cons_zero, List.set_cons_succ]))
  (refine take_at 4 (some 10) rfl rfl (by kernel_rfl) (by kernel_rfl) (by kernel_rfl) (fun _ _ _ h => h) (v := ?_) (by kernel_rfl) ?_ (by assumption) ?_; rotate_left; (focus (intro wS hSw; skip; go_simp; try with_reducible rfl)); (try simp only [Act.put, List.setIfInBounds_toArray, List.set_cons_zero, List.set_cons_succ]))
  (refine take_at 5 (some 11) rfl rfl (by kernel_rfl) (by kernel_rfl) (by kernel_rfl) (fun _ _ _ h => h) (v := ?_) (by kernel_rfl) ?_ (by assumption) ?_; rotate_left; (focus (intro wS hSw; (have qBX1 := (hSw.cell (p := ⟨gBX, 1, none⟩) lBX id).trans cBX1); (have qBX2 := (hSw.cell (p := ⟨gBX, 2, none⟩) lBX id).trans cBX2); go_simp; try with_reducible rfl)); (try simp only [Act.put, List.setIfInBounds_toArray, List.set_cons_zero, List.set_cons_succ]))
  (refine take_at 9 (some 15) rfl rfl (by kernel_rfl) (by kernel_rfl) (by kernel_rfl) (fun _ _ _ h => h) (v := ?_) (by kernel_rfl) ?_ (by assumption) ?_; rotate_left; (focus (intro wS hSw; skip; go_simp; try with_reducible rfl)); (try simp only [Act.put, List.setIfInBounds_toArray, List.set_cons_zero, List.set_cons_succ]))
  (refine take_at 10 (some 16) rfl rfl (by kernel_rfl) (by kernel_rfl) (by kernel_rfl) (fun _ _ _ h => h) (v := ?_) (by kernel_rfl) ?_ (by assumption) ?_; rotate_left; (focus (intro wS hSw; (have qBX3 := (hSw.cell (p := ⟨gBX, 3, none⟩) lBX id).trans cBX3); (have qBX4 := (hSw.cell (p := ⟨gBX, 4, none⟩) lBX id).trans cBX4); go_simp; try with_reducible rfl)); (try simp only [Act.put, List.setIfInBounds_toArray, List.set_cons_zero, List.set_cons_succ]))
  refine wpAnyH_ready (rs := [2]) (by kernel_rfl) (by simp) ?_
  refine AllReadyH.cons rfl (fun K hK => ?_) AllReadyH.nil
  go_simp
  go_at_call 41
  refine (Kword.out _).mono ?_
  rintro e u1 ⟨rfl, hp⟩
  have hn1 : NoW v0 u1 := Fp.trans hHeld hp (fun _ _ h => h)
  skip
  clear hp hHeld
  refine hK.out _ _ hn1 (fun hHeld => ?_)
  clear hK K
  try simp only [Act.put, List.setIfInBounds_toArray, List.set_cons_zero, List.set_cons_succ]
  (refine take_at 3 (some 9) rfl rfl (by kernel_rfl) (by kernel_rfl) (by kernel_rfl) (fun _ _ _ h => h) (v := ?_) (by kernel_rfl) ?_ (by assumption) ?_; rotate_left; (focus (intro wS hSw; skip; go_simp; try with_reducible rfl)); (try simp only [Act.put, List.setIfInBounds_toArray, List.set_cons_zero, List.set_cons_succ]))
  refine wpAnyH_ready (rs := [6]) (by kernel_rfl) (by simp) ?_
  refine AllReadyH.cons rfl (fun K hK => ?_) AllReadyH.nil
  go_simp
  go_at_call 44
  refine (Kp1.out _).mono ?_
  rintro e u2 ⟨rfl, hp⟩
  have hn2 : NoW v0 u2 := Fp.trans hHeld hp (fun _ _ h => h)
  skip
  clear hp hHeld hn1
  refine hK.out _ _ hn2 (fun hHeld => ?_)
  clear hK K
  try simp only [Act.put, List.setIfInBounds_toArray, List.set_cons_zero, List.set_cons_succ]
  (refine take_at 7 (some 13) rfl rfl (by kernel_rfl) (by kernel_rfl) (by kernel_rfl) (fun _ _ _ h => h) (v := ?_) (by kernel_rfl) ?_ (by assumption) ?_; rotate_left; (focus (intro wS hSw; skip; go_simp; try with_reducible rfl)); (try simp only [Act.put, List.setIfInBounds_toArray, List.set_cons_zero, List.set_cons_succ]))
  (refine take_at 8 (some 14) rfl rfl (by kernel_rfl) (by kernel_rfl) (by kernel_rfl) (fun _ _ _ h => h) (v := ?_) (by kernel_rfl) ?_ (by assumption) ?_; rotate_left; (focus (intro wS hSw; skip; go_simp; try with_reducible rfl)); (try simp only [Act.put, List.setIfInBounds_toArray, List.set_cons_zero, List.set_cons_succ]))
  refine wpAnyH_ready (rs := [11]) (by kernel_rfl) (by simp) ?_
  refine AllReadyH.cons rfl (fun K hK => ?_) AllReadyH.nil
  go_simp
  go_at_call 44
  refine (Kp2.out _).mono ?_
  rintro e u3 ⟨rfl, hp⟩
  have hn3 : NoW v0 u3 := Fp.trans hHeld hp (fun _ _ h => h)
  skip
  clear hp hHeld hn2
  refine hK.out _ _ hn3 (fun hHeld => ?_)
  clear hK K
  try simp only [Act.put, List.setIfInBounds_toArray, List.set_cons_zero, List.set_cons_succ]
  (refine take_at 12 (some 18) rfl rfl (by kernel_rfl) (by kernel_rfl) (by kernel_rfl) (fun _ _ _ h => h) (v := ?_) (by kernel_rfl) ?_ (by assumption) ?_; rotate_left; (focus (intro wS hSw; skip; go_simp; try with_reducible rfl)); (try simp only [Act.put, List.setIfInBounds_toArray, List.set_cons_zero, List.set_cons_succ]))
  (refine take_at 13 (some 2) rfl rfl (by kernel_rfl) (by kernel_rfl) (by kernel_rfl) (fun _ _ _ h => h) (v := ?_) (by kernel_rfl) ?_ (by assumption) ?_; rotate_left; (focus (intro wS hSw; skip; go_simp; try with_reducible rfl)); (try simp only [Act.put, List.setIfInBounds_toArray, List.set_cons_zero, List.set_cons_succ]))
  refine wpAnyH_done (by kernel_rfl) ?_ _
  have HU := Lib.hid (Hm0.out.trans hHeld (fun _ _ h => h))
  go_wp2_with fail
  go_ret
  exact ⟨by rw [HF.out]; rfl, HU.out⟩

theorem joinB_snoc (p : List UInt8) : ∀ ps : List (List UInt8), ps ≠ [] → joinB (ps ++ [p]) = joinB ps ++ [32] ++ p
  | [], h => absurd rfl h
  | [x], _ => by simp [joinB, List.intercalate]
  | x :: y :: l, _ => by
    have ih := joinB_snoc p (y :: l) (by simp)
    simp [joinB, List.intercalate, List.intersperse] at ih ⊢
    exact ih
theorem entT_succ (r a p b q r2 a2 p2 b2 q2 st dl : Nat) (oa op ia ip : Nat → Nat) (k : Nat) : entT r a p b q r2 a2 p2 b2 q2 st dl oa op ia ip (k + 1) = entT r a p b q r2 a2 p2 b2 q2 st dl oa op ia ip k ++ [32] ++ withT 58 (oa k) (op k) ++ [61] ++ withT 58 (ia k) (ip k) := by
  have e : rowsT r a p b q r2 a2 p2 b2 q2 st dl oa op ia ip (k + 1) = rowsT r a p b q r2 a2 p2 b2 q2 st dl oa op ia ip k ++ [holdT oa op ia ip k] := by simp [rowsT, List.range_succ]
  unfold entT
  rw [e, joinB_snoc _ _ (by simp [rowsT])]
  simp [holdT]

end Go.Proofs.YtmghjaoodnkjlaaGreatDoor
