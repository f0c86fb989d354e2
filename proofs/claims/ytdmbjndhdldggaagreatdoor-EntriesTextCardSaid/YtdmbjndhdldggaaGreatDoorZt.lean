/- Chapter 08, 18: the document's texts of a tuple and of an entry (written by genzt.py). -/
import Derived.Test.YtdmbjndhdldggaaGreatDoorZd
import Derived.Test.YtdmbjndhdldggaaGreatDoorZc
namespace Go.Proofs.YtdmbjndhdldggaaGreatDoor
set_option linter.unusedVariables false
set_option linter.unusedSimpArgs false
open Go.RowKit Go.Lib Go.Sort

set_option maxHeartbeats 4000000 in
set_option maxRecDepth 100000 in
theorem rtup_text (k a p b q : Nat) (ha : a < 4294967296) (hp : p < 65536) (hb : b < 4294967296) (hq : q < 65536) (h : tupB k p q = true) (w : World) :
    Calls Tryz.prog 31 #[.agg #[.int .u8 k, .int .u32 a, .int .u16 p, .int .u32 b, .int .u16 q]] w (Ret1 (str (tupT k a p b q)) w) := by
  have kmay := fun W => rmay8_ok k a p b q W
  rw [h] at kmay
  have kword : ∀ W, Calls Tryz.prog 52 #[.int .u8 k] W (Ret1 (str (wordOf k)) W) := fun W => (word_ok k W).mono fun e w' ⟨h1, h2⟩ => ⟨h1, by rw [h2]; exact Fp.refl _ _⟩
  have kp1 := fun W => rt_ptext a ha p hp W
  have kp2 := fun W => rt_ptext b hb q hq W
  have HF0 : tupT k a p b q = wordOf k ++ [32] ++ withT 58 a p ++ [32] ++ withT 58 b q := by simp [tupT, joinB, List.intercalate]
  have lt0 : (wordOf k).length ≤ 4 := wordOf_len k
  obtain ⟨t0, ht0⟩ : ∃ s : List UInt8, s = wordOf k := ⟨_, rfl⟩
  rw [← ht0] at lt0
  have lt1 : (withT 58 a p).length ≤ 40 := withT_len a p ha hp
  obtain ⟨t1, ht1⟩ : ∃ s : List UInt8, s = withT 58 a p := ⟨_, rfl⟩
  rw [← ht1] at lt1
  have lt2 : (withT 58 b q).length ≤ 40 := withT_len b q hb hq
  obtain ⟨t2, ht2⟩ : ∃ s : List UInt8, s = withT 58 b q := ⟨_, rfl⟩
  rw [← ht2] at lt2
  obtain ⟨s1, hs1⟩ : ∃ s : List UInt8, s = t0 ++ [32] := ⟨_, rfl⟩
  have ls1 : s1.length ≤ 10 := by rw [hs1]; simp; omega
  have as1 : ∀ W, (Op.stringOp .add ⟨(t0).toArray⟩ ⟨#[32]⟩).run Tryz.prog W = .ok (str s1) W := fun W => by rw [hs1]; exact run_string_add_lists W (t0) ([32]) (by first | omega | (simp; omega)) (by first | omega | (simp; omega) | simp)
  obtain ⟨s2, hs2⟩ : ∃ s : List UInt8, s = s1 ++ t1 := ⟨_, rfl⟩
  have ls2 : s2.length ≤ 60 := by rw [hs2]; simp; omega
  have as2 : ∀ W, (Op.stringOp .add ⟨(s1).toArray⟩ ⟨(t1).toArray⟩).run Tryz.prog W = .ok (str s2) W := fun W => by rw [hs2]; exact run_string_add_lists W (s1) (t1) (by first | omega | (simp; omega)) (by first | omega | (simp; omega) | simp)
  obtain ⟨s3, hs3⟩ : ∃ s : List UInt8, s = s2 ++ [32] := ⟨_, rfl⟩
  have ls3 : s3.length ≤ 70 := by rw [hs3]; simp; omega
  have as3 : ∀ W, (Op.stringOp .add ⟨(s2).toArray⟩ ⟨#[32]⟩).run Tryz.prog W = .ok (str s3) W := fun W => by rw [hs3]; exact run_string_add_lists W (s2) ([32]) (by first | omega | (simp; omega)) (by first | omega | (simp; omega) | simp)
  obtain ⟨s4, hs4⟩ : ∃ s : List UInt8, s = s3 ++ t2 := ⟨_, rfl⟩
  have ls4 : s4.length ≤ 120 := by rw [hs4]; simp; omega
  have as4 : ∀ W, (Op.stringOp .add ⟨(s3).toArray⟩ ⟨(t2).toArray⟩).run Tryz.prog W = .ok (str s4) W := fun W => by rw [hs4]; exact run_string_add_lists W (s3) (t2) (by first | omega | (simp; omega)) (by first | omega | (simp; omega) | simp)
  rw [← ht0] at kword
  rw [← ht1] at kp1
  rw [← ht2] at kp2
  rw [← ht0, ← ht1, ← ht2, ← hs1, ← hs2, ← hs3, ← hs4] at HF0
  have HF := Lib.hid HF0
  have Kmay := Lib.hid kmay
  have Kword := Lib.hid kword
  have Kp1 := Lib.hid kp1
  have Kp2 := Lib.hid kp2
  clear kmay kword kp1 kp2 HF0 h ha hp hb hq ht0 ht1 ht2 hs1 hs2 hs3 hs4 lt0 lt1 lt2 ls1 ls2 ls3 ls4
  go_enter Tryz.func31, Tryz.ntmps31
  go_wp2_with fail
  have hw0 : NoW w (w.alloc (.cells #[.int .u8 k, .int .u32 a, .int .u16 p, .int .u32 b, .int .u16 q] 28)) := (Fp.refl _ _).alloc _
  have hb0 := heap_alloc_new w (.cells #[.int .u8 k, .int .u32 a, .int .u16 p, .int .u32 b, .int .u16 q] 28)
  generalize w.alloc (.cells #[.int .u8 k, .int .u32 a, .int .u16 p, .int .u32 b, .int .u16 q] 28) = w0 at *
  generalize w.heap.size = gBX at *
  have BX := Lib.hid hb0
  have Hn0 := Lib.hid hw0
  clear hb0 hw0
  refine (Kmay.out _).mono ?_
  rintro e v0 ⟨rfl, hp⟩
  have Hm0 := Lib.hid (Hn0.out.trans hp (fun _ _ h => h))
  have hb := (hp.block _ (Array.getElem?_eq_some_iff.1 BX.out).1 id).trans BX.out
  clear BX
  have BX := Lib.hid hb
  clear hb
  clear hp Hn0
  have cBX0 : v0.cell? ⟨gBX, 0, none⟩ = some (.int .u8 k) := by simp [World.cell?, BX.out]
  have cBX1 : v0.cell? ⟨gBX, 1, none⟩ = some (.int .u32 a) := by simp [World.cell?, BX.out]
  have cBX2 : v0.cell? ⟨gBX, 2, none⟩ = some (.int .u16 p) := by simp [World.cell?, BX.out]
  have cBX3 : v0.cell? ⟨gBX, 3, none⟩ = some (.int .u32 b) := by simp [World.cell?, BX.out]
  have cBX4 : v0.cell? ⟨gBX, 4, none⟩ = some (.int .u16 q) := by simp [World.cell?, BX.out]
  have lBX : gBX < v0.heap.size := cell_lt cBX0
  go_wp2_with fail
  clear cBX0 cBX1 cBX2 cBX3 cBX4 lBX
  have cBX0 : v0.cell? ⟨gBX, 0, none⟩ = some (.int .u8 k) := by simp [World.cell?, BX.out]
  have cBX1 : v0.cell? ⟨gBX, 1, none⟩ = some (.int .u32 a) := by simp [World.cell?, BX.out]
  have cBX2 : v0.cell? ⟨gBX, 2, none⟩ = some (.int .u16 p) := by simp [World.cell?, BX.out]
  have cBX3 : v0.cell? ⟨gBX, 3, none⟩ = some (.int .u32 b) := by simp [World.cell?, BX.out]
  have cBX4 : v0.cell? ⟨gBX, 4, none⟩ = some (.int .u16 q) := by simp [World.cell?, BX.out]
  have lBX : gBX < v0.heap.size := cell_lt cBX0
  refine wp_region_held_drew (S := fun wx => NoW v0 wx) (by kernel_rfl) (Fp.drew (Fp.refl _ _)) (fun hHeld => ?_)
  (refine take_at 0 (some 6) rfl rfl (by kernel_rfl) (by kernel_rfl) (by kernel_rfl) (fun _ _ _ h => h) (v := ?_) (by kernel_rfl) ?_ (by assumption) ?_; rotate_left; (focus (intro wS hSw; skip; go_simp; try with_reducible rfl)); (try simp only [Act.put, List.setIfInBounds_toArray, List.set_cons_zero, List.set_cons_succ]))
  (refine take_at 1 (some 7) rfl rfl (by kernel_rfl) (by kernel_rfl) (by kernel_rfl) (fun _ _ _ h => h) (v := ?_) (by kernel_rfl) ?_ (by assumption) ?_; rotate_left; (focus (intro wS hSw; (have qBX0 := (hSw.cell (p := ⟨gBX, 0, none⟩) lBX id).trans cBX0); go_simp; try with_reducible rfl)); (try simp only [Act.put, List.setIfInBounds_toArray, List.set_cons_zero, List.set_cons_succ]))
  (refine take_at 4 (some 10) rfl rfl (by kernel_rfl) (by kernel_rfl) (by kernel_rfl) (fun _ _ _ h => h) (v := ?_) (by kernel_rfl) ?_ (by assumption) ?_; rotate_left; (focus (intro wS hSw; skip; go_simp; try with_reducible rfl)); (try simp only [Act.put, List.setIfInBounds_toArray, List.set_cons_zero, List.set_cons_succ]))
  (refine take_at 5 (some 11) rfl rfl (by kernel_rfl) (by kernel_rfl) (by kernel_rfl) (fun _ _ _ h => h) (v := ?_) (by kernel_rfl) ?_ (by assumption) ?_; rotate_left; (focus (intro wS hSw; (have qBX1 := (hSw.cell (p := ⟨gBX, 1, none⟩) lBX id).trans cBX1); (have qBX2 := (hSw.cell (p := ⟨gBX, 2, none⟩) lBX id).trans cBX2); go_simp; try with_reducible rfl)); (try simp only [Act.put, List.setIfInBounds_toArray, List.set_cons_zero, List.set_cons_succ]))
  (refine take_at 9 (some 15) rfl rfl (by kernel_rfl) (by kernel_rfl) (by kernel_rfl) (fun _ _ _ h => h) (v := ?_) (by kernel_rfl) ?_ (by assumption) ?_; rotate_left; (focus (intro wS hSw; skip; go_simp; try with_reducible rfl)); (try simp only [Act.put, List.setIfInBounds_toArray, List.set_cons_zero, List.set_cons_succ]))
  (refine take_at 10 (some 16) rfl rfl (by kernel_rfl) (by kernel_rfl) (by kernel_rfl) (fun _ _ _ h => h) (v := ?_) (by kernel_rfl) ?_ (by assumption) ?_; rotate_left; (focus (intro wS hSw; (have qBX3 := (hSw.cell (p := ⟨gBX, 3, none⟩) lBX id).trans cBX3); (have qBX4 := (hSw.cell (p := ⟨gBX, 4, none⟩) lBX id).trans cBX4); go_simp; try with_reducible rfl)); (try simp only [Act.put, List.setIfInBounds_toArray, List.set_cons_zero, List.set_cons_succ]))
  refine wpAnyH_ready (rs := [2]) (by kernel_rfl) (by simp) ?_
  refine AllReadyH.cons rfl (fun K hK => ?_) AllReadyH.nil
  go_simp
  go_at_call 52
  refine (Kword.out _).mono ?_
  rintro e u1 ⟨rfl, hp⟩
  have hn1 : NoW v0 u1 := Fp.trans hHeld hp (fun _ _ h => h)
  skip
  clear hp hHeld
  refine hK.out _ _ hn1 (fun hHeld => ?_)
  clear hK K
  try simp only [Act.put, List.setIfInBounds_toArray, List.set_cons_zero, List.set_cons_succ]
  (refine take_at 3 (some 9) rfl rfl (by kernel_rfl) (by kernel_rfl) (by kernel_rfl) (fun _ _ _ h => h) (v := ?_) (by kernel_rfl) ?_ (by assumption) ?_; rotate_left; (focus (intro wS hSw; skip; go_simp; try with_reducible rfl)); (try simp only [Act.put, List.setIfInBounds_toArray, List.set_cons_zero, List.set_cons_succ]))
  refine wpAnyH_ready (rs := [6]) (by kernel_rfl) (by simp) ?_
  refine AllReadyH.cons rfl (fun K hK => ?_) AllReadyH.nil
  go_simp
  go_at_call 33
  refine (Kp1.out _).mono ?_
  rintro e u2 ⟨rfl, hp⟩
  have hn2 : NoW v0 u2 := Fp.trans hHeld hp (fun _ _ h => h)
  skip
  clear hp hHeld hn1
  refine hK.out _ _ hn2 (fun hHeld => ?_)
  clear hK K
  try simp only [Act.put, List.setIfInBounds_toArray, List.set_cons_zero, List.set_cons_succ]
  (refine take_at 7 (some 13) rfl rfl (by kernel_rfl) (by kernel_rfl) (by kernel_rfl) (fun _ _ _ h => h) (v := ?_) (by kernel_rfl) ?_ (by assumption) ?_; rotate_left; (focus (intro wS hSw; skip; go_simp; try with_reducible rfl)); (try simp only [Act.put, List.setIfInBounds_toArray, List.set_cons_zero, List.set_cons_succ]))
  (refine take_at 8 (some 14) rfl rfl (by kernel_rfl) (by kernel_rfl) (by kernel_rfl) (fun _ _ _ h => h) (v := ?_) (by kernel_rfl) ?_ (by assumption) ?_; rotate_left; (focus (intro wS hSw; skip; go_simp; try with_reducible rfl)); (try simp only [Act.put, List.setIfInBounds_toArray, List.set_cons_zero, List.set_cons_succ]))
  refine wpAnyH_ready (rs := [11]) (by kernel_rfl) (by simp) ?_
  refine AllReadyH.cons rfl (fun K hK => ?_) AllReadyH.nil
  go_simp
  go_at_call 33
  refine (Kp2.out _).mono ?_
  rintro e u3 ⟨rfl, hp⟩
  have hn3 : NoW v0 u3 := Fp.trans hHeld hp (fun _ _ h => h)
  skip
  clear hp hHeld hn2
  refine hK.out _ _ hn3 (fun hHeld => ?_)
  clear hK K
  try simp only [Act.put, List.setIfInBounds_toArray, List.set_cons_zero, List.set_cons_succ]
  (refine take_at 12 (some 18) rfl rfl (by kernel_rfl) (by kernel_rfl) (by kernel_rfl) (fun _ _ _ h => h) (v := ?_) (by kernel_rfl) ?_ (by assumption) ?_; rotate_left; (focus (intro wS hSw; skip; go_simp; try with_reducible rfl)); (try simp only [Act.put, List.setIfInBounds_toArray, List.set_cons_zero, List.set_cons_succ]))
  (refine take_at 13 (some 2) rfl rfl (by kernel_rfl) (by kernel_rfl) (by kernel_rfl) (fun _ _ _ h => h) (v := ?_) (by kernel_rfl) ?_ (by assumption) ?_; rotate_left; (focus (intro wS hSw; skip; go_simp; try with_reducible rfl)); (try simp only [Act.put, List.setIfInBounds_toArray, List.set_cons_zero, List.set_cons_succ]))
  refine wpAnyH_done (by kernel_rfl) ?_ _
  have HU := Lib.hid (Hm0.out.trans hHeld (fun _ _ h => h))
  go_wp2_with fail
  go_ret
  exact ⟨by rw [HF.out]; rfl, HU.out⟩

set_option maxHeartbeats 2000000 in
set_option maxRecDepth 100000 in
theorem rtext_bad (r a p b q r2 a2 p2 b2 q2 : Nat) (st dl : Int) (ad : Option Addr) (n c : Nat) (h : chkB r p q r2 p2 q2 (decide (r = r2 ∧ a = a2 ∧ p = p2 ∧ b = b2 ∧ q = q2)) st dl n = false) (w : World) :
    Calls Tryz.prog 9 #[.agg #[.int .u8 r, .int .u32 a, .int .u16 p, .int .u32 b, .int .u16 q, .int .u8 r2, .int .u32 a2, .int .u16 p2, .int .u32 b2, .int .u16 q2, .int .i64 st, .int .i64 dl, .slice ad n c]] w (Ret1 (str []) w) := by
  have kmay := fun W => rmay18_ok r a p b q r2 a2 p2 b2 q2 st dl ad n c W
  rw [h] at kmay
  have Kmay := Lib.hid kmay
  clear kmay h
  go_enter Tryz.func9, Tryz.ntmps9
  go_wp2_with fail
  have hw0 : NoW w (w.alloc (.cells #[.int .u8 r, .int .u32 a, .int .u16 p, .int .u32 b, .int .u16 q, .int .u8 r2, .int .u32 a2, .int .u16 p2, .int .u32 b2, .int .u16 q2, .int .i64 st, .int .i64 dl, .slice ad n c] 41)) := (Fp.refl _ _).alloc _
  have hb0 := heap_alloc_new w (.cells #[.int .u8 r, .int .u32 a, .int .u16 p, .int .u32 b, .int .u16 q, .int .u8 r2, .int .u32 a2, .int .u16 p2, .int .u32 b2, .int .u16 q2, .int .i64 st, .int .i64 dl, .slice ad n c] 41)
  generalize w.alloc (.cells #[.int .u8 r, .int .u32 a, .int .u16 p, .int .u32 b, .int .u16 q, .int .u8 r2, .int .u32 a2, .int .u16 p2, .int .u32 b2, .int .u16 q2, .int .i64 st, .int .i64 dl, .slice ad n c] 41) = w0 at *
  generalize w.heap.size = gBX at *
  have BX := Lib.hid hb0
  have Hn0 := Lib.hid hw0
  clear hb0 hw0
  refine (Kmay.out _).mono ?_
  rintro e v0 ⟨rfl, hp⟩
  have Hm0 := Lib.hid (Hn0.out.trans hp (fun _ _ h => h))
  have hb := (hp.block _ (Array.getElem?_eq_some_iff.1 BX.out).1 id).trans BX.out
  clear BX
  have BX := Lib.hid hb
  clear hb
  clear hp Hn0
  have cBX0 : v0.cell? ⟨gBX, 0, none⟩ = some (.int .u8 r) := by simp [World.cell?, BX.out]
  have cBX1 : v0.cell? ⟨gBX, 1, none⟩ = some (.int .u32 a) := by simp [World.cell?, BX.out]
  have cBX2 : v0.cell? ⟨gBX, 2, none⟩ = some (.int .u16 p) := by simp [World.cell?, BX.out]
  have cBX3 : v0.cell? ⟨gBX, 3, none⟩ = some (.int .u32 b) := by simp [World.cell?, BX.out]
  have cBX4 : v0.cell? ⟨gBX, 4, none⟩ = some (.int .u16 q) := by simp [World.cell?, BX.out]
  have cBX5 : v0.cell? ⟨gBX, 5, none⟩ = some (.int .u8 r2) := by simp [World.cell?, BX.out]
  have cBX6 : v0.cell? ⟨gBX, 6, none⟩ = some (.int .u32 a2) := by simp [World.cell?, BX.out]
  have cBX7 : v0.cell? ⟨gBX, 7, none⟩ = some (.int .u16 p2) := by simp [World.cell?, BX.out]
  have cBX8 : v0.cell? ⟨gBX, 8, none⟩ = some (.int .u32 b2) := by simp [World.cell?, BX.out]
  have cBX9 : v0.cell? ⟨gBX, 9, none⟩ = some (.int .u16 q2) := by simp [World.cell?, BX.out]
  have cBX10 : v0.cell? ⟨gBX, 10, none⟩ = some (.int .i64 st) := by simp [World.cell?, BX.out]
  have cBX11 : v0.cell? ⟨gBX, 11, none⟩ = some (.int .i64 dl) := by simp [World.cell?, BX.out]
  have cBX12 : v0.cell? ⟨gBX, 12, none⟩ = some (.slice ad n c) := by simp [World.cell?, BX.out]
  have lBX : gBX < v0.heap.size := cell_lt cBX0
  go_wp2_with fail
  clear cBX0 cBX1 cBX2 cBX3 cBX4 cBX5 cBX6 cBX7 cBX8 cBX9 cBX10 cBX11 cBX12 lBX
  go_ret
  exact ⟨rfl, Hm0.out⟩

theorem joinB_snoc (p : List UInt8) : ∀ ps : List (List UInt8), ps ≠ [] → joinB (ps ++ [p]) = joinB ps ++ [32] ++ p
  | [], h => absurd rfl h
  | [x], _ => by simp [joinB, List.intercalate]
  | x :: y :: l, _ => by
    have ih := joinB_snoc p (y :: l) (by simp)
    simp [joinB, List.intercalate, List.intersperse] at ih ⊢
    exact ih
theorem entT_succ (r a p b q r2 a2 p2 b2 q2 st dl : Nat) (oa op ia ip : Nat → Nat) (k : Nat) : entT r a p b q r2 a2 p2 b2 q2 st dl oa op ia ip (k + 1) = entT r a p b q r2 a2 p2 b2 q2 st dl oa op ia ip k ++ [32] ++ withT 58 (oa k) (op k) ++ [61] ++ withT 58 (ia k) (ip k) := by
  have e : rowsT r a p b q r2 a2 p2 b2 q2 st dl oa op ia ip (k + 1) = rowsT r a p b q r2 a2 p2 b2 q2 st dl oa op ia ip k ++ [holdT oa op ia ip k] := by simp [rowsT, List.range_succ]
  unfold entT
  rw [e, joinB_snoc _ _ (by simp [rowsT])]
  simp [holdT]

set_option maxHeartbeats 8000000 in
set_option maxRecDepth 100000 in
theorem rtext_ok (r a p b q r2 a2 p2 b2 q2 st dl : Nat) (oa op ia ip : Nat → Nat) (hb ho n c : Nat) (ys : List Value) (ha : a < 4294967296) (hp : p < 65536) (hbb : b < 4294967296) (hq : q < 65536) (ha2 : a2 < 4294967296) (hp2 : p2 < 65536) (hb2 : b2 < 4294967296) (hq2 : q2 < 65536)
    (hst : st ≤ 7) (hdl : dl ≤ 1099511635216) (hn : n ≤ 5) (h1 : tupB r p q = true) (h2 : tupB r2 p2 q2 = true)
    (hv : ∀ i, i < n → (ys[i * 4]? = some (.int .u32 (oa i)) ∧ ys[i * 4 + 1]? = some (.int .u16 (op i)) ∧ ys[i * 4 + 2]? = some (.int .u32 (ia i)) ∧ ys[i * 4 + 3]? = some (.int .u16 (ip i))) ∧ oa i < 4294967296 ∧ op i < 65536 ∧ ia i < 4294967296 ∧ ip i < 65536)
    (w : World) (hh : Holds w hb ho n ys) (hc : chkB r p q r2 p2 q2 (decide (r = r2 ∧ a = a2 ∧ p = p2 ∧ b = b2 ∧ q = q2)) (st : Int) (dl : Int) n = true) :
    Calls Tryz.prog 9 #[.agg #[.int .u8 r, .int .u32 a, .int .u16 p, .int .u32 b, .int .u16 q, .int .u8 r2, .int .u32 a2, .int .u16 p2, .int .u32 b2, .int .u16 q2, .int .i64 (st : Nat), .int .i64 (dl : Nat), .slice (some ⟨hb, ho, none⟩) n c]] w (Ret1 (str (entT r a p b q r2 a2 p2 b2 q2 st dl oa op ia ip n)) w) := by
  have kmay := fun W => rmay18_ok r a p b q r2 a2 p2 b2 q2 st dl (some ⟨hb, ho, none⟩) n c W
  rw [hc] at kmay
  have kt1 := fun W => rtup_text r a p b q ha hp hbb hq h1 W
  have kt2 := fun W => rtup_text r2 a2 p2 b2 q2 ha2 hp2 hb2 hq2 h2 W
  have kd1 := fun W => rdig18_ok st (by omega) W
  have kd2 := fun W => rdig18_ok dl (by omega) W
  have Hlen := Lib.hid (show ∀ k, k ≤ n → (entT r a p b q r2 a2 p2 b2 q2 st dl oa op ia ip k).length ≤ 2000 from fun k hk => by
    have t1 := tupT_len r a p b q ha hp hbb hq
    have t2 := tupT_len r2 a2 p2 b2 q2 ha2 hp2 hb2 hq2
    have t3 := dec_len 20 st (by omega) (by omega)
    have t4 := dec_len 20 dl (by omega) (by omega)
    have := joinB_len 100 (rowsT r a p b q r2 a2 p2 b2 q2 st dl oa op ia ip k) (fun x hx => by
      simp only [rowsT, List.mem_append, List.mem_cons, List.not_mem_nil, or_false, List.mem_map, List.mem_range] at hx
      rcases hx with (rfl | rfl | rfl | rfl | rfl) | ⟨i, hi, rfl⟩
      · exact t1
      · simp
      · exact t2
      · omega
      · omega
      · have h := (hv i (by omega)).2
        have w1 := withT_len (oa i) (op i) h.1 h.2.1
        have w2 := withT_len (ia i) (ip i) h.2.2.1 h.2.2.2
        simp only [holdT, List.length_append, List.length_cons, List.length_nil]; omega)
    have e : (rowsT r a p b q r2 a2 p2 b2 q2 st dl oa op ia ip k).length = 5 + k := by simp [rowsT]; omega
    rw [e] at this
    have : (5 + k) * 101 ≤ 10 * 101 := Nat.mul_le_mul_right _ (by omega)
    unfold entT; omega)
  have HF0 : entT r a p b q r2 a2 p2 b2 q2 st dl oa op ia ip 0 = tupT r a p b q ++ [32, 124, 32] ++ tupT r2 a2 p2 b2 q2 ++ [32] ++ decDigits st ++ [32] ++ decDigits dl := by simp [entT, rowsT, joinB, List.intercalate]
  have lt1 : (tupT r a p b q).length ≤ 100 := tupT_len r a p b q ha hp hbb hq
  obtain ⟨t1, ht1⟩ : ∃ s : List UInt8, s = tupT r a p b q := ⟨_, rfl⟩
  rw [← ht1] at lt1
  have lt2 : (tupT r2 a2 p2 b2 q2).length ≤ 100 := tupT_len r2 a2 p2 b2 q2 ha2 hp2 hb2 hq2
  obtain ⟨t2, ht2⟩ : ∃ s : List UInt8, s = tupT r2 a2 p2 b2 q2 := ⟨_, rfl⟩
  rw [← ht2] at lt2
  have lt3 : (decDigits st).length ≤ 20 := dec_len 20 st (by omega) (by omega)
  obtain ⟨t3, ht3⟩ : ∃ s : List UInt8, s = decDigits st := ⟨_, rfl⟩
  rw [← ht3] at lt3
  have lt4 : (decDigits dl).length ≤ 20 := dec_len 20 dl (by omega) (by omega)
  obtain ⟨t4, ht4⟩ : ∃ s : List UInt8, s = decDigits dl := ⟨_, rfl⟩
  rw [← ht4] at lt4
  obtain ⟨s1, hs1⟩ : ∃ s : List UInt8, s = t1 ++ [32, 124, 32] := ⟨_, rfl⟩
  have ls1 : s1.length ≤ 110 := by rw [hs1]; simp; omega
  have as1 : ∀ W, (Op.stringOp .add ⟨(t1).toArray⟩ ⟨#[32, 124, 32]⟩).run Tryz.prog W = .ok (str s1) W := fun W => by rw [hs1]; exact run_string_add_lists W (t1) ([32, 124, 32]) (by first | omega | (simp; omega)) (by first | omega | (simp; omega) | simp)
  obtain ⟨s2, hs2⟩ : ∃ s : List UInt8, s = s1 ++ t2 := ⟨_, rfl⟩
  have ls2 : s2.length ≤ 220 := by rw [hs2]; simp; omega
  have as2 : ∀ W, (Op.stringOp .add ⟨(s1).toArray⟩ ⟨(t2).toArray⟩).run Tryz.prog W = .ok (str s2) W := fun W => by rw [hs2]; exact run_string_add_lists W (s1) (t2) (by first | omega | (simp; omega)) (by first | omega | (simp; omega) | simp)
  obtain ⟨s3, hs3⟩ : ∃ s : List UInt8, s = s2 ++ [32] := ⟨_, rfl⟩
  have ls3 : s3.length ≤ 230 := by rw [hs3]; simp; omega
  have as3 : ∀ W, (Op.stringOp .add ⟨(s2).toArray⟩ ⟨#[32]⟩).run Tryz.prog W = .ok (str s3) W := fun W => by rw [hs3]; exact run_string_add_lists W (s2) ([32]) (by first | omega | (simp; omega)) (by first | omega | (simp; omega) | simp)
  obtain ⟨s4, hs4⟩ : ∃ s : List UInt8, s = s3 ++ t3 := ⟨_, rfl⟩
  have ls4 : s4.length ≤ 260 := by rw [hs4]; simp; omega
  have as4 : ∀ W, (Op.stringOp .add ⟨(s3).toArray⟩ ⟨(t3).toArray⟩).run Tryz.prog W = .ok (str s4) W := fun W => by rw [hs4]; exact run_string_add_lists W (s3) (t3) (by first | omega | (simp; omega)) (by first | omega | (simp; omega) | simp)
  obtain ⟨s5, hs5⟩ : ∃ s : List UInt8, s = s4 ++ [32] := ⟨_, rfl⟩
  have ls5 : s5.length ≤ 270 := by rw [hs5]; simp; omega
  have as5 : ∀ W, (Op.stringOp .add ⟨(s4).toArray⟩ ⟨#[32]⟩).run Tryz.prog W = .ok (str s5) W := fun W => by rw [hs5]; exact run_string_add_lists W (s4) ([32]) (by first | omega | (simp; omega)) (by first | omega | (simp; omega) | simp)
  obtain ⟨s6, hs6⟩ : ∃ s : List UInt8, s = s5 ++ t4 := ⟨_, rfl⟩
  have ls6 : s6.length ≤ 300 := by rw [hs6]; simp; omega
  have as6 : ∀ W, (Op.stringOp .add ⟨(s5).toArray⟩ ⟨(t4).toArray⟩).run Tryz.prog W = .ok (str s6) W := fun W => by rw [hs6]; exact run_string_add_lists W (s5) (t4) (by first | omega | (simp; omega)) (by first | omega | (simp; omega) | simp)
  rw [← ht1] at kt1
  rw [← ht2] at kt2
  rw [← ht3] at kd1
  rw [← ht4] at kd2
  rw [← ht1, ← ht2, ← ht3, ← ht4, ← hs1, ← hs2, ← hs3, ← hs4, ← hs5, ← hs6] at HF0
  have HF := Lib.hid HF0
  have Kmay := Lib.hid kmay
  have Kt1 := Lib.hid kt1
  have Kt2 := Lib.hid kt2
  have Kd1 := Lib.hid kd1
  have Kd2 := Lib.hid kd2
  have Hv := Lib.hid hv
  have hh0 : Holds w hb ho n ys := hh
  have Hh := Lib.hid hh0
  clear kmay kt1 kt2 kd1 kd2 HF0 hc h1 h2 ha hp hbb hq ha2 hp2 hb2 hq2 hst hdl hv hh hh0 ht1 ht2 ht3 ht4 hs1 hs2 hs3 hs4 hs5 hs6 lt1 lt2 lt3 lt4 ls1 ls2 ls3 ls4 ls5 ls6
  go_enter Tryz.func9, Tryz.ntmps9
  go_wp2_with fail
  have hw0 : NoW w (w.alloc (.cells #[.int .u8 r, .int .u32 a, .int .u16 p, .int .u32 b, .int .u16 q, .int .u8 r2, .int .u32 a2, .int .u16 p2, .int .u32 b2, .int .u16 q2, .int .i64 (st : Nat), .int .i64 (dl : Nat), .slice (some ⟨hb, ho, none⟩) n c] 41)) := (Fp.refl _ _).alloc _
  have hb0 := heap_alloc_new w (.cells #[.int .u8 r, .int .u32 a, .int .u16 p, .int .u32 b, .int .u16 q, .int .u8 r2, .int .u32 a2, .int .u16 p2, .int .u32 b2, .int .u16 q2, .int .i64 (st : Nat), .int .i64 (dl : Nat), .slice (some ⟨hb, ho, none⟩) n c] 41)
  generalize w.alloc (.cells #[.int .u8 r, .int .u32 a, .int .u16 p, .int .u32 b, .int .u16 q, .int .u8 r2, .int .u32 a2, .int .u16 p2, .int .u32 b2, .int .u16 q2, .int .i64 (st : Nat), .int .i64 (dl : Nat), .slice (some ⟨hb, ho, none⟩) n c] 41) = w0 at *
  generalize w.heap.size = gBX at *
  have BX := Lib.hid hb0
  have Hn0 := Lib.hid hw0
  clear hb0 hw0
  refine (Kmay.out _).mono ?_
  rintro e v0 ⟨rfl, hp⟩
  have Hm0 := Lib.hid (Hn0.out.trans hp (fun _ _ h => h))
  have hb := (hp.block _ (Array.getElem?_eq_some_iff.1 BX.out).1 id).trans BX.out
  clear BX
  have BX := Lib.hid hb
  clear hb
  clear hp Hn0
  have cBX0 : v0.cell? ⟨gBX, 0, none⟩ = some (.int .u8 r) := by simp [World.cell?, BX.out]
  have cBX1 : v0.cell? ⟨gBX, 1, none⟩ = some (.int .u32 a) := by simp [World.cell?, BX.out]
  have cBX2 : v0.cell? ⟨gBX, 2, none⟩ = some (.int .u16 p) := by simp [World.cell?, BX.out]
  have cBX3 : v0.cell? ⟨gBX, 3, none⟩ = some (.int .u32 b) := by simp [World.cell?, BX.out]
  have cBX4 : v0.cell? ⟨gBX, 4, none⟩ = some (.int .u16 q) := by simp [World.cell?, BX.out]
  have cBX5 : v0.cell? ⟨gBX, 5, none⟩ = some (.int .u8 r2) := by simp [World.cell?, BX.out]
  have cBX6 : v0.cell? ⟨gBX, 6, none⟩ = some (.int .u32 a2) := by simp [World.cell?, BX.out]
  have cBX7 : v0.cell? ⟨gBX, 7, none⟩ = some (.int .u16 p2) := by simp [World.cell?, BX.out]
  have cBX8 : v0.cell? ⟨gBX, 8, none⟩ = some (.int .u32 b2) := by simp [World.cell?, BX.out]
  have cBX9 : v0.cell? ⟨gBX, 9, none⟩ = some (.int .u16 q2) := by simp [World.cell?, BX.out]
  have cBX10 : v0.cell? ⟨gBX, 10, none⟩ = some (.int .i64 (st : Nat)) := by simp [World.cell?, BX.out]
  have cBX11 : v0.cell? ⟨gBX, 11, none⟩ = some (.int .i64 (dl : Nat)) := by simp [World.cell?, BX.out]
  have cBX12 : v0.cell? ⟨gBX, 12, none⟩ = some (.slice (some ⟨hb, ho, none⟩) n c) := by simp [World.cell?, BX.out]
  have lBX : gBX < v0.heap.size := cell_lt cBX0
  go_wp2_with fail
  clear cBX0 cBX1 cBX2 cBX3 cBX4 cBX5 cBX6 cBX7 cBX8 cBX9 cBX10 cBX11 cBX12 lBX
  have cBX0 : v0.cell? ⟨gBX, 0, none⟩ = some (.int .u8 r) := by simp [World.cell?, BX.out]
  have cBX1 : v0.cell? ⟨gBX, 1, none⟩ = some (.int .u32 a) := by simp [World.cell?, BX.out]
  have cBX2 : v0.cell? ⟨gBX, 2, none⟩ = some (.int .u16 p) := by simp [World.cell?, BX.out]
  have cBX3 : v0.cell? ⟨gBX, 3, none⟩ = some (.int .u32 b) := by simp [World.cell?, BX.out]
  have cBX4 : v0.cell? ⟨gBX, 4, none⟩ = some (.int .u16 q) := by simp [World.cell?, BX.out]
  have cBX5 : v0.cell? ⟨gBX, 5, none⟩ = some (.int .u8 r2) := by simp [World.cell?, BX.out]
  have cBX6 : v0.cell? ⟨gBX, 6, none⟩ = some (.int .u32 a2) := by simp [World.cell?, BX.out]
  have cBX7 : v0.cell? ⟨gBX, 7, none⟩ = some (.int .u16 p2) := by simp [World.cell?, BX.out]
  have cBX8 : v0.cell? ⟨gBX, 8, none⟩ = some (.int .u32 b2) := by simp [World.cell?, BX.out]
  have cBX9 : v0.cell? ⟨gBX, 9, none⟩ = some (.int .u16 q2) := by simp [World.cell?, BX.out]
  have cBX10 : v0.cell? ⟨gBX, 10, none⟩ = some (.int .i64 (st : Nat)) := by simp [World.cell?, BX.out]
  have cBX11 : v0.cell? ⟨gBX, 11, none⟩ = some (.int .i64 (dl : Nat)) := by simp [World.cell?, BX.out]
  have cBX12 : v0.cell? ⟨gBX, 12, none⟩ = some (.slice (some ⟨hb, ho, none⟩) n c) := by simp [World.cell?, BX.out]
  have lBX : gBX < v0.heap.size := cell_lt cBX0
  refine wp_region_held_drew (S := fun wx => NoW v0 wx) (by kernel_rfl) (Fp.drew (Fp.refl _ _)) (fun hHeld => ?_)
  (refine take_at 0 (some 8) rfl rfl (by kernel_rfl) (by kernel_rfl) (by kernel_rfl) (fun _ _ _ h => h) (v := ?_) (by kernel_rfl) ?_ (by assumption) ?_; rotate_left; (focus (intro wS hSw; skip; go_simp; try with_reducible rfl)); (try simp only [Act.put, List.setIfInBounds_toArray, List.set_cons_zero, List.set_cons_succ]))
  (refine take_at 1 (some 9) rfl rfl (by kernel_rfl) (by kernel_rfl) (by kernel_rfl) (fun _ _ _ h => h) (v := ?_) (by kernel_rfl) ?_ (by assumption) ?_; rotate_left; (focus (intro wS hSw; (have qBX0 := (hSw.cell (p := ⟨gBX, 0, none⟩) lBX id).trans cBX0); (have qBX1 := (hSw.cell (p := ⟨gBX, 1, none⟩) lBX id).trans cBX1); (have qBX2 := (hSw.cell (p := ⟨gBX, 2, none⟩) lBX id).trans cBX2); (have qBX3 := (hSw.cell (p := ⟨gBX, 3, none⟩) lBX id).trans cBX3); (have qBX4 := (hSw.cell (p := ⟨gBX, 4, none⟩) lBX id).trans cBX4); go_simp; try with_reducible rfl)); (try simp only [Act.put, List.setIfInBounds_toArray, List.set_cons_zero, List.set_cons_succ]))
  (refine take_at 4 (some 12) rfl rfl (by kernel_rfl) (by kernel_rfl) (by kernel_rfl) (fun _ _ _ h => h) (v := ?_) (by kernel_rfl) ?_ (by assumption) ?_; rotate_left; (focus (intro wS hSw; skip; go_simp; try with_reducible rfl)); (try simp only [Act.put, List.setIfInBounds_toArray, List.set_cons_zero, List.set_cons_succ]))
  (refine take_at 5 (some 13) rfl rfl (by kernel_rfl) (by kernel_rfl) (by kernel_rfl) (fun _ _ _ h => h) (v := ?_) (by kernel_rfl) ?_ (by assumption) ?_; rotate_left; (focus (intro wS hSw; (have qBX5 := (hSw.cell (p := ⟨gBX, 5, none⟩) lBX id).trans cBX5); (have qBX6 := (hSw.cell (p := ⟨gBX, 6, none⟩) lBX id).trans cBX6); (have qBX7 := (hSw.cell (p := ⟨gBX, 7, none⟩) lBX id).trans cBX7); (have qBX8 := (hSw.cell (p := ⟨gBX, 8, none⟩) lBX id).trans cBX8); (have qBX9 := (hSw.cell (p := ⟨gBX, 9, none⟩) lBX id).trans cBX9); go_simp; try with_reducible rfl)); (try simp only [Act.put, List.setIfInBounds_toArray, List.set_cons_zero, List.set_cons_succ]))
  (refine take_at 9 (some 17) rfl rfl (by kernel_rfl) (by kernel_rfl) (by kernel_rfl) (fun _ _ _ h => h) (v := ?_) (by kernel_rfl) ?_ (by assumption) ?_; rotate_left; (focus (intro wS hSw; skip; go_simp; try with_reducible rfl)); (try simp only [Act.put, List.setIfInBounds_toArray, List.set_cons_zero, List.set_cons_succ]))
  (refine take_at 10 (some 18) rfl rfl (by kernel_rfl) (by kernel_rfl) (by kernel_rfl) (fun _ _ _ h => h) (v := ?_) (by kernel_rfl) ?_ (by assumption) ?_; rotate_left; (focus (intro wS hSw; (have qBX10 := (hSw.cell (p := ⟨gBX, 10, none⟩) lBX id).trans cBX10); go_simp; try with_reducible rfl)); (try simp only [Act.put, List.setIfInBounds_toArray, List.set_cons_zero, List.set_cons_succ]))
  (refine take_at 14 (some 22) rfl rfl (by kernel_rfl) (by kernel_rfl) (by kernel_rfl) (fun _ _ _ h => h) (v := ?_) (by kernel_rfl) ?_ (by assumption) ?_; rotate_left; (focus (intro wS hSw; skip; go_simp; try with_reducible rfl)); (try simp only [Act.put, List.setIfInBounds_toArray, List.set_cons_zero, List.set_cons_succ]))
  (refine take_at 15 (some 23) rfl rfl (by kernel_rfl) (by kernel_rfl) (by kernel_rfl) (fun _ _ _ h => h) (v := ?_) (by kernel_rfl) ?_ (by assumption) ?_; rotate_left; (focus (intro wS hSw; (have qBX11 := (hSw.cell (p := ⟨gBX, 11, none⟩) lBX id).trans cBX11); go_simp; try with_reducible rfl)); (try simp only [Act.put, List.setIfInBounds_toArray, List.set_cons_zero, List.set_cons_succ]))
  refine wpAnyH_ready (rs := [2]) (by kernel_rfl) (by simp) ?_
  refine AllReadyH.cons rfl (fun K hK => ?_) AllReadyH.nil
  go_simp
  go_at_call 31
  refine (Kt1.out _).mono ?_
  rintro e u1 ⟨rfl, hp⟩
  have hn1 : NoW v0 u1 := Fp.trans hHeld hp (fun _ _ h => h)
  skip
  clear hp hHeld
  refine hK.out _ _ hn1 (fun hHeld => ?_)
  clear hK K
  try simp only [Act.put, List.setIfInBounds_toArray, List.set_cons_zero, List.set_cons_succ]
  (refine take_at 3 (some 11) rfl rfl (by kernel_rfl) (by kernel_rfl) (by kernel_rfl) (fun _ _ _ h => h) (v := ?_) (by kernel_rfl) ?_ (by assumption) ?_; rotate_left; (focus (intro wS hSw; skip; go_simp; try with_reducible rfl)); (try simp only [Act.put, List.setIfInBounds_toArray, List.set_cons_zero, List.set_cons_succ]))
  refine wpAnyH_ready (rs := [6]) (by kernel_rfl) (by simp) ?_
  refine AllReadyH.cons rfl (fun K hK => ?_) AllReadyH.nil
  go_simp
  go_at_call 31
  refine (Kt2.out _).mono ?_
  rintro e u2 ⟨rfl, hp⟩
  have hn2 : NoW v0 u2 := Fp.trans hHeld hp (fun _ _ h => h)
  skip
  clear hp hHeld hn1
  refine hK.out _ _ hn2 (fun hHeld => ?_)
  clear hK K
  try simp only [Act.put, List.setIfInBounds_toArray, List.set_cons_zero, List.set_cons_succ]
  (refine take_at 7 (some 15) rfl rfl (by kernel_rfl) (by kernel_rfl) (by kernel_rfl) (fun _ _ _ h => h) (v := ?_) (by kernel_rfl) ?_ (by assumption) ?_; rotate_left; (focus (intro wS hSw; skip; go_simp; try with_reducible rfl)); (try simp only [Act.put, List.setIfInBounds_toArray, List.set_cons_zero, List.set_cons_succ]))
  (refine take_at 8 (some 16) rfl rfl (by kernel_rfl) (by kernel_rfl) (by kernel_rfl) (fun _ _ _ h => h) (v := ?_) (by kernel_rfl) ?_ (by assumption) ?_; rotate_left; (focus (intro wS hSw; skip; go_simp; try with_reducible rfl)); (try simp only [Act.put, List.setIfInBounds_toArray, List.set_cons_zero, List.set_cons_succ]))
  refine wpAnyH_ready (rs := [11]) (by kernel_rfl) (by simp) ?_
  refine AllReadyH.cons rfl (fun K hK => ?_) AllReadyH.nil
  go_simp
  go_at_call 32
  refine (Kd1.out _).mono ?_
  rintro e u3 ⟨rfl, hp⟩
  have hn3 : NoW v0 u3 := Fp.trans hHeld hp (fun _ _ h => h)
  skip
  clear hp hHeld hn2
  refine hK.out _ _ hn3 (fun hHeld => ?_)
  clear hK K
  try simp only [Act.put, List.setIfInBounds_toArray, List.set_cons_zero, List.set_cons_succ]
  (refine take_at 12 (some 20) rfl rfl (by kernel_rfl) (by kernel_rfl) (by kernel_rfl) (fun _ _ _ h => h) (v := ?_) (by kernel_rfl) ?_ (by assumption) ?_; rotate_left; (focus (intro wS hSw; skip; go_simp; try with_reducible rfl)); (try simp only [Act.put, List.setIfInBounds_toArray, List.set_cons_zero, List.set_cons_succ]))
  (refine take_at 13 (some 21) rfl rfl (by kernel_rfl) (by kernel_rfl) (by kernel_rfl) (fun _ _ _ h => h) (v := ?_) (by kernel_rfl) ?_ (by assumption) ?_; rotate_left; (focus (intro wS hSw; skip; go_simp; try with_reducible rfl)); (try simp only [Act.put, List.setIfInBounds_toArray, List.set_cons_zero, List.set_cons_succ]))
  refine wpAnyH_ready (rs := [16]) (by kernel_rfl) (by simp) ?_
  refine AllReadyH.cons rfl (fun K hK => ?_) AllReadyH.nil
  go_simp
  go_at_call 32
  refine (Kd2.out _).mono ?_
  rintro e u4 ⟨rfl, hp⟩
  have hn4 : NoW v0 u4 := Fp.trans hHeld hp (fun _ _ h => h)
  skip
  clear hp hHeld hn3
  refine hK.out _ _ hn4 (fun hHeld => ?_)
  clear hK K
  try simp only [Act.put, List.setIfInBounds_toArray, List.set_cons_zero, List.set_cons_succ]
  (refine take_at 17 (some 25) rfl rfl (by kernel_rfl) (by kernel_rfl) (by kernel_rfl) (fun _ _ _ h => h) (v := ?_) (by kernel_rfl) ?_ (by assumption) ?_; rotate_left; (focus (intro wS hSw; skip; go_simp; try with_reducible rfl)); (try simp only [Act.put, List.setIfInBounds_toArray, List.set_cons_zero, List.set_cons_succ]))
  (refine take_at 18 (some 3) rfl rfl (by kernel_rfl) (by kernel_rfl) (by kernel_rfl) (fun _ _ _ h => h) (v := ?_) (by kernel_rfl) ?_ (by assumption) ?_; rotate_left; (focus (intro wS hSw; skip; go_simp; try with_reducible rfl)); (try simp only [Act.put, List.setIfInBounds_toArray, List.set_cons_zero, List.set_cons_succ]))
  refine wpAnyH_done (by kernel_rfl) ?_ _
  have hbU := (hHeld.block _ (Array.getElem?_eq_some_iff.1 BX.out).1 id).trans BX.out
  have HU := Lib.hid (Hm0.out.trans hHeld (fun _ _ h => h))
  have zc : u4.cell? ⟨gBX, 12, none⟩ = some (.slice (some ⟨hb, ho, none⟩) n c) := by simp [World.cell?, hbU]
  have lz := cell_lt zc
  have Zc := Lib.hid zc
  clear hHeld hbU zc BX cBX0 cBX1 cBX2 cBX3 cBX4 cBX5 cBX6 cBX7 cBX8 cBX9 cBX10 cBX11 cBX12 lBX
  go_wp2_with fail
  go_loopg [3, 4] (n + 1) (fun gg s i wx => ∃ k : Nat, k ≤ n ∧ gg = n + 1 - k ∧ i = .int .i64 (k : Int) ∧ s = str (entT r a p b q r2 a2 p2 b2 q2 st dl oa op ia ip k) ∧ NoW u4 wx)
  case atStart => exact ⟨0, by omega, by omega, rfl, by rw [HF.out], Fp.refl _ _⟩
  case round =>
    obtain ⟨k, hk, hg, rfl, rfl, hf⟩ := hrel
    have Hg := Lib.hid hg
    have zc := (hf.cell (p := ⟨gBX, 12, none⟩) lz id).trans Zc.out
    have lzr := cell_lt zc
    have Hf := Lib.hid hf
    clear hg hf
    by_cases hlt : k < n
    · obtain ⟨⟨v0, v1, v2, v3⟩, bd0, bd1, bd2, bd3⟩ := Hv.out k hlt
      have hhr := Hh.out.low (HU.out.trans Hf.out (fun _ _ h => h))
      have y0 : wr.cell? ⟨hb, ho + k * 4, none⟩ = some (.int .u32 (oa k)) := hhr.cell (k * 4) _ v0
      have y1 : wr.cell? ⟨hb, ho + k * 4 + 1, none⟩ = some (.int .u16 (op k)) := hhr.cell (k * 4 + 1) _ v1
      have y2 : wr.cell? ⟨hb, ho + k * 4 + 2, none⟩ = some (.int .u32 (ia k)) := hhr.cell (k * 4 + 2) _ v2
      have y3 : wr.cell? ⟨hb, ho + k * 4 + 3, none⟩ = some (.int .u16 (ip k)) := hhr.cell (k * 4 + 3) _ v3
      have hkk : decide ((k : Int) < (n : Int)) = true := by simp; omega
      have ly : hb < wr.heap.size := cell_lt y0
      have kq1 := fun W => rt_ptext (oa k) bd0 (op k) bd1 W
      have kq2 := fun W => rt_ptext (ia k) bd2 (ip k) bd3 W
      have lt0 := Hlen.out k hk
      have HF1 : entT r a p b q r2 a2 p2 b2 q2 st dl oa op ia ip (k + 1) = entT r a p b q r2 a2 p2 b2 q2 st dl oa op ia ip k ++ [32] ++ withT 58 (oa k) (op k) ++ [61] ++ withT 58 (ia k) (ip k) := entT_succ ..
      have lt1 : (withT 58 (oa k) (op k)).length ≤ 40 := withT_len _ _ bd0 bd1
      obtain ⟨t1, ht1⟩ : ∃ s : List UInt8, s = withT 58 (oa k) (op k) := ⟨_, rfl⟩
      rw [← ht1] at lt1
      have lt2 : (withT 58 (ia k) (ip k)).length ≤ 40 := withT_len _ _ bd2 bd3
      obtain ⟨t2, ht2⟩ : ∃ s : List UInt8, s = withT 58 (ia k) (ip k) := ⟨_, rfl⟩
      rw [← ht2] at lt2
      obtain ⟨t0, ht0⟩ : ∃ s : List UInt8, s = entT r a p b q r2 a2 p2 b2 q2 st dl oa op ia ip k := ⟨_, rfl⟩
      rw [← ht0] at lt0
      obtain ⟨s1, hs1⟩ : ∃ s : List UInt8, s = t0 ++ [32] := ⟨_, rfl⟩
      have ls1 : s1.length ≤ 2010 := by rw [hs1]; simp; omega
      have as1 : ∀ W, (Op.stringOp .add ⟨(t0).toArray⟩ ⟨#[32]⟩).run Tryz.prog W = .ok (str s1) W := fun W => by rw [hs1]; exact run_string_add_lists W (t0) ([32]) (by first | omega | (simp; omega)) (by first | omega | (simp; omega) | simp)
      obtain ⟨s2, hs2⟩ : ∃ s : List UInt8, s = s1 ++ t1 := ⟨_, rfl⟩
      have ls2 : s2.length ≤ 2060 := by rw [hs2]; simp; omega
      have as2 : ∀ W, (Op.stringOp .add ⟨(s1).toArray⟩ ⟨(t1).toArray⟩).run Tryz.prog W = .ok (str s2) W := fun W => by rw [hs2]; exact run_string_add_lists W (s1) (t1) (by first | omega | (simp; omega)) (by first | omega | (simp; omega) | simp)
      obtain ⟨s3, hs3⟩ : ∃ s : List UInt8, s = s2 ++ [61] := ⟨_, rfl⟩
      have ls3 : s3.length ≤ 2070 := by rw [hs3]; simp; omega
      have as3 : ∀ W, (Op.stringOp .add ⟨(s2).toArray⟩ ⟨#[61]⟩).run Tryz.prog W = .ok (str s3) W := fun W => by rw [hs3]; exact run_string_add_lists W (s2) ([61]) (by first | omega | (simp; omega)) (by first | omega | (simp; omega) | simp)
      obtain ⟨s4, hs4⟩ : ∃ s : List UInt8, s = s3 ++ t2 := ⟨_, rfl⟩
      have ls4 : s4.length ≤ 2120 := by rw [hs4]; simp; omega
      have as4 : ∀ W, (Op.stringOp .add ⟨(s3).toArray⟩ ⟨(t2).toArray⟩).run Tryz.prog W = .ok (str s4) W := fun W => by rw [hs4]; exact run_string_add_lists W (s3) (t2) (by first | omega | (simp; omega)) (by first | omega | (simp; omega) | simp)
      rw [← ht1] at kq1
      rw [← ht2] at kq2
      rw [← ht0, ← ht1, ← ht2, ← hs1, ← hs2, ← hs3, ← hs4] at HF1
      rw [← ht0]
      have Q1 := Lib.hid kq1
      have Q2 := Lib.hid kq2
      have HF2 := Lib.hid HF1
      clear v0 v1 v2 v3 hhr bd0 bd1 bd2 bd3 kq1 kq2 HF1 ht0 ht1 ht2 hs1 hs2 hs3 hs4 lt0 lt1 lt2 ls1 ls2 ls3 ls4
      go_wp2_with fail
      refine wp_region_held_drew (S := fun wx => NoW wr wx) (by kernel_rfl) (Fp.drew (Fp.refl _ _)) (fun hHeld => ?_)
      (refine take_at 0 (some 33) rfl rfl (by kernel_rfl) (by kernel_rfl) (by kernel_rfl) (fun _ _ _ h => h) (v := ?_) (by kernel_rfl) ?_ (by assumption) ?_; rotate_left; (focus (intro wS hSw; skip; go_simp; try with_reducible rfl)); (try simp only [Act.put, List.setIfInBounds_toArray, List.set_cons_zero, List.set_cons_succ]))
      (refine take_at 1 (some 34) rfl rfl (by kernel_rfl) (by kernel_rfl) (by kernel_rfl) (fun _ _ _ h => h) (v := ?_) (by kernel_rfl) ?_ (by assumption) ?_; rotate_left; (focus (intro wS hSw; skip; go_simp; try with_reducible rfl)); (try simp only [Act.put, List.setIfInBounds_toArray, List.set_cons_zero, List.set_cons_succ]))
      (refine take_at 2 (some 35) rfl rfl (by kernel_rfl) (by kernel_rfl) (by kernel_rfl) (fun _ _ _ h => h) (v := ?_) (by kernel_rfl) ?_ (by assumption) ?_; rotate_left; (focus (intro wS hSw; skip; go_simp; try with_reducible rfl)); (try simp only [Act.put, List.setIfInBounds_toArray, List.set_cons_zero, List.set_cons_succ]))
      (refine take_at 3 (some 36) rfl rfl (by kernel_rfl) (by kernel_rfl) (by kernel_rfl) (fun _ _ _ h => h) (v := ?_) (by kernel_rfl) ?_ (by assumption) ?_; rotate_left; (focus (intro wS hSw; (have qz := (hSw.cell (p := ⟨gBX, 12, none⟩) lzr id).trans zc); go_simp; try with_reducible rfl)); (try simp only [Act.put, List.setIfInBounds_toArray, List.set_cons_zero, List.set_cons_succ]))
      (refine take_at 4 (some 37) rfl rfl (by kernel_rfl) (by kernel_rfl) (by kernel_rfl) (fun _ _ _ h => h) (v := ?_) (by kernel_rfl) ?_ (by assumption) ?_; rotate_left; (focus (intro wS hSw; skip; go_simp; try with_reducible rfl)); (try simp only [Act.put, List.setIfInBounds_toArray, List.set_cons_zero, List.set_cons_succ]))
      (refine take_at 5 (some 38) rfl rfl (by kernel_rfl) (by kernel_rfl) (by kernel_rfl) (fun _ _ _ h => h) (v := ?_) (by kernel_rfl) ?_ (by assumption) ?_; rotate_left; (focus (intro wS hSw; skip; go_simp; try with_reducible rfl)); (try simp only [Act.put, List.setIfInBounds_toArray, List.set_cons_zero, List.set_cons_succ]))
      (refine take_at 6 (some 39) rfl rfl (by kernel_rfl) (by kernel_rfl) (by kernel_rfl) (fun _ _ _ h => h) (v := ?_) (by kernel_rfl) ?_ (by assumption) ?_; rotate_left; (focus (intro wS hSw; skip; go_simp; try with_reducible rfl)); (try simp only [Act.put, List.setIfInBounds_toArray, List.set_cons_zero, List.set_cons_succ]))
      (refine take_at 7 (some 40) rfl rfl (by kernel_rfl) (by kernel_rfl) (by kernel_rfl) (fun _ _ _ h => h) (v := ?_) (by kernel_rfl) ?_ (by assumption) ?_; rotate_left; (focus (intro wS hSw; (have qy0 := (hSw.cell (p := ⟨hb, ho + k * 4, none⟩) ly id).trans y0); (have qy1 := (hSw.cell (p := ⟨hb, ho + k * 4 + 1, none⟩) ly id).trans y1); go_simp; try with_reducible rfl)); (try simp only [Act.put, List.setIfInBounds_toArray, List.set_cons_zero, List.set_cons_succ]))
      (refine take_at 11 (some 44) rfl rfl (by kernel_rfl) (by kernel_rfl) (by kernel_rfl) (fun _ _ _ h => h) (v := ?_) (by kernel_rfl) ?_ (by assumption) ?_; rotate_left; (focus (intro wS hSw; skip; go_simp; try with_reducible rfl)); (try simp only [Act.put, List.setIfInBounds_toArray, List.set_cons_zero, List.set_cons_succ]))
      (refine take_at 12 (some 45) rfl rfl (by kernel_rfl) (by kernel_rfl) (by kernel_rfl) (fun _ _ _ h => h) (v := ?_) (by kernel_rfl) ?_ (by assumption) ?_; rotate_left; (focus (intro wS hSw; (have qz := (hSw.cell (p := ⟨gBX, 12, none⟩) lzr id).trans zc); go_simp; try with_reducible rfl)); (try simp only [Act.put, List.setIfInBounds_toArray, List.set_cons_zero, List.set_cons_succ]))
      (refine take_at 13 (some 46) rfl rfl (by kernel_rfl) (by kernel_rfl) (by kernel_rfl) (fun _ _ _ h => h) (v := ?_) (by kernel_rfl) ?_ (by assumption) ?_; rotate_left; (focus (intro wS hSw; skip; go_simp; try with_reducible rfl)); (try simp only [Act.put, List.setIfInBounds_toArray, List.set_cons_zero, List.set_cons_succ]))
      (refine take_at 14 (some 47) rfl rfl (by kernel_rfl) (by kernel_rfl) (by kernel_rfl) (fun _ _ _ h => h) (v := ?_) (by kernel_rfl) ?_ (by assumption) ?_; rotate_left; (focus (intro wS hSw; skip; go_simp; try with_reducible rfl)); (try simp only [Act.put, List.setIfInBounds_toArray, List.set_cons_zero, List.set_cons_succ]))
      (refine take_at 15 (some 48) rfl rfl (by kernel_rfl) (by kernel_rfl) (by kernel_rfl) (fun _ _ _ h => h) (v := ?_) (by kernel_rfl) ?_ (by assumption) ?_; rotate_left; (focus (intro wS hSw; skip; go_simp; try with_reducible rfl)); (try simp only [Act.put, List.setIfInBounds_toArray, List.set_cons_zero, List.set_cons_succ]))
      (refine take_at 16 (some 49) rfl rfl (by kernel_rfl) (by kernel_rfl) (by kernel_rfl) (fun _ _ _ h => h) (v := ?_) (by kernel_rfl) ?_ (by assumption) ?_; rotate_left; (focus (intro wS hSw; (have qy2 := (hSw.cell (p := ⟨hb, ho + k * 4 + 2, none⟩) ly id).trans y2); (have qy3 := (hSw.cell (p := ⟨hb, ho + k * 4 + 3, none⟩) ly id).trans y3); go_simp; try with_reducible rfl)); (try simp only [Act.put, List.setIfInBounds_toArray, List.set_cons_zero, List.set_cons_succ]))
      refine wpAnyH_ready (rs := [8]) (by kernel_rfl) (by simp) ?_
      refine AllReadyH.cons rfl (fun K hK => ?_) AllReadyH.nil
      go_simp
      go_at_call 33
      refine (Q1.out _).mono ?_
      rintro e u1 ⟨rfl, hp⟩
      have hn1 : NoW wr u1 := Fp.trans hHeld hp (fun _ _ h => h)
      skip
      clear hp hHeld
      refine hK.out _ _ hn1 (fun hHeld => ?_)
      clear hK K
      try simp only [Act.put, List.setIfInBounds_toArray, List.set_cons_zero, List.set_cons_succ]
      (refine take_at 9 (some 42) rfl rfl (by kernel_rfl) (by kernel_rfl) (by kernel_rfl) (fun _ _ _ h => h) (v := ?_) (by kernel_rfl) ?_ (by assumption) ?_; rotate_left; (focus (intro wS hSw; skip; go_simp; try with_reducible rfl)); (try simp only [Act.put, List.setIfInBounds_toArray, List.set_cons_zero, List.set_cons_succ]))
      (refine take_at 10 (some 43) rfl rfl (by kernel_rfl) (by kernel_rfl) (by kernel_rfl) (fun _ _ _ h => h) (v := ?_) (by kernel_rfl) ?_ (by assumption) ?_; rotate_left; (focus (intro wS hSw; skip; go_simp; try with_reducible rfl)); (try simp only [Act.put, List.setIfInBounds_toArray, List.set_cons_zero, List.set_cons_succ]))
      refine wpAnyH_ready (rs := [17]) (by kernel_rfl) (by simp) ?_
      refine AllReadyH.cons rfl (fun K hK => ?_) AllReadyH.nil
      go_simp
      go_at_call 33
      refine (Q2.out _).mono ?_
      rintro e u2 ⟨rfl, hp⟩
      have hn2 : NoW wr u2 := Fp.trans hHeld hp (fun _ _ h => h)
      skip
      clear hp hHeld hn1
      refine hK.out _ _ hn2 (fun hHeld => ?_)
      clear hK K
      try simp only [Act.put, List.setIfInBounds_toArray, List.set_cons_zero, List.set_cons_succ]
      (refine take_at 18 (some 51) rfl rfl (by kernel_rfl) (by kernel_rfl) (by kernel_rfl) (fun _ _ _ h => h) (v := ?_) (by kernel_rfl) ?_ (by assumption) ?_; rotate_left; (focus (intro wS hSw; skip; go_simp; try with_reducible rfl)); (try simp only [Act.put, List.setIfInBounds_toArray, List.set_cons_zero, List.set_cons_succ]))
      (refine take_at 19 (some 3) rfl rfl (by kernel_rfl) (by kernel_rfl) (by kernel_rfl) (fun _ _ _ h => h) (v := ?_) (by kernel_rfl) ?_ (by assumption) ?_; rotate_left; (focus (intro wS hSw; skip; go_simp; try with_reducible rfl)); (try simp only [Act.put, List.setIfInBounds_toArray, List.set_cons_zero, List.set_cons_succ]))
      refine wpAnyH_done (by kernel_rfl) ?_ _
      have Hfr := Lib.hid (Hf.out.trans hHeld (fun _ _ h => h))
      clear hHeld y0 y1 y2 y3 zc
      go_wp2_with fail
      go_roundg (n - k)
      case measure => have := Hg.out; omega
      case rel => exact ⟨k + 1, by omega, by omega, by go_num, by rw [HF2.out], Hfr.out⟩
    · obtain rfl : k = n := by omega
      have HR := Lib.hid (HU.out.trans Hf.out (fun _ _ h => h))
      have hkk : decide ((k : Int) < (k : Int)) = false := by simp
      go_wp2_with fail
      go_ret
      exact ⟨rfl, HR.out⟩
end Go.Proofs.YtdmbjndhdldggaaGreatDoor
