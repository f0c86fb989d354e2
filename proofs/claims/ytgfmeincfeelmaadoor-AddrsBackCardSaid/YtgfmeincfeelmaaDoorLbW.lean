/- Chapter 03: AddrsBack's walk (written by genback.py). -/
import Derived.Test.YtgfmeincfeelmaaDoorLtW
import Derived.Test.YtgfmeincfeelmaaDoorAdWh
namespace Go.Proofs.YtgfmeincfeelmaaDoor
set_option linter.unusedVariables false
set_option linter.unusedSimpArgs false
open Go.RowKit Go.Lib Go.Sort
theorem box2 (w : World) (A B : Obj) : ((w.alloc A).alloc B).heap[w.heap.size]? = some A ∧ ((w.alloc A).alloc B).heap[w.heap.size + 1]? = some B := by
  refine ⟨?_, ?_⟩
  · exact (((Fp.refl (fun _ => False) (w.alloc A)).alloc B).block w.heap.size (by simp) id).trans (heap_alloc_new w A)
  · simpa using heap_alloc_new (w.alloc A) B

set_option maxHeartbeats 4000000 in
set_option maxRecDepth 100000 in
theorem back_e (w : World) (ht : Tb w) (a p : Int) (ip n k : Int) (x1 x2 x3 x4 : List UInt8) 
    (k0 : ∀ W, Calls Tryd.prog 15 #[.int .u32 a, .int .u8 k] W (Ret1 (.agg #[.int .u32 ip, .int .i64 n]) W))
    (k1 : ∀ W, Tb W → Calls Tryd.prog 19 #[.agg #[.int .u32 a, .int .u16 p]] W (Ret1 (str x1) W))
    (k2 : ∀ W, Tb W → Calls Tryd.prog 13 #[str x1] W (Ret1 (.tuple #[.agg #[.int .u32 a, .int .u16 p], .int .i64 0]) W))
    (k3 : ∀ W, Tb W → Calls Tryd.prog 17 #[.int .u32 a] W (Ret1 (str x2) W))
    (k4 : ∀ W, Tb W → Calls Tryd.prog 9 #[str x2] W (Ret1 (.tuple #[.int .u32 a, .int .i64 0]) W))
    (k5 : ∀ W, Tb W → Calls Tryd.prog 18 #[.agg #[.int .u32 ip, .int .i64 n]] W (Ret1 (str x3) W))
    (k6 : ∀ W, Tb W → Calls Tryd.prog 11 #[str x3] W (Ret1 (.tuple #[.agg #[.int .u32 ip, .int .i64 n], .int .i64 0]) W))
    (k7 : ∀ W, Calls Tryd.prog 23 #[.agg #[.int .u32 ip, .int .i64 n]] W (Ret1 (.bool true) W))
    (k8 : ∀ W, Calls Tryd.prog 16 #[.agg #[.int .u32 ip, .int .i64 n], .int .u32 a] W (Ret1 (.bool true) W))
    (k9 : ∀ W, Calls Tryd.prog 26 #[.agg #[.int .u32 a, .int .u16 p], .agg #[.int .u32 a, .int .u16 p]] W (Ret1 (.bool false) W))
    (k10 : ∀ W, Calls Tryd.prog 26 #[.agg #[.int .u32 a, .int .u16 p], .agg #[.int .u32 a, .int .u16 p]] W (Ret1 (.bool false) W))
    (k11 : ∀ W, Tb W → Calls Tryd.prog 19 #[.agg #[.int .u32 a, .int .u16 p]] W (Ret1 (str x1) W)) :
    Calls Tryd.prog 7 #[.agg #[.int .u32 a, .int .u16 p], .agg #[.int .u32 a, .int .u16 p], .int .u8 k] w (Ret1 (.bool true) w) := by
  have Ht := Lib.hid ht
  have K0 := Lib.hid k0
  have K1 := Lib.hid k1
  have K2 := Lib.hid k2
  have K3 := Lib.hid k3
  have K4 := Lib.hid k4
  have K5 := Lib.hid k5
  have K6 := Lib.hid k6
  have K7 := Lib.hid k7
  have K8 := Lib.hid k8
  have K9 := Lib.hid k9
  have K10 := Lib.hid k10
  have K11 := Lib.hid k11
  clear ht k0 k1 k2 k3 k4 k5 k6 k7 k8 k9 k10 k11
  go_enter Tryd.func7, Tryd.ntmps7
  go_wp2_with fail
  have hw0 : NoW w ((w.alloc (.cells #[.int .u32 a, .int .u16 p] 34)).alloc (.cells #[.int .u32 a, .int .u16 p] 34)) := ((Fp.refl _ _).alloc _).alloc _
  obtain ⟨hb3, hb4⟩ := box2 w (.cells #[.int .u32 a, .int .u16 p] 34) (.cells #[.int .u32 a, .int .u16 p] 34)
  generalize ((w.alloc (.cells #[.int .u32 a, .int .u16 p] 34)).alloc (.cells #[.int .u32 a, .int .u16 p] 34)) = w0 at *
  have B3 := Lib.hid hb3
  have B4 := Lib.hid hb4
  have hg34 : w.heap.size < w.heap.size + 1 := by omega
  clear hb3 hb4
  generalize w.heap.size + 1 = g4 at *
  generalize w.heap.size = g3 at *
  have Hn0 := Lib.hid hw0
  clear hw0
  refine (K0.out _).mono ?_
  rintro e v0 ⟨rfl, hp⟩
  have Hm0 := Lib.hid (Hn0.out.trans hp (fun _ _ h => h))
  have hb := (hp.block _ (Array.getElem?_eq_some_iff.1 B3.out).1 id).trans B3.out
  clear B3
  have B3 := Lib.hid hb
  clear hb
  have hb := (hp.block _ (Array.getElem?_eq_some_iff.1 B4.out).1 id).trans B4.out
  clear B4
  have B4 := Lib.hid hb
  clear hb
  clear hp Hn0
  have cB30 : v0.cell? ⟨g3, 0, none⟩ = some (.int .u32 a) := by simp [World.cell?, B3.out]
  have cB31 : v0.cell? ⟨g3, 1, none⟩ = some (.int .u16 p) := by simp [World.cell?, B3.out]
  have lB3 : g3 < v0.heap.size := cell_lt cB30
  go_wp2_with fail
  clear cB30 cB31 lB3
  have hq : NoW v0 (v0.alloc (.cells #[.int .u32 ip, .int .i64 n] 29)) := (Fp.refl _ _).alloc _
  have Hq1 := Lib.hid (Hm0.out.trans hq (fun _ _ h => h))
  have hb := (hq.block _ (Array.getElem?_eq_some_iff.1 B3.out).1 id).trans B3.out
  clear B3
  have B3 := Lib.hid hb
  clear hb
  have hb := (hq.block _ (Array.getElem?_eq_some_iff.1 B4.out).1 id).trans B4.out
  clear B4
  have B4 := Lib.hid hb
  clear hb
  have B7 := Lib.hid (heap_alloc_new v0 (.cells #[.int .u32 ip, .int .i64 n] 29))
  clear hq Hm0
  refine (K1.out _ (Ht.out.low Hq1.out)).mono ?_
  rintro e v1 ⟨rfl, hp⟩
  have Hm1 := Lib.hid (Hq1.out.trans hp (fun _ _ h => h))
  have hb := (hp.block _ (Array.getElem?_eq_some_iff.1 B3.out).1 id).trans B3.out
  clear B3
  have B3 := Lib.hid hb
  clear hb
  have hb := (hp.block _ (Array.getElem?_eq_some_iff.1 B4.out).1 id).trans B4.out
  clear B4
  have B4 := Lib.hid hb
  clear hb
  have hb := (hp.block _ (Array.getElem?_eq_some_iff.1 B7.out).1 id).trans B7.out
  clear B7
  have B7 := Lib.hid hb
  clear hb
  clear hp Hq1
  go_wp2_with fail
  refine (K2.out _ (Ht.out.low Hm1.out)).mono ?_
  rintro e v2 ⟨rfl, hp⟩
  have Hm2 := Lib.hid (Hm1.out.trans hp (fun _ _ h => h))
  have hb := (hp.block _ (Array.getElem?_eq_some_iff.1 B3.out).1 id).trans B3.out
  clear B3
  have B3 := Lib.hid hb
  clear hb
  have hb := (hp.block _ (Array.getElem?_eq_some_iff.1 B4.out).1 id).trans B4.out
  clear B4
  have B4 := Lib.hid hb
  clear hb
  have hb := (hp.block _ (Array.getElem?_eq_some_iff.1 B7.out).1 id).trans B7.out
  clear B7
  have B7 := Lib.hid hb
  clear hb
  clear hp Hm1
  have cB30 : v2.cell? ⟨g3, 0, none⟩ = some (.int .u32 a) := by simp [World.cell?, B3.out]
  have cB31 : v2.cell? ⟨g3, 1, none⟩ = some (.int .u16 p) := by simp [World.cell?, B3.out]
  have lB3 : g3 < v2.heap.size := cell_lt cB30
  go_wp2_with fail
  clear cB30 cB31 lB3
  have hq : NoW v2 (v2.alloc (.cells #[.int .u32 a, .int .u16 p] 34)) := (Fp.refl _ _).alloc _
  have Hq3 := Lib.hid (Hm2.out.trans hq (fun _ _ h => h))
  have hb := (hq.block _ (Array.getElem?_eq_some_iff.1 B3.out).1 id).trans B3.out
  clear B3
  have B3 := Lib.hid hb
  clear hb
  have hb := (hq.block _ (Array.getElem?_eq_some_iff.1 B4.out).1 id).trans B4.out
  clear B4
  have B4 := Lib.hid hb
  clear hb
  have hb := (hq.block _ (Array.getElem?_eq_some_iff.1 B7.out).1 id).trans B7.out
  clear B7
  have B7 := Lib.hid hb
  clear hb
  have B8 := Lib.hid (heap_alloc_new v2 (.cells #[.int .u32 a, .int .u16 p] 34))
  clear hq Hm2
  refine (K3.out _ (Ht.out.low Hq3.out)).mono ?_
  rintro e v3 ⟨rfl, hp⟩
  have Hm3 := Lib.hid (Hq3.out.trans hp (fun _ _ h => h))
  have hb := (hp.block _ (Array.getElem?_eq_some_iff.1 B3.out).1 id).trans B3.out
  clear B3
  have B3 := Lib.hid hb
  clear hb
  have hb := (hp.block _ (Array.getElem?_eq_some_iff.1 B4.out).1 id).trans B4.out
  clear B4
  have B4 := Lib.hid hb
  clear hb
  have hb := (hp.block _ (Array.getElem?_eq_some_iff.1 B7.out).1 id).trans B7.out
  clear B7
  have B7 := Lib.hid hb
  clear hb
  have hb := (hp.block _ (Array.getElem?_eq_some_iff.1 B8.out).1 id).trans B8.out
  clear B8
  have B8 := Lib.hid hb
  clear hb
  clear hp Hq3
  go_wp2_with fail
  refine (K4.out _ (Ht.out.low Hm3.out)).mono ?_
  rintro e v4 ⟨rfl, hp⟩
  have Hm4 := Lib.hid (Hm3.out.trans hp (fun _ _ h => h))
  have hb := (hp.block _ (Array.getElem?_eq_some_iff.1 B3.out).1 id).trans B3.out
  clear B3
  have B3 := Lib.hid hb
  clear hb
  have hb := (hp.block _ (Array.getElem?_eq_some_iff.1 B4.out).1 id).trans B4.out
  clear B4
  have B4 := Lib.hid hb
  clear hb
  have hb := (hp.block _ (Array.getElem?_eq_some_iff.1 B7.out).1 id).trans B7.out
  clear B7
  have B7 := Lib.hid hb
  clear hb
  have hb := (hp.block _ (Array.getElem?_eq_some_iff.1 B8.out).1 id).trans B8.out
  clear B8
  have B8 := Lib.hid hb
  clear hb
  clear hp Hm3
  have cB70 : v4.cell? ⟨v0.heap.size, 0, none⟩ = some (.int .u32 ip) := by simp [World.cell?, B7.out]
  have cB71 : v4.cell? ⟨v0.heap.size, 1, none⟩ = some (.int .i64 n) := by simp [World.cell?, B7.out]
  have lB7 : v0.heap.size < v4.heap.size := cell_lt cB70
  go_wp2_with fail
  clear cB70 cB71 lB7
  refine (K5.out _ (Ht.out.low Hm4.out)).mono ?_
  rintro e v5 ⟨rfl, hp⟩
  have Hm5 := Lib.hid (Hm4.out.trans hp (fun _ _ h => h))
  have hb := (hp.block _ (Array.getElem?_eq_some_iff.1 B3.out).1 id).trans B3.out
  clear B3
  have B3 := Lib.hid hb
  clear hb
  have hb := (hp.block _ (Array.getElem?_eq_some_iff.1 B4.out).1 id).trans B4.out
  clear B4
  have B4 := Lib.hid hb
  clear hb
  have hb := (hp.block _ (Array.getElem?_eq_some_iff.1 B7.out).1 id).trans B7.out
  clear B7
  have B7 := Lib.hid hb
  clear hb
  have hb := (hp.block _ (Array.getElem?_eq_some_iff.1 B8.out).1 id).trans B8.out
  clear B8
  have B8 := Lib.hid hb
  clear hb
  clear hp Hm4
  go_wp2_with fail
  refine (K6.out _ (Ht.out.low Hm5.out)).mono ?_
  rintro e v6 ⟨rfl, hp⟩
  have Hm6 := Lib.hid (Hm5.out.trans hp (fun _ _ h => h))
  have hb := (hp.block _ (Array.getElem?_eq_some_iff.1 B3.out).1 id).trans B3.out
  clear B3
  have B3 := Lib.hid hb
  clear hb
  have hb := (hp.block _ (Array.getElem?_eq_some_iff.1 B4.out).1 id).trans B4.out
  clear B4
  have B4 := Lib.hid hb
  clear hb
  have hb := (hp.block _ (Array.getElem?_eq_some_iff.1 B7.out).1 id).trans B7.out
  clear B7
  have B7 := Lib.hid hb
  clear hb
  have hb := (hp.block _ (Array.getElem?_eq_some_iff.1 B8.out).1 id).trans B8.out
  clear B8
  have B8 := Lib.hid hb
  clear hb
  clear hp Hm5
  have cB80 : v6.cell? ⟨v2.heap.size, 0, none⟩ = some (.int .u32 a) := by simp [World.cell?, B8.out]
  have cB81 : v6.cell? ⟨v2.heap.size, 1, none⟩ = some (.int .u16 p) := by simp [World.cell?, B8.out]
  have lB8 : v2.heap.size < v6.heap.size := cell_lt cB80
  have cB30 : v6.cell? ⟨g3, 0, none⟩ = some (.int .u32 a) := by simp [World.cell?, B3.out]
  have cB31 : v6.cell? ⟨g3, 1, none⟩ = some (.int .u16 p) := by simp [World.cell?, B3.out]
  have lB3 : g3 < v6.heap.size := cell_lt cB30
  have cB70 : v6.cell? ⟨v0.heap.size, 0, none⟩ = some (.int .u32 ip) := by simp [World.cell?, B7.out]
  have cB71 : v6.cell? ⟨v0.heap.size, 1, none⟩ = some (.int .i64 n) := by simp [World.cell?, B7.out]
  have lB7 : v0.heap.size < v6.heap.size := cell_lt cB70
  go_wp2_with fail
  clear cB80 cB81 lB8 cB30 cB31 lB3 cB70 cB71 lB7
  have hq : NoW v6 (v6.alloc (.cells #[.int .u32 ip, .int .i64 n] 29)) := (Fp.refl _ _).alloc _
  have Hq7 := Lib.hid (Hm6.out.trans hq (fun _ _ h => h))
  have hb := (hq.block _ (Array.getElem?_eq_some_iff.1 B3.out).1 id).trans B3.out
  clear B3
  have B3 := Lib.hid hb
  clear hb
  have hb := (hq.block _ (Array.getElem?_eq_some_iff.1 B4.out).1 id).trans B4.out
  clear B4
  have B4 := Lib.hid hb
  clear hb
  have hb := (hq.block _ (Array.getElem?_eq_some_iff.1 B7.out).1 id).trans B7.out
  clear B7
  have B7 := Lib.hid hb
  clear hb
  have hb := (hq.block _ (Array.getElem?_eq_some_iff.1 B8.out).1 id).trans B8.out
  clear B8
  have B8 := Lib.hid hb
  clear hb
  have B12 := Lib.hid (heap_alloc_new v6 (.cells #[.int .u32 ip, .int .i64 n] 29))
  clear hq Hm6
  refine (K7.out _).mono ?_
  rintro e v7 ⟨rfl, hp⟩
  have Hm7 := Lib.hid (Hq7.out.trans hp (fun _ _ h => h))
  have hb := (hp.block _ (Array.getElem?_eq_some_iff.1 B3.out).1 id).trans B3.out
  clear B3
  have B3 := Lib.hid hb
  clear hb
  have hb := (hp.block _ (Array.getElem?_eq_some_iff.1 B4.out).1 id).trans B4.out
  clear B4
  have B4 := Lib.hid hb
  clear hb
  have hb := (hp.block _ (Array.getElem?_eq_some_iff.1 B7.out).1 id).trans B7.out
  clear B7
  have B7 := Lib.hid hb
  clear hb
  have hb := (hp.block _ (Array.getElem?_eq_some_iff.1 B8.out).1 id).trans B8.out
  clear B8
  have B8 := Lib.hid hb
  clear hb
  have hb := (hp.block _ (Array.getElem?_eq_some_iff.1 B12.out).1 id).trans B12.out
  clear B12
  have B12 := Lib.hid hb
  clear hb
  clear hp Hq7
  have cB70 : v7.cell? ⟨v0.heap.size, 0, none⟩ = some (.int .u32 ip) := by simp [World.cell?, B7.out]
  have cB71 : v7.cell? ⟨v0.heap.size, 1, none⟩ = some (.int .i64 n) := by simp [World.cell?, B7.out]
  have lB7 : v0.heap.size < v7.heap.size := cell_lt cB70
  have cB30 : v7.cell? ⟨g3, 0, none⟩ = some (.int .u32 a) := by simp [World.cell?, B3.out]
  have cB31 : v7.cell? ⟨g3, 1, none⟩ = some (.int .u16 p) := by simp [World.cell?, B3.out]
  have lB3 : g3 < v7.heap.size := cell_lt cB30
  go_wp2_with fail
  clear cB70 cB71 lB7 cB30 cB31 lB3
  refine (K8.out _).mono ?_
  rintro e v8 ⟨rfl, hp⟩
  have Hm8 := Lib.hid (Hm7.out.trans hp (fun _ _ h => h))
  have hb := (hp.block _ (Array.getElem?_eq_some_iff.1 B3.out).1 id).trans B3.out
  clear B3
  have B3 := Lib.hid hb
  clear hb
  have hb := (hp.block _ (Array.getElem?_eq_some_iff.1 B4.out).1 id).trans B4.out
  clear B4
  have B4 := Lib.hid hb
  clear hb
  have hb := (hp.block _ (Array.getElem?_eq_some_iff.1 B7.out).1 id).trans B7.out
  clear B7
  have B7 := Lib.hid hb
  clear hb
  have hb := (hp.block _ (Array.getElem?_eq_some_iff.1 B8.out).1 id).trans B8.out
  clear B8
  have B8 := Lib.hid hb
  clear hb
  have hb := (hp.block _ (Array.getElem?_eq_some_iff.1 B12.out).1 id).trans B12.out
  clear B12
  have B12 := Lib.hid hb
  clear hb
  clear hp Hm7
  go_wp2_with fail
  have c : v8.cell? ⟨g3, 0, none⟩ = some (.int .u32 a) := by simp [World.cell?, B3.out]
  have C30 := Lib.hid c
  clear c
  have c : v8.cell? ⟨g3, 1, none⟩ = some (.int .u16 p) := by simp [World.cell?, B3.out]
  have C31 := Lib.hid c
  clear c
  have c : v8.cell? ⟨g4, 0, none⟩ = some (.int .u32 a) := by simp [World.cell?, B4.out]
  have C40 := Lib.hid c
  clear c
  have c : v8.cell? ⟨g4, 1, none⟩ = some (.int .u16 p) := by simp [World.cell?, B4.out]
  have C41 := Lib.hid c
  clear c
  have l3 := cell_lt C30.out
  have l4 := cell_lt C40.out
  clear B3 B4 B7 B8 B12
  have Hw8 := Hm8
  refine wp_region_held_drew (S := fun wx => NoW v8 wx) (by kernel_rfl) (Fp.drew (Fp.refl _ _)) (fun hHeld => ?_)
  (refine take_at 0 (some 77) rfl rfl (by kernel_rfl) (by kernel_rfl) (by kernel_rfl) (fun _ _ _ h => h) (v := ?_) (by kernel_rfl) ?_ (by assumption) ?_; rotate_left; (focus (intro wS hSw; have d30 := (hSw.cell (p := ⟨g3, 0, none⟩) l3 id).trans C30.out; have d31 := (hSw.cell (p := ⟨g3, 1, none⟩) l3 id).trans C31.out; go_simp; try with_reducible rfl)); (try simp only [Act.put, List.setIfInBounds_toArray, List.set_cons_zero, List.set_cons_succ]))
  (refine take_at 1 (some 78) rfl rfl (by kernel_rfl) (by kernel_rfl) (by kernel_rfl) (fun _ _ _ h => h) (v := ?_) (by kernel_rfl) ?_ (by assumption) ?_; rotate_left; (focus (intro wS hSw; have d40 := (hSw.cell (p := ⟨g4, 0, none⟩) l4 id).trans C40.out; have d41 := (hSw.cell (p := ⟨g4, 1, none⟩) l4 id).trans C41.out; go_simp; try with_reducible rfl)); (try simp only [Act.put, List.setIfInBounds_toArray, List.set_cons_zero, List.set_cons_succ]))
  (refine take_at 3 (some 80) rfl rfl (by kernel_rfl) (by kernel_rfl) (by kernel_rfl) (fun _ _ _ h => h) (v := ?_) (by kernel_rfl) ?_ (by assumption) ?_; rotate_left; (focus (intro wS hSw; have d40 := (hSw.cell (p := ⟨g4, 0, none⟩) l4 id).trans C40.out; have d41 := (hSw.cell (p := ⟨g4, 1, none⟩) l4 id).trans C41.out; go_simp; try with_reducible rfl)); (try simp only [Act.put, List.setIfInBounds_toArray, List.set_cons_zero, List.set_cons_succ]))
  (refine take_at 4 (some 81) rfl rfl (by kernel_rfl) (by kernel_rfl) (by kernel_rfl) (fun _ _ _ h => h) (v := ?_) (by kernel_rfl) ?_ (by assumption) ?_; rotate_left; (focus (intro wS hSw; have d30 := (hSw.cell (p := ⟨g3, 0, none⟩) l3 id).trans C30.out; have d31 := (hSw.cell (p := ⟨g3, 1, none⟩) l3 id).trans C31.out; go_simp; try with_reducible rfl)); (try simp only [Act.put, List.setIfInBounds_toArray, List.set_cons_zero, List.set_cons_succ]))
  refine wpAnyH_ready (rs := [2]) (by kernel_rfl) (by simp) ?_
  refine AllReadyH.cons rfl (fun K hK => ?_) AllReadyH.nil
  go_simp
  go_at_call 26
  refine (K9.out _).mono ?_
  rintro e u1 ⟨rfl, hp⟩
  have hn1 : NoW v8 u1 := Fp.trans hHeld hp (fun _ _ h => h)
  skip
  clear hp hHeld
  refine hK.out _ _ hn1 (fun hHeld => ?_)
  clear hK K
  try simp only [Act.put, List.setIfInBounds_toArray, List.set_cons_zero, List.set_cons_succ]
  refine wpAnyH_ready (rs := [5]) (by kernel_rfl) (by simp) ?_
  refine AllReadyH.cons rfl (fun K hK => ?_) AllReadyH.nil
  go_simp
  go_at_call 26
  refine (K10.out _).mono ?_
  rintro e u2 ⟨rfl, hp⟩
  have hn2 : NoW v8 u2 := Fp.trans hHeld hp (fun _ _ h => h)
  skip
  clear hp hHeld hn1
  refine hK.out _ _ hn2 (fun hHeld => ?_)
  clear hK K
  try simp only [Act.put, List.setIfInBounds_toArray, List.set_cons_zero, List.set_cons_succ]
  (refine take_at 6 (some 14) rfl rfl (by kernel_rfl) (by kernel_rfl) (by kernel_rfl) (fun _ _ _ h => h) (v := ?_) (by kernel_rfl) ?_ (by assumption) ?_; rotate_left; (focus (intro wS hSw; skip; go_simp; try with_reducible rfl)); (try simp only [Act.put, List.setIfInBounds_toArray, List.set_cons_zero, List.set_cons_succ]))
  (refine take_at 7 (some 15) rfl rfl (by kernel_rfl) (by kernel_rfl) (by kernel_rfl) (fun _ _ _ h => h) (v := ?_) (by kernel_rfl) ?_ (by assumption) ?_; rotate_left; (focus (intro wS hSw; skip; go_simp; try with_reducible rfl)); (try simp only [Act.put, List.setIfInBounds_toArray, List.set_cons_zero, List.set_cons_succ]))
  refine wpAnyH_done (by kernel_rfl) ?_ _
  go_wp2_with fail
  have D30 := Lib.hid ((hn2.cell (p := ⟨g3, 0, none⟩) l3 id).trans C30.out)
  have D31 := Lib.hid ((hn2.cell (p := ⟨g3, 1, none⟩) l3 id).trans C31.out)
  have D40 := Lib.hid ((hn2.cell (p := ⟨g4, 0, none⟩) l4 id).trans C40.out)
  have D41 := Lib.hid ((hn2.cell (p := ⟨g4, 1, none⟩) l4 id).trans C41.out)
  have Hu2 := Lib.hid (Hw8.out.trans hn2 (fun _ _ h => h))
  clear l3 l4 C30 C31 C40 C41 hn2
  have l3 := cell_lt D30.out
  have l4 := cell_lt D40.out
  refine wp_region_held_drew (S := fun wx => NoW u2 wx) (by kernel_rfl) (Fp.drew (Fp.refl _ _)) (fun hHeld => ?_)
  (refine take_at 0 (some 83) rfl rfl (by kernel_rfl) (by kernel_rfl) (by kernel_rfl) (fun _ _ _ h => h) (v := ?_) (by kernel_rfl) ?_ (by assumption) ?_; rotate_left; (focus (intro wS hSw; have d30 := (hSw.cell (p := ⟨g3, 0, none⟩) l3 id).trans D30.out; have d31 := (hSw.cell (p := ⟨g3, 1, none⟩) l3 id).trans D31.out; go_simp; try with_reducible rfl)); (try simp only [Act.put, List.setIfInBounds_toArray, List.set_cons_zero, List.set_cons_succ]))
  (refine take_at 2 (some 85) rfl rfl (by kernel_rfl) (by kernel_rfl) (by kernel_rfl) (fun _ _ _ h => h) (v := ?_) (by kernel_rfl) ?_ (by assumption) ?_; rotate_left; (focus (intro wS hSw; have d40 := (hSw.cell (p := ⟨g4, 0, none⟩) l4 id).trans D40.out; have d41 := (hSw.cell (p := ⟨g4, 1, none⟩) l4 id).trans D41.out; go_simp; try with_reducible rfl)); (try simp only [Act.put, List.setIfInBounds_toArray, List.set_cons_zero, List.set_cons_succ]))
  (refine take_at 5 (some 88) rfl rfl (by kernel_rfl) (by kernel_rfl) (by kernel_rfl) (fun _ _ _ h => h) (v := ?_) (by kernel_rfl) ?_ (by assumption) ?_; rotate_left; (focus (intro wS hSw; have d30 := (hSw.cell (p := ⟨g3, 0, none⟩) l3 id).trans D30.out; have d31 := (hSw.cell (p := ⟨g3, 1, none⟩) l3 id).trans D31.out; go_simp; try with_reducible rfl)); (try simp only [Act.put, List.setIfInBounds_toArray, List.set_cons_zero, List.set_cons_succ]))
  (refine take_at 6 (some 89) rfl rfl (by kernel_rfl) (by kernel_rfl) (by kernel_rfl) (fun _ _ _ h => h) (v := ?_) (by kernel_rfl) ?_ (by assumption) ?_; rotate_left; (focus (intro wS hSw; have d40 := (hSw.cell (p := ⟨g4, 0, none⟩) l4 id).trans D40.out; have d41 := (hSw.cell (p := ⟨g4, 1, none⟩) l4 id).trans D41.out; go_simp; try with_reducible rfl)); (try simp only [Act.put, List.setIfInBounds_toArray, List.set_cons_zero, List.set_cons_succ]))
  (refine take_at 7 (some 90) rfl rfl (by kernel_rfl) (by kernel_rfl) (by kernel_rfl) (fun _ _ _ h => h) (v := ?_) (by kernel_rfl) ?_ (by assumption) ?_; rotate_left; (focus (intro wS hSw; skip; go_simp; try with_reducible rfl)); (try simp only [Act.put, List.setIfInBounds_toArray, List.set_cons_zero, List.set_cons_succ]))
  refine wpAnyH_ready (rs := [1]) (by kernel_rfl) (by simp) ?_
  refine AllReadyH.cons rfl (fun K hK => ?_) AllReadyH.nil
  go_simp
  go_at_call 19
  refine (K1.out _ (Ht.out.low (Hu2.out.trans hHeld (fun _ _ h => h)))).mono ?_
  rintro e t1 ⟨rfl, hp⟩
  have hn1 : NoW u2 t1 := Fp.trans hHeld hp (fun _ _ h => h)
  skip
  clear hp hHeld
  refine hK.out _ _ hn1 (fun hHeld => ?_)
  clear hK K
  try simp only [Act.put, List.setIfInBounds_toArray, List.set_cons_zero, List.set_cons_succ]
  refine wpAnyH_ready (rs := [3]) (by kernel_rfl) (by simp) ?_
  refine AllReadyH.cons rfl (fun K hK => ?_) AllReadyH.nil
  go_simp
  go_at_call 19
  refine (K11.out _ (Ht.out.low (Hu2.out.trans hHeld (fun _ _ h => h)))).mono ?_
  rintro e t2 ⟨rfl, hp⟩
  have hn2 : NoW u2 t2 := Fp.trans hHeld hp (fun _ _ h => h)
  skip
  clear hp hHeld hn1
  refine hK.out _ _ hn2 (fun hHeld => ?_)
  clear hK K
  try simp only [Act.put, List.setIfInBounds_toArray, List.set_cons_zero, List.set_cons_succ]
  (refine take_at 4 (some 87) rfl rfl (by kernel_rfl) (by kernel_rfl) (by kernel_rfl) (fun _ _ _ h => h) (v := ?_) (by kernel_rfl) ?_ (by assumption) ?_; rotate_left; (focus (intro wS hSw; skip; go_simp; try with_reducible rfl)); (try simp only [Act.put, List.setIfInBounds_toArray, List.set_cons_zero, List.set_cons_succ]))
  (refine take_at 8 (some 91) rfl rfl (by kernel_rfl) (by kernel_rfl) (by kernel_rfl) (fun _ _ _ h => h) (v := ?_) (by kernel_rfl) ?_ (by assumption) ?_; rotate_left; (focus (intro wS hSw; skip; go_simp; try with_reducible rfl)); (try simp only [Act.put, List.setIfInBounds_toArray, List.set_cons_zero, List.set_cons_succ]))
  (refine take_at 9 (some 92) rfl rfl (by kernel_rfl) (by kernel_rfl) (by kernel_rfl) (fun _ _ _ h => h) (v := ?_) (by kernel_rfl) ?_ (by assumption) ?_; rotate_left; (focus (intro wS hSw; skip; go_simp; try with_reducible rfl)); (try simp only [Act.put, List.setIfInBounds_toArray, List.set_cons_zero, List.set_cons_succ]))
  (refine take_at 10 (some 93) rfl rfl (by kernel_rfl) (by kernel_rfl) (by kernel_rfl) (fun _ _ _ h => h) (v := ?_) (by kernel_rfl) ?_ (by assumption) ?_; rotate_left; (focus (intro wS hSw; have d30 := (hSw.cell (p := ⟨g3, 0, none⟩) l3 id).trans D30.out; have d31 := (hSw.cell (p := ⟨g3, 1, none⟩) l3 id).trans D31.out; go_simp; try with_reducible rfl)); (try simp only [Act.put, List.setIfInBounds_toArray, List.set_cons_zero, List.set_cons_succ]))
  (refine take_at 11 (some 94) rfl rfl (by kernel_rfl) (by kernel_rfl) (by kernel_rfl) (fun _ _ _ h => h) (v := ?_) (by kernel_rfl) ?_ (by assumption) ?_; rotate_left; (focus (intro wS hSw; have d40 := (hSw.cell (p := ⟨g4, 0, none⟩) l4 id).trans D40.out; have d41 := (hSw.cell (p := ⟨g4, 1, none⟩) l4 id).trans D41.out; go_simp; try with_reducible rfl)); (try simp only [Act.put, List.setIfInBounds_toArray, List.set_cons_zero, List.set_cons_succ]))
  (refine take_at 12 (some 95) rfl rfl (by kernel_rfl) (by kernel_rfl) (by kernel_rfl) (fun _ _ _ h => h) (v := ?_) (by kernel_rfl) ?_ (by assumption) ?_; rotate_left; (focus (intro wS hSw; skip; go_simp; try with_reducible rfl)); (try simp only [Act.put, List.setIfInBounds_toArray, List.set_cons_zero, List.set_cons_succ]))
  (refine take_at 13 (some 96) rfl rfl (by kernel_rfl) (by kernel_rfl) (by kernel_rfl) (fun _ _ _ h => h) (v := ?_) (by kernel_rfl) ?_ (by assumption) ?_; rotate_left; (focus (intro wS hSw; skip; go_simp; try with_reducible rfl)); (try simp only [Act.put, List.setIfInBounds_toArray, List.set_cons_zero, List.set_cons_succ]))
  (refine take_at 14 (some 97) rfl rfl (by kernel_rfl) (by kernel_rfl) (by kernel_rfl) (fun _ _ _ h => h) (v := ?_) (by kernel_rfl) ?_ (by assumption) ?_; rotate_left; (focus (intro wS hSw; skip; go_simp; try with_reducible rfl)); (try simp only [Act.put, List.setIfInBounds_toArray, List.set_cons_zero, List.set_cons_succ]))
  (refine take_at 15 (some 98) rfl rfl (by kernel_rfl) (by kernel_rfl) (by kernel_rfl) (fun _ _ _ h => h) (v := ?_) (by kernel_rfl) ?_ (by assumption) ?_; rotate_left; (focus (intro wS hSw; skip; go_simp; try with_reducible rfl)); (try simp only [Act.put, List.setIfInBounds_toArray, List.set_cons_zero, List.set_cons_succ]))
  (refine take_at 16 (some 99) rfl rfl (by kernel_rfl) (by kernel_rfl) (by kernel_rfl) (fun _ _ _ h => h) (v := ?_) (by kernel_rfl) ?_ (by assumption) ?_; rotate_left; (focus (intro wS hSw; skip; go_simp; try with_reducible rfl)); (try simp only [Act.put, List.setIfInBounds_toArray, List.set_cons_zero, List.set_cons_succ]))
  (refine take_at 17 (some 100) rfl rfl (by kernel_rfl) (by kernel_rfl) (by kernel_rfl) (fun _ _ _ h => h) (v := ?_) (by kernel_rfl) ?_ (by assumption) ?_; rotate_left; (focus (intro wS hSw; skip; go_simp; try with_reducible rfl)); (try simp only [Act.put, List.setIfInBounds_toArray, List.set_cons_zero, List.set_cons_succ]))
  (refine take_at 18 (some 101) rfl rfl (by kernel_rfl) (by kernel_rfl) (by kernel_rfl) (fun _ _ _ h => h) (v := ?_) (by kernel_rfl) ?_ (by assumption) ?_; rotate_left; (focus (intro wS hSw; skip; go_simp; try with_reducible rfl)); (try simp only [Act.put, List.setIfInBounds_toArray, List.set_cons_zero, List.set_cons_succ]))
  (refine take_at 19 (some 102) rfl rfl (by kernel_rfl) (by kernel_rfl) (by kernel_rfl) (fun _ _ _ h => h) (v := ?_) (by kernel_rfl) ?_ (by assumption) ?_; rotate_left; (focus (intro wS hSw; skip; go_simp; try with_reducible rfl)); (try simp only [Act.put, List.setIfInBounds_toArray, List.set_cons_zero, List.set_cons_succ]))
  (refine take_at 20 (some 103) rfl rfl (by kernel_rfl) (by kernel_rfl) (by kernel_rfl) (fun _ _ _ h => h) (v := ?_) (by kernel_rfl) ?_ (by assumption) ?_; rotate_left; (focus (intro wS hSw; skip; go_simp; try with_reducible rfl)); (try simp only [Act.put, List.setIfInBounds_toArray, List.set_cons_zero, List.set_cons_succ]))
  (refine take_at 21 (some 104) rfl rfl (by kernel_rfl) (by kernel_rfl) (by kernel_rfl) (fun _ _ _ h => h) (v := ?_) (by kernel_rfl) ?_ (by assumption) ?_; rotate_left; (focus (intro wS hSw; skip; go_simp; try with_reducible rfl)); (try simp only [Act.put, List.setIfInBounds_toArray, List.set_cons_zero, List.set_cons_succ]))
  (refine take_at 22 (some 105) rfl rfl (by kernel_rfl) (by kernel_rfl) (by kernel_rfl) (fun _ _ _ h => h) (v := ?_) (by kernel_rfl) ?_ (by assumption) ?_; rotate_left; (focus (intro wS hSw; skip; go_simp; try with_reducible rfl)); (try simp only [Act.put, List.setIfInBounds_toArray, List.set_cons_zero, List.set_cons_succ]))
  (refine take_at 23 (some 106) rfl rfl (by kernel_rfl) (by kernel_rfl) (by kernel_rfl) (fun _ _ _ h => h) (v := ?_) (by kernel_rfl) ?_ (by assumption) ?_; rotate_left; (focus (intro wS hSw; skip; go_simp; try with_reducible rfl)); (try simp only [Act.put, List.setIfInBounds_toArray, List.set_cons_zero, List.set_cons_succ]))
  (refine drop_at 24 (some 107) rfl rfl (by kernel_rfl) (by kernel_rfl) (by kernel_rfl) (fun _ _ _ h => h) (by kernel_rfl) (by assumption) ?_; (try simp only [Act.put, List.setIfInBounds_toArray, List.set_cons_zero, List.set_cons_succ]))
  (refine take_at 25 (some 108) rfl rfl (by kernel_rfl) (by kernel_rfl) (by kernel_rfl) (fun _ _ _ h => h) (v := ?_) (by kernel_rfl) ?_ (by assumption) ?_; rotate_left; (focus (intro wS hSw; skip; go_simp; try with_reducible rfl)); (try simp only [Act.put, List.setIfInBounds_toArray, List.set_cons_zero, List.set_cons_succ]))
  (refine take_at 26 (some 109) rfl rfl (by kernel_rfl) (by kernel_rfl) (by kernel_rfl) (fun _ _ _ h => h) (v := ?_) (by kernel_rfl) ?_ (by assumption) ?_; rotate_left; (focus (intro wS hSw; skip; go_simp; try with_reducible rfl)); (try simp only [Act.put, List.setIfInBounds_toArray, List.set_cons_zero, List.set_cons_succ]))
  (refine take_at 27 (some 110) rfl rfl (by kernel_rfl) (by kernel_rfl) (by kernel_rfl) (fun _ _ _ h => h) (v := ?_) (by kernel_rfl) ?_ (by assumption) ?_; rotate_left; (focus (intro wS hSw; skip; go_simp; try with_reducible rfl)); (try simp only [Act.put, List.setIfInBounds_toArray, List.set_cons_zero, List.set_cons_succ]))
  (refine take_at 28 (some 111) rfl rfl (by kernel_rfl) (by kernel_rfl) (by kernel_rfl) (fun _ _ _ h => h) (v := ?_) (by kernel_rfl) ?_ (by assumption) ?_; rotate_left; (focus (intro wS hSw; skip; go_simp; try with_reducible rfl)); (try simp only [Act.put, List.setIfInBounds_toArray, List.set_cons_zero, List.set_cons_succ]))
  refine wpAnyH_ready (rs := [29]) (by kernel_rfl) (by simp) ?_
  refine AllReadyH.cons rfl (fun K hK => ?_) AllReadyH.nil
  go_simp
  go_at_call 8
  refine (named_ok _ (Ht.out.low (Hu2.out.trans hHeld (fun _ _ h => h)))).mono ?_
  rintro e t3 ⟨rfl, hp⟩
  have hn3 : NoW u2 t3 := Fp.trans hHeld hp (fun _ _ h => h)
  skip
  clear hp hHeld hn2
  refine hK.out _ _ hn3 (fun hHeld => ?_)
  clear hK K
  try simp only [Act.put, List.setIfInBounds_toArray, List.set_cons_zero, List.set_cons_succ]
  (refine take_at 30 (some 113) rfl rfl (by kernel_rfl) (by kernel_rfl) (by kernel_rfl) (fun _ _ _ h => h) (v := ?_) (by kernel_rfl) ?_ (by assumption) ?_; rotate_left; (focus (intro wS hSw; skip; go_simp; try with_reducible rfl)); (try simp only [Act.put, List.setIfInBounds_toArray, List.set_cons_zero, List.set_cons_succ]))
  (refine take_at 31 (some 6) rfl rfl (by kernel_rfl) (by kernel_rfl) (by kernel_rfl) (fun _ _ _ h => h) (v := ?_) (by kernel_rfl) ?_ (by assumption) ?_; rotate_left; (focus (intro wS hSw; skip; go_simp; try with_reducible rfl)); (try simp only [Act.put, List.setIfInBounds_toArray, List.set_cons_zero, List.set_cons_succ]))
  refine wpAnyH_done (by kernel_rfl) ?_ _
  go_wp2_with fail
  go_ret
  exact ⟨rfl, Hu2.out.trans hn3 (fun _ _ h => h)⟩

set_option maxHeartbeats 4000000 in
set_option maxRecDepth 100000 in
theorem back_l1 (w : World) (ht : Tb w) (a p b q : Int) (ip n k : Int) (x1 x2 x3 x4 : List UInt8) (hab : (a == b) = false) (hx : (x1 == x4) = false)
    (k0 : ∀ W, Calls Tryd.prog 15 #[.int .u32 a, .int .u8 k] W (Ret1 (.agg #[.int .u32 ip, .int .i64 n]) W))
    (k1 : ∀ W, Tb W → Calls Tryd.prog 19 #[.agg #[.int .u32 a, .int .u16 p]] W (Ret1 (str x1) W))
    (k2 : ∀ W, Tb W → Calls Tryd.prog 13 #[str x1] W (Ret1 (.tuple #[.agg #[.int .u32 a, .int .u16 p], .int .i64 0]) W))
    (k3 : ∀ W, Tb W → Calls Tryd.prog 17 #[.int .u32 a] W (Ret1 (str x2) W))
    (k4 : ∀ W, Tb W → Calls Tryd.prog 9 #[str x2] W (Ret1 (.tuple #[.int .u32 a, .int .i64 0]) W))
    (k5 : ∀ W, Tb W → Calls Tryd.prog 18 #[.agg #[.int .u32 ip, .int .i64 n]] W (Ret1 (str x3) W))
    (k6 : ∀ W, Tb W → Calls Tryd.prog 11 #[str x3] W (Ret1 (.tuple #[.agg #[.int .u32 ip, .int .i64 n], .int .i64 0]) W))
    (k7 : ∀ W, Calls Tryd.prog 23 #[.agg #[.int .u32 ip, .int .i64 n]] W (Ret1 (.bool true) W))
    (k8 : ∀ W, Calls Tryd.prog 16 #[.agg #[.int .u32 ip, .int .i64 n], .int .u32 a] W (Ret1 (.bool true) W))
    (k9 : ∀ W, Calls Tryd.prog 26 #[.agg #[.int .u32 a, .int .u16 p], .agg #[.int .u32 b, .int .u16 q]] W (Ret1 (.bool true) W))
    (k10 : ∀ W, Calls Tryd.prog 26 #[.agg #[.int .u32 b, .int .u16 q], .agg #[.int .u32 a, .int .u16 p]] W (Ret1 (.bool false) W))
    (k11 : ∀ W, Tb W → Calls Tryd.prog 19 #[.agg #[.int .u32 b, .int .u16 q]] W (Ret1 (str x4) W)) :
    Calls Tryd.prog 7 #[.agg #[.int .u32 a, .int .u16 p], .agg #[.int .u32 b, .int .u16 q], .int .u8 k] w (Ret1 (.bool true) w) := by
  have Ht := Lib.hid ht
  have K0 := Lib.hid k0
  have K1 := Lib.hid k1
  have K2 := Lib.hid k2
  have K3 := Lib.hid k3
  have K4 := Lib.hid k4
  have K5 := Lib.hid k5
  have K6 := Lib.hid k6
  have K7 := Lib.hid k7
  have K8 := Lib.hid k8
  have K9 := Lib.hid k9
  have K10 := Lib.hid k10
  have K11 := Lib.hid k11
  clear ht k0 k1 k2 k3 k4 k5 k6 k7 k8 k9 k10 k11
  go_enter Tryd.func7, Tryd.ntmps7
  go_wp2_with fail
  have hw0 : NoW w ((w.alloc (.cells #[.int .u32 a, .int .u16 p] 34)).alloc (.cells #[.int .u32 b, .int .u16 q] 34)) := ((Fp.refl _ _).alloc _).alloc _
  obtain ⟨hb3, hb4⟩ := box2 w (.cells #[.int .u32 a, .int .u16 p] 34) (.cells #[.int .u32 b, .int .u16 q] 34)
  generalize ((w.alloc (.cells #[.int .u32 a, .int .u16 p] 34)).alloc (.cells #[.int .u32 b, .int .u16 q] 34)) = w0 at *
  have B3 := Lib.hid hb3
  have B4 := Lib.hid hb4
  have hg34 : w.heap.size < w.heap.size + 1 := by omega
  clear hb3 hb4
  generalize w.heap.size + 1 = g4 at *
  generalize w.heap.size = g3 at *
  have Hn0 := Lib.hid hw0
  clear hw0
  refine (K0.out _).mono ?_
  rintro e v0 ⟨rfl, hp⟩
  have Hm0 := Lib.hid (Hn0.out.trans hp (fun _ _ h => h))
  have hb := (hp.block _ (Array.getElem?_eq_some_iff.1 B3.out).1 id).trans B3.out
  clear B3
  have B3 := Lib.hid hb
  clear hb
  have hb := (hp.block _ (Array.getElem?_eq_some_iff.1 B4.out).1 id).trans B4.out
  clear B4
  have B4 := Lib.hid hb
  clear hb
  clear hp Hn0
  have cB30 : v0.cell? ⟨g3, 0, none⟩ = some (.int .u32 a) := by simp [World.cell?, B3.out]
  have cB31 : v0.cell? ⟨g3, 1, none⟩ = some (.int .u16 p) := by simp [World.cell?, B3.out]
  have lB3 : g3 < v0.heap.size := cell_lt cB30
  go_wp2_with fail
  clear cB30 cB31 lB3
  have hq : NoW v0 (v0.alloc (.cells #[.int .u32 ip, .int .i64 n] 29)) := (Fp.refl _ _).alloc _
  have Hq1 := Lib.hid (Hm0.out.trans hq (fun _ _ h => h))
  have hb := (hq.block _ (Array.getElem?_eq_some_iff.1 B3.out).1 id).trans B3.out
  clear B3
  have B3 := Lib.hid hb
  clear hb
  have hb := (hq.block _ (Array.getElem?_eq_some_iff.1 B4.out).1 id).trans B4.out
  clear B4
  have B4 := Lib.hid hb
  clear hb
  have B7 := Lib.hid (heap_alloc_new v0 (.cells #[.int .u32 ip, .int .i64 n] 29))
  clear hq Hm0
  refine (K1.out _ (Ht.out.low Hq1.out)).mono ?_
  rintro e v1 ⟨rfl, hp⟩
  have Hm1 := Lib.hid (Hq1.out.trans hp (fun _ _ h => h))
  have hb := (hp.block _ (Array.getElem?_eq_some_iff.1 B3.out).1 id).trans B3.out
  clear B3
  have B3 := Lib.hid hb
  clear hb
  have hb := (hp.block _ (Array.getElem?_eq_some_iff.1 B4.out).1 id).trans B4.out
  clear B4
  have B4 := Lib.hid hb
  clear hb
  have hb := (hp.block _ (Array.getElem?_eq_some_iff.1 B7.out).1 id).trans B7.out
  clear B7
  have B7 := Lib.hid hb
  clear hb
  clear hp Hq1
  go_wp2_with fail
  refine (K2.out _ (Ht.out.low Hm1.out)).mono ?_
  rintro e v2 ⟨rfl, hp⟩
  have Hm2 := Lib.hid (Hm1.out.trans hp (fun _ _ h => h))
  have hb := (hp.block _ (Array.getElem?_eq_some_iff.1 B3.out).1 id).trans B3.out
  clear B3
  have B3 := Lib.hid hb
  clear hb
  have hb := (hp.block _ (Array.getElem?_eq_some_iff.1 B4.out).1 id).trans B4.out
  clear B4
  have B4 := Lib.hid hb
  clear hb
  have hb := (hp.block _ (Array.getElem?_eq_some_iff.1 B7.out).1 id).trans B7.out
  clear B7
  have B7 := Lib.hid hb
  clear hb
  clear hp Hm1
  have cB30 : v2.cell? ⟨g3, 0, none⟩ = some (.int .u32 a) := by simp [World.cell?, B3.out]
  have cB31 : v2.cell? ⟨g3, 1, none⟩ = some (.int .u16 p) := by simp [World.cell?, B3.out]
  have lB3 : g3 < v2.heap.size := cell_lt cB30
  go_wp2_with fail
  clear cB30 cB31 lB3
  have hq : NoW v2 (v2.alloc (.cells #[.int .u32 a, .int .u16 p] 34)) := (Fp.refl _ _).alloc _
  have Hq3 := Lib.hid (Hm2.out.trans hq (fun _ _ h => h))
  have hb := (hq.block _ (Array.getElem?_eq_some_iff.1 B3.out).1 id).trans B3.out
  clear B3
  have B3 := Lib.hid hb
  clear hb
  have hb := (hq.block _ (Array.getElem?_eq_some_iff.1 B4.out).1 id).trans B4.out
  clear B4
  have B4 := Lib.hid hb
  clear hb
  have hb := (hq.block _ (Array.getElem?_eq_some_iff.1 B7.out).1 id).trans B7.out
  clear B7
  have B7 := Lib.hid hb
  clear hb
  have B8 := Lib.hid (heap_alloc_new v2 (.cells #[.int .u32 a, .int .u16 p] 34))
  clear hq Hm2
  refine (K3.out _ (Ht.out.low Hq3.out)).mono ?_
  rintro e v3 ⟨rfl, hp⟩
  have Hm3 := Lib.hid (Hq3.out.trans hp (fun _ _ h => h))
  have hb := (hp.block _ (Array.getElem?_eq_some_iff.1 B3.out).1 id).trans B3.out
  clear B3
  have B3 := Lib.hid hb
  clear hb
  have hb := (hp.block _ (Array.getElem?_eq_some_iff.1 B4.out).1 id).trans B4.out
  clear B4
  have B4 := Lib.hid hb
  clear hb
  have hb := (hp.block _ (Array.getElem?_eq_some_iff.1 B7.out).1 id).trans B7.out
  clear B7
  have B7 := Lib.hid hb
  clear hb
  have hb := (hp.block _ (Array.getElem?_eq_some_iff.1 B8.out).1 id).trans B8.out
  clear B8
  have B8 := Lib.hid hb
  clear hb
  clear hp Hq3
  go_wp2_with fail
  refine (K4.out _ (Ht.out.low Hm3.out)).mono ?_
  rintro e v4 ⟨rfl, hp⟩
  have Hm4 := Lib.hid (Hm3.out.trans hp (fun _ _ h => h))
  have hb := (hp.block _ (Array.getElem?_eq_some_iff.1 B3.out).1 id).trans B3.out
  clear B3
  have B3 := Lib.hid hb
  clear hb
  have hb := (hp.block _ (Array.getElem?_eq_some_iff.1 B4.out).1 id).trans B4.out
  clear B4
  have B4 := Lib.hid hb
  clear hb
  have hb := (hp.block _ (Array.getElem?_eq_some_iff.1 B7.out).1 id).trans B7.out
  clear B7
  have B7 := Lib.hid hb
  clear hb
  have hb := (hp.block _ (Array.getElem?_eq_some_iff.1 B8.out).1 id).trans B8.out
  clear B8
  have B8 := Lib.hid hb
  clear hb
  clear hp Hm3
  have cB70 : v4.cell? ⟨v0.heap.size, 0, none⟩ = some (.int .u32 ip) := by simp [World.cell?, B7.out]
  have cB71 : v4.cell? ⟨v0.heap.size, 1, none⟩ = some (.int .i64 n) := by simp [World.cell?, B7.out]
  have lB7 : v0.heap.size < v4.heap.size := cell_lt cB70
  go_wp2_with fail
  clear cB70 cB71 lB7
  refine (K5.out _ (Ht.out.low Hm4.out)).mono ?_
  rintro e v5 ⟨rfl, hp⟩
  have Hm5 := Lib.hid (Hm4.out.trans hp (fun _ _ h => h))
  have hb := (hp.block _ (Array.getElem?_eq_some_iff.1 B3.out).1 id).trans B3.out
  clear B3
  have B3 := Lib.hid hb
  clear hb
  have hb := (hp.block _ (Array.getElem?_eq_some_iff.1 B4.out).1 id).trans B4.out
  clear B4
  have B4 := Lib.hid hb
  clear hb
  have hb := (hp.block _ (Array.getElem?_eq_some_iff.1 B7.out).1 id).trans B7.out
  clear B7
  have B7 := Lib.hid hb
  clear hb
  have hb := (hp.block _ (Array.getElem?_eq_some_iff.1 B8.out).1 id).trans B8.out
  clear B8
  have B8 := Lib.hid hb
  clear hb
  clear hp Hm4
  go_wp2_with fail
  refine (K6.out _ (Ht.out.low Hm5.out)).mono ?_
  rintro e v6 ⟨rfl, hp⟩
  have Hm6 := Lib.hid (Hm5.out.trans hp (fun _ _ h => h))
  have hb := (hp.block _ (Array.getElem?_eq_some_iff.1 B3.out).1 id).trans B3.out
  clear B3
  have B3 := Lib.hid hb
  clear hb
  have hb := (hp.block _ (Array.getElem?_eq_some_iff.1 B4.out).1 id).trans B4.out
  clear B4
  have B4 := Lib.hid hb
  clear hb
  have hb := (hp.block _ (Array.getElem?_eq_some_iff.1 B7.out).1 id).trans B7.out
  clear B7
  have B7 := Lib.hid hb
  clear hb
  have hb := (hp.block _ (Array.getElem?_eq_some_iff.1 B8.out).1 id).trans B8.out
  clear B8
  have B8 := Lib.hid hb
  clear hb
  clear hp Hm5
  have cB80 : v6.cell? ⟨v2.heap.size, 0, none⟩ = some (.int .u32 a) := by simp [World.cell?, B8.out]
  have cB81 : v6.cell? ⟨v2.heap.size, 1, none⟩ = some (.int .u16 p) := by simp [World.cell?, B8.out]
  have lB8 : v2.heap.size < v6.heap.size := cell_lt cB80
  have cB30 : v6.cell? ⟨g3, 0, none⟩ = some (.int .u32 a) := by simp [World.cell?, B3.out]
  have cB31 : v6.cell? ⟨g3, 1, none⟩ = some (.int .u16 p) := by simp [World.cell?, B3.out]
  have lB3 : g3 < v6.heap.size := cell_lt cB30
  have cB70 : v6.cell? ⟨v0.heap.size, 0, none⟩ = some (.int .u32 ip) := by simp [World.cell?, B7.out]
  have cB71 : v6.cell? ⟨v0.heap.size, 1, none⟩ = some (.int .i64 n) := by simp [World.cell?, B7.out]
  have lB7 : v0.heap.size < v6.heap.size := cell_lt cB70
  go_wp2_with fail
  clear cB80 cB81 lB8 cB30 cB31 lB3 cB70 cB71 lB7
  have hq : NoW v6 (v6.alloc (.cells #[.int .u32 ip, .int .i64 n] 29)) := (Fp.refl _ _).alloc _
  have Hq7 := Lib.hid (Hm6.out.trans hq (fun _ _ h => h))
  have hb := (hq.block _ (Array.getElem?_eq_some_iff.1 B3.out).1 id).trans B3.out
  clear B3
  have B3 := Lib.hid hb
  clear hb
  have hb := (hq.block _ (Array.getElem?_eq_some_iff.1 B4.out).1 id).trans B4.out
  clear B4
  have B4 := Lib.hid hb
  clear hb
  have hb := (hq.block _ (Array.getElem?_eq_some_iff.1 B7.out).1 id).trans B7.out
  clear B7
  have B7 := Lib.hid hb
  clear hb
  have hb := (hq.block _ (Array.getElem?_eq_some_iff.1 B8.out).1 id).trans B8.out
  clear B8
  have B8 := Lib.hid hb
  clear hb
  have B12 := Lib.hid (heap_alloc_new v6 (.cells #[.int .u32 ip, .int .i64 n] 29))
  clear hq Hm6
  refine (K7.out _).mono ?_
  rintro e v7 ⟨rfl, hp⟩
  have Hm7 := Lib.hid (Hq7.out.trans hp (fun _ _ h => h))
  have hb := (hp.block _ (Array.getElem?_eq_some_iff.1 B3.out).1 id).trans B3.out
  clear B3
  have B3 := Lib.hid hb
  clear hb
  have hb := (hp.block _ (Array.getElem?_eq_some_iff.1 B4.out).1 id).trans B4.out
  clear B4
  have B4 := Lib.hid hb
  clear hb
  have hb := (hp.block _ (Array.getElem?_eq_some_iff.1 B7.out).1 id).trans B7.out
  clear B7
  have B7 := Lib.hid hb
  clear hb
  have hb := (hp.block _ (Array.getElem?_eq_some_iff.1 B8.out).1 id).trans B8.out
  clear B8
  have B8 := Lib.hid hb
  clear hb
  have hb := (hp.block _ (Array.getElem?_eq_some_iff.1 B12.out).1 id).trans B12.out
  clear B12
  have B12 := Lib.hid hb
  clear hb
  clear hp Hq7
  have cB70 : v7.cell? ⟨v0.heap.size, 0, none⟩ = some (.int .u32 ip) := by simp [World.cell?, B7.out]
  have cB71 : v7.cell? ⟨v0.heap.size, 1, none⟩ = some (.int .i64 n) := by simp [World.cell?, B7.out]
  have lB7 : v0.heap.size < v7.heap.size := cell_lt cB70
  have cB30 : v7.cell? ⟨g3, 0, none⟩ = some (.int .u32 a) := by simp [World.cell?, B3.out]
  have cB31 : v7.cell? ⟨g3, 1, none⟩ = some (.int .u16 p) := by simp [World.cell?, B3.out]
  have lB3 : g3 < v7.heap.size := cell_lt cB30
  go_wp2_with fail
  clear cB70 cB71 lB7 cB30 cB31 lB3
  refine (K8.out _).mono ?_
  rintro e v8 ⟨rfl, hp⟩
  have Hm8 := Lib.hid (Hm7.out.trans hp (fun _ _ h => h))
  have hb := (hp.block _ (Array.getElem?_eq_some_iff.1 B3.out).1 id).trans B3.out
  clear B3
  have B3 := Lib.hid hb
  clear hb
  have hb := (hp.block _ (Array.getElem?_eq_some_iff.1 B4.out).1 id).trans B4.out
  clear B4
  have B4 := Lib.hid hb
  clear hb
  have hb := (hp.block _ (Array.getElem?_eq_some_iff.1 B7.out).1 id).trans B7.out
  clear B7
  have B7 := Lib.hid hb
  clear hb
  have hb := (hp.block _ (Array.getElem?_eq_some_iff.1 B8.out).1 id).trans B8.out
  clear B8
  have B8 := Lib.hid hb
  clear hb
  have hb := (hp.block _ (Array.getElem?_eq_some_iff.1 B12.out).1 id).trans B12.out
  clear B12
  have B12 := Lib.hid hb
  clear hb
  clear hp Hm7
  go_wp2_with fail
  have c : v8.cell? ⟨g3, 0, none⟩ = some (.int .u32 a) := by simp [World.cell?, B3.out]
  have C30 := Lib.hid c
  clear c
  have c : v8.cell? ⟨g3, 1, none⟩ = some (.int .u16 p) := by simp [World.cell?, B3.out]
  have C31 := Lib.hid c
  clear c
  have c : v8.cell? ⟨g4, 0, none⟩ = some (.int .u32 b) := by simp [World.cell?, B4.out]
  have C40 := Lib.hid c
  clear c
  have c : v8.cell? ⟨g4, 1, none⟩ = some (.int .u16 q) := by simp [World.cell?, B4.out]
  have C41 := Lib.hid c
  clear c
  have l3 := cell_lt C30.out
  have l4 := cell_lt C40.out
  clear B3 B4 B7 B8 B12
  have Hw8 := Hm8
  refine wp_region_held_drew (S := fun wx => NoW v8 wx) (by kernel_rfl) (Fp.drew (Fp.refl _ _)) (fun hHeld => ?_)
  (refine take_at 0 (some 77) rfl rfl (by kernel_rfl) (by kernel_rfl) (by kernel_rfl) (fun _ _ _ h => h) (v := ?_) (by kernel_rfl) ?_ (by assumption) ?_; rotate_left; (focus (intro wS hSw; have d30 := (hSw.cell (p := ⟨g3, 0, none⟩) l3 id).trans C30.out; have d31 := (hSw.cell (p := ⟨g3, 1, none⟩) l3 id).trans C31.out; go_simp; try with_reducible rfl)); (try simp only [Act.put, List.setIfInBounds_toArray, List.set_cons_zero, List.set_cons_succ]))
  (refine take_at 1 (some 78) rfl rfl (by kernel_rfl) (by kernel_rfl) (by kernel_rfl) (fun _ _ _ h => h) (v := ?_) (by kernel_rfl) ?_ (by assumption) ?_; rotate_left; (focus (intro wS hSw; have d40 := (hSw.cell (p := ⟨g4, 0, none⟩) l4 id).trans C40.out; have d41 := (hSw.cell (p := ⟨g4, 1, none⟩) l4 id).trans C41.out; go_simp; try with_reducible rfl)); (try simp only [Act.put, List.setIfInBounds_toArray, List.set_cons_zero, List.set_cons_succ]))
  (refine take_at 3 (some 80) rfl rfl (by kernel_rfl) (by kernel_rfl) (by kernel_rfl) (fun _ _ _ h => h) (v := ?_) (by kernel_rfl) ?_ (by assumption) ?_; rotate_left; (focus (intro wS hSw; have d40 := (hSw.cell (p := ⟨g4, 0, none⟩) l4 id).trans C40.out; have d41 := (hSw.cell (p := ⟨g4, 1, none⟩) l4 id).trans C41.out; go_simp; try with_reducible rfl)); (try simp only [Act.put, List.setIfInBounds_toArray, List.set_cons_zero, List.set_cons_succ]))
  (refine take_at 4 (some 81) rfl rfl (by kernel_rfl) (by kernel_rfl) (by kernel_rfl) (fun _ _ _ h => h) (v := ?_) (by kernel_rfl) ?_ (by assumption) ?_; rotate_left; (focus (intro wS hSw; have d30 := (hSw.cell (p := ⟨g3, 0, none⟩) l3 id).trans C30.out; have d31 := (hSw.cell (p := ⟨g3, 1, none⟩) l3 id).trans C31.out; go_simp; try with_reducible rfl)); (try simp only [Act.put, List.setIfInBounds_toArray, List.set_cons_zero, List.set_cons_succ]))
  refine wpAnyH_ready (rs := [2]) (by kernel_rfl) (by simp) ?_
  refine AllReadyH.cons rfl (fun K hK => ?_) AllReadyH.nil
  go_simp
  go_at_call 26
  refine (K9.out _).mono ?_
  rintro e u1 ⟨rfl, hp⟩
  have hn1 : NoW v8 u1 := Fp.trans hHeld hp (fun _ _ h => h)
  skip
  clear hp hHeld
  refine hK.out _ _ hn1 (fun hHeld => ?_)
  clear hK K
  try simp only [Act.put, List.setIfInBounds_toArray, List.set_cons_zero, List.set_cons_succ]
  refine wpAnyH_ready (rs := [5]) (by kernel_rfl) (by simp) ?_
  refine AllReadyH.cons rfl (fun K hK => ?_) AllReadyH.nil
  go_simp
  go_at_call 26
  refine (K10.out _).mono ?_
  rintro e u2 ⟨rfl, hp⟩
  have hn2 : NoW v8 u2 := Fp.trans hHeld hp (fun _ _ h => h)
  skip
  clear hp hHeld hn1
  refine hK.out _ _ hn2 (fun hHeld => ?_)
  clear hK K
  try simp only [Act.put, List.setIfInBounds_toArray, List.set_cons_zero, List.set_cons_succ]
  (refine take_at 6 (some 14) rfl rfl (by kernel_rfl) (by kernel_rfl) (by kernel_rfl) (fun _ _ _ h => h) (v := ?_) (by kernel_rfl) ?_ (by assumption) ?_; rotate_left; (focus (intro wS hSw; skip; go_simp; try with_reducible rfl)); (try simp only [Act.put, List.setIfInBounds_toArray, List.set_cons_zero, List.set_cons_succ]))
  (refine take_at 7 (some 15) rfl rfl (by kernel_rfl) (by kernel_rfl) (by kernel_rfl) (fun _ _ _ h => h) (v := ?_) (by kernel_rfl) ?_ (by assumption) ?_; rotate_left; (focus (intro wS hSw; skip; go_simp; try with_reducible rfl)); (try simp only [Act.put, List.setIfInBounds_toArray, List.set_cons_zero, List.set_cons_succ]))
  refine wpAnyH_done (by kernel_rfl) ?_ _
  go_wp2_with fail
  have D30 := Lib.hid ((hn2.cell (p := ⟨g3, 0, none⟩) l3 id).trans C30.out)
  have D31 := Lib.hid ((hn2.cell (p := ⟨g3, 1, none⟩) l3 id).trans C31.out)
  have D40 := Lib.hid ((hn2.cell (p := ⟨g4, 0, none⟩) l4 id).trans C40.out)
  have D41 := Lib.hid ((hn2.cell (p := ⟨g4, 1, none⟩) l4 id).trans C41.out)
  have Hu2 := Lib.hid (Hw8.out.trans hn2 (fun _ _ h => h))
  clear l3 l4 C30 C31 C40 C41 hn2
  have l3 := cell_lt D30.out
  have l4 := cell_lt D40.out
  refine wp_region_held_drew (S := fun wx => NoW u2 wx) (by kernel_rfl) (Fp.drew (Fp.refl _ _)) (fun hHeld => ?_)
  (refine take_at 0 (some 83) rfl rfl (by kernel_rfl) (by kernel_rfl) (by kernel_rfl) (fun _ _ _ h => h) (v := ?_) (by kernel_rfl) ?_ (by assumption) ?_; rotate_left; (focus (intro wS hSw; have d30 := (hSw.cell (p := ⟨g3, 0, none⟩) l3 id).trans D30.out; have d31 := (hSw.cell (p := ⟨g3, 1, none⟩) l3 id).trans D31.out; go_simp; try with_reducible rfl)); (try simp only [Act.put, List.setIfInBounds_toArray, List.set_cons_zero, List.set_cons_succ]))
  (refine take_at 2 (some 85) rfl rfl (by kernel_rfl) (by kernel_rfl) (by kernel_rfl) (fun _ _ _ h => h) (v := ?_) (by kernel_rfl) ?_ (by assumption) ?_; rotate_left; (focus (intro wS hSw; have d40 := (hSw.cell (p := ⟨g4, 0, none⟩) l4 id).trans D40.out; have d41 := (hSw.cell (p := ⟨g4, 1, none⟩) l4 id).trans D41.out; go_simp; try with_reducible rfl)); (try simp only [Act.put, List.setIfInBounds_toArray, List.set_cons_zero, List.set_cons_succ]))
  (refine take_at 5 (some 88) rfl rfl (by kernel_rfl) (by kernel_rfl) (by kernel_rfl) (fun _ _ _ h => h) (v := ?_) (by kernel_rfl) ?_ (by assumption) ?_; rotate_left; (focus (intro wS hSw; have d30 := (hSw.cell (p := ⟨g3, 0, none⟩) l3 id).trans D30.out; have d31 := (hSw.cell (p := ⟨g3, 1, none⟩) l3 id).trans D31.out; go_simp; try with_reducible rfl)); (try simp only [Act.put, List.setIfInBounds_toArray, List.set_cons_zero, List.set_cons_succ]))
  (refine take_at 6 (some 89) rfl rfl (by kernel_rfl) (by kernel_rfl) (by kernel_rfl) (fun _ _ _ h => h) (v := ?_) (by kernel_rfl) ?_ (by assumption) ?_; rotate_left; (focus (intro wS hSw; have d40 := (hSw.cell (p := ⟨g4, 0, none⟩) l4 id).trans D40.out; have d41 := (hSw.cell (p := ⟨g4, 1, none⟩) l4 id).trans D41.out; go_simp; try with_reducible rfl)); (try simp only [Act.put, List.setIfInBounds_toArray, List.set_cons_zero, List.set_cons_succ]))
  (refine take_at 7 (some 90) rfl rfl (by kernel_rfl) (by kernel_rfl) (by kernel_rfl) (fun _ _ _ h => h) (v := ?_) (by kernel_rfl) ?_ (by assumption) ?_; rotate_left; (focus (intro wS hSw; skip; go_simp; try with_reducible rfl)); (try simp only [Act.put, List.setIfInBounds_toArray, List.set_cons_zero, List.set_cons_succ]))
  refine wpAnyH_ready (rs := [1]) (by kernel_rfl) (by simp) ?_
  refine AllReadyH.cons rfl (fun K hK => ?_) AllReadyH.nil
  go_simp
  go_at_call 19
  refine (K1.out _ (Ht.out.low (Hu2.out.trans hHeld (fun _ _ h => h)))).mono ?_
  rintro e t1 ⟨rfl, hp⟩
  have hn1 : NoW u2 t1 := Fp.trans hHeld hp (fun _ _ h => h)
  skip
  clear hp hHeld
  refine hK.out _ _ hn1 (fun hHeld => ?_)
  clear hK K
  try simp only [Act.put, List.setIfInBounds_toArray, List.set_cons_zero, List.set_cons_succ]
  refine wpAnyH_ready (rs := [3]) (by kernel_rfl) (by simp) ?_
  refine AllReadyH.cons rfl (fun K hK => ?_) AllReadyH.nil
  go_simp
  go_at_call 19
  refine (K11.out _ (Ht.out.low (Hu2.out.trans hHeld (fun _ _ h => h)))).mono ?_
  rintro e t2 ⟨rfl, hp⟩
  have hn2 : NoW u2 t2 := Fp.trans hHeld hp (fun _ _ h => h)
  skip
  clear hp hHeld hn1
  refine hK.out _ _ hn2 (fun hHeld => ?_)
  clear hK K
  try simp only [Act.put, List.setIfInBounds_toArray, List.set_cons_zero, List.set_cons_succ]
  (refine take_at 4 (some 87) rfl rfl (by kernel_rfl) (by kernel_rfl) (by kernel_rfl) (fun _ _ _ h => h) (v := ?_) (by kernel_rfl) ?_ (by assumption) ?_; rotate_left; (focus (intro wS hSw; skip; go_simp; try with_reducible rfl)); (try simp only [Act.put, List.setIfInBounds_toArray, List.set_cons_zero, List.set_cons_succ]))
  (refine take_at 8 (some 91) rfl rfl (by kernel_rfl) (by kernel_rfl) (by kernel_rfl) (fun _ _ _ h => h) (v := ?_) (by kernel_rfl) ?_ (by assumption) ?_; rotate_left; (focus (intro wS hSw; skip; go_simp; try with_reducible rfl)); (try simp only [Act.put, List.setIfInBounds_toArray, List.set_cons_zero, List.set_cons_succ]))
  (refine take_at 9 (some 92) rfl rfl (by kernel_rfl) (by kernel_rfl) (by kernel_rfl) (fun _ _ _ h => h) (v := ?_) (by kernel_rfl) ?_ (by assumption) ?_; rotate_left; (focus (intro wS hSw; skip; go_simp; try with_reducible rfl)); (try simp only [Act.put, List.setIfInBounds_toArray, List.set_cons_zero, List.set_cons_succ]))
  (refine take_at 10 (some 93) rfl rfl (by kernel_rfl) (by kernel_rfl) (by kernel_rfl) (fun _ _ _ h => h) (v := ?_) (by kernel_rfl) ?_ (by assumption) ?_; rotate_left; (focus (intro wS hSw; have d30 := (hSw.cell (p := ⟨g3, 0, none⟩) l3 id).trans D30.out; have d31 := (hSw.cell (p := ⟨g3, 1, none⟩) l3 id).trans D31.out; go_simp; try with_reducible rfl)); (try simp only [Act.put, List.setIfInBounds_toArray, List.set_cons_zero, List.set_cons_succ]))
  (refine take_at 11 (some 94) rfl rfl (by kernel_rfl) (by kernel_rfl) (by kernel_rfl) (fun _ _ _ h => h) (v := ?_) (by kernel_rfl) ?_ (by assumption) ?_; rotate_left; (focus (intro wS hSw; have d40 := (hSw.cell (p := ⟨g4, 0, none⟩) l4 id).trans D40.out; have d41 := (hSw.cell (p := ⟨g4, 1, none⟩) l4 id).trans D41.out; go_simp; try with_reducible rfl)); (try simp only [Act.put, List.setIfInBounds_toArray, List.set_cons_zero, List.set_cons_succ]))
  (refine take_at 12 (some 95) rfl rfl (by kernel_rfl) (by kernel_rfl) (by kernel_rfl) (fun _ _ _ h => h) (v := ?_) (by kernel_rfl) ?_ (by assumption) ?_; rotate_left; (focus (intro wS hSw; skip; go_simp; try with_reducible rfl)); (try simp only [Act.put, List.setIfInBounds_toArray, List.set_cons_zero, List.set_cons_succ]))
  (refine take_at 13 (some 96) rfl rfl (by kernel_rfl) (by kernel_rfl) (by kernel_rfl) (fun _ _ _ h => h) (v := ?_) (by kernel_rfl) ?_ (by assumption) ?_; rotate_left; (focus (intro wS hSw; skip; go_simp; try with_reducible rfl)); (try simp only [Act.put, List.setIfInBounds_toArray, List.set_cons_zero, List.set_cons_succ]))
  (refine take_at 14 (some 97) rfl rfl (by kernel_rfl) (by kernel_rfl) (by kernel_rfl) (fun _ _ _ h => h) (v := ?_) (by kernel_rfl) ?_ (by assumption) ?_; rotate_left; (focus (intro wS hSw; skip; go_simp; try with_reducible rfl)); (try simp only [Act.put, List.setIfInBounds_toArray, List.set_cons_zero, List.set_cons_succ]))
  (refine take_at 15 (some 98) rfl rfl (by kernel_rfl) (by kernel_rfl) (by kernel_rfl) (fun _ _ _ h => h) (v := ?_) (by kernel_rfl) ?_ (by assumption) ?_; rotate_left; (focus (intro wS hSw; skip; go_simp; try with_reducible rfl)); (try simp only [Act.put, List.setIfInBounds_toArray, List.set_cons_zero, List.set_cons_succ]))
  (refine drop_at 16 (some 99) rfl rfl (by kernel_rfl) (by kernel_rfl) (by kernel_rfl) (fun _ _ _ h => h) (by kernel_rfl) (by assumption) ?_; (try simp only [Act.put, List.setIfInBounds_toArray, List.set_cons_zero, List.set_cons_succ]))
  (refine drop_at 17 (some 100) rfl rfl (by kernel_rfl) (by kernel_rfl) (by kernel_rfl) (fun _ _ _ h => h) (by kernel_rfl) (by assumption) ?_; (try simp only [Act.put, List.setIfInBounds_toArray, List.set_cons_zero, List.set_cons_succ]))
  (refine take_at 18 (some 101) rfl rfl (by kernel_rfl) (by kernel_rfl) (by kernel_rfl) (fun _ _ _ h => h) (v := ?_) (by kernel_rfl) ?_ (by assumption) ?_; rotate_left; (focus (intro wS hSw; skip; go_simp; try with_reducible rfl)); (try simp only [Act.put, List.setIfInBounds_toArray, List.set_cons_zero, List.set_cons_succ]))
  (refine take_at 19 (some 102) rfl rfl (by kernel_rfl) (by kernel_rfl) (by kernel_rfl) (fun _ _ _ h => h) (v := ?_) (by kernel_rfl) ?_ (by assumption) ?_; rotate_left; (focus (intro wS hSw; skip; go_simp; try with_reducible rfl)); (try simp only [Act.put, List.setIfInBounds_toArray, List.set_cons_zero, List.set_cons_succ]))
  (refine take_at 20 (some 103) rfl rfl (by kernel_rfl) (by kernel_rfl) (by kernel_rfl) (fun _ _ _ h => h) (v := ?_) (by kernel_rfl) ?_ (by assumption) ?_; rotate_left; (focus (intro wS hSw; skip; go_simp; try with_reducible rfl)); (try simp only [Act.put, List.setIfInBounds_toArray, List.set_cons_zero, List.set_cons_succ]))
  (refine take_at 21 (some 104) rfl rfl (by kernel_rfl) (by kernel_rfl) (by kernel_rfl) (fun _ _ _ h => h) (v := ?_) (by kernel_rfl) ?_ (by assumption) ?_; rotate_left; (focus (intro wS hSw; skip; go_simp; try with_reducible rfl)); (try simp only [Act.put, List.setIfInBounds_toArray, List.set_cons_zero, List.set_cons_succ]))
  (refine take_at 22 (some 105) rfl rfl (by kernel_rfl) (by kernel_rfl) (by kernel_rfl) (fun _ _ _ h => h) (v := ?_) (by kernel_rfl) ?_ (by assumption) ?_; rotate_left; (focus (intro wS hSw; skip; go_simp; try with_reducible rfl)); (try simp only [Act.put, List.setIfInBounds_toArray, List.set_cons_zero, List.set_cons_succ]))
  (refine take_at 23 (some 106) rfl rfl (by kernel_rfl) (by kernel_rfl) (by kernel_rfl) (fun _ _ _ h => h) (v := ?_) (by kernel_rfl) ?_ (by assumption) ?_; rotate_left; (focus (intro wS hSw; skip; go_simp; try with_reducible rfl)); (try simp only [Act.put, List.setIfInBounds_toArray, List.set_cons_zero, List.set_cons_succ]))
  (refine take_at 24 (some 107) rfl rfl (by kernel_rfl) (by kernel_rfl) (by kernel_rfl) (fun _ _ _ h => h) (v := ?_) (by kernel_rfl) ?_ (by assumption) ?_; rotate_left; (focus (intro wS hSw; skip; go_simp; try with_reducible rfl)); (try simp only [Act.put, List.setIfInBounds_toArray, List.set_cons_zero, List.set_cons_succ]))
  (refine take_at 25 (some 108) rfl rfl (by kernel_rfl) (by kernel_rfl) (by kernel_rfl) (fun _ _ _ h => h) (v := ?_) (by kernel_rfl) ?_ (by assumption) ?_; rotate_left; (focus (intro wS hSw; skip; go_simp; try with_reducible rfl)); (try simp only [Act.put, List.setIfInBounds_toArray, List.set_cons_zero, List.set_cons_succ]))
  (refine take_at 26 (some 109) rfl rfl (by kernel_rfl) (by kernel_rfl) (by kernel_rfl) (fun _ _ _ h => h) (v := ?_) (by kernel_rfl) ?_ (by assumption) ?_; rotate_left; (focus (intro wS hSw; skip; go_simp; try with_reducible rfl)); (try simp only [Act.put, List.setIfInBounds_toArray, List.set_cons_zero, List.set_cons_succ]))
  (refine take_at 27 (some 110) rfl rfl (by kernel_rfl) (by kernel_rfl) (by kernel_rfl) (fun _ _ _ h => h) (v := ?_) (by kernel_rfl) ?_ (by assumption) ?_; rotate_left; (focus (intro wS hSw; skip; go_simp; try with_reducible rfl)); (try simp only [Act.put, List.setIfInBounds_toArray, List.set_cons_zero, List.set_cons_succ]))
  (refine take_at 28 (some 111) rfl rfl (by kernel_rfl) (by kernel_rfl) (by kernel_rfl) (fun _ _ _ h => h) (v := ?_) (by kernel_rfl) ?_ (by assumption) ?_; rotate_left; (focus (intro wS hSw; skip; go_simp; try with_reducible rfl)); (try simp only [Act.put, List.setIfInBounds_toArray, List.set_cons_zero, List.set_cons_succ]))
  refine wpAnyH_ready (rs := [29]) (by kernel_rfl) (by simp) ?_
  refine AllReadyH.cons rfl (fun K hK => ?_) AllReadyH.nil
  go_simp
  go_at_call 8
  refine (named_ok _ (Ht.out.low (Hu2.out.trans hHeld (fun _ _ h => h)))).mono ?_
  rintro e t3 ⟨rfl, hp⟩
  have hn3 : NoW u2 t3 := Fp.trans hHeld hp (fun _ _ h => h)
  skip
  clear hp hHeld hn2
  refine hK.out _ _ hn3 (fun hHeld => ?_)
  clear hK K
  try simp only [Act.put, List.setIfInBounds_toArray, List.set_cons_zero, List.set_cons_succ]
  (refine take_at 30 (some 113) rfl rfl (by kernel_rfl) (by kernel_rfl) (by kernel_rfl) (fun _ _ _ h => h) (v := ?_) (by kernel_rfl) ?_ (by assumption) ?_; rotate_left; (focus (intro wS hSw; skip; go_simp; try with_reducible rfl)); (try simp only [Act.put, List.setIfInBounds_toArray, List.set_cons_zero, List.set_cons_succ]))
  (refine take_at 31 (some 6) rfl rfl (by kernel_rfl) (by kernel_rfl) (by kernel_rfl) (fun _ _ _ h => h) (v := ?_) (by kernel_rfl) ?_ (by assumption) ?_; rotate_left; (focus (intro wS hSw; skip; go_simp; try with_reducible rfl)); (try simp only [Act.put, List.setIfInBounds_toArray, List.set_cons_zero, List.set_cons_succ]))
  refine wpAnyH_done (by kernel_rfl) ?_ _
  go_wp2_with fail
  go_ret
  exact ⟨rfl, Hu2.out.trans hn3 (fun _ _ h => h)⟩

set_option maxHeartbeats 4000000 in
set_option maxRecDepth 100000 in
theorem back_l2 (w : World) (ht : Tb w) (a p q : Int) (ip n k : Int) (x1 x2 x3 x4 : List UInt8) (hpq : (p == q) = false) (hx : (x1 == x4) = false)
    (k0 : ∀ W, Calls Tryd.prog 15 #[.int .u32 a, .int .u8 k] W (Ret1 (.agg #[.int .u32 ip, .int .i64 n]) W))
    (k1 : ∀ W, Tb W → Calls Tryd.prog 19 #[.agg #[.int .u32 a, .int .u16 p]] W (Ret1 (str x1) W))
    (k2 : ∀ W, Tb W → Calls Tryd.prog 13 #[str x1] W (Ret1 (.tuple #[.agg #[.int .u32 a, .int .u16 p], .int .i64 0]) W))
    (k3 : ∀ W, Tb W → Calls Tryd.prog 17 #[.int .u32 a] W (Ret1 (str x2) W))
    (k4 : ∀ W, Tb W → Calls Tryd.prog 9 #[str x2] W (Ret1 (.tuple #[.int .u32 a, .int .i64 0]) W))
    (k5 : ∀ W, Tb W → Calls Tryd.prog 18 #[.agg #[.int .u32 ip, .int .i64 n]] W (Ret1 (str x3) W))
    (k6 : ∀ W, Tb W → Calls Tryd.prog 11 #[str x3] W (Ret1 (.tuple #[.agg #[.int .u32 ip, .int .i64 n], .int .i64 0]) W))
    (k7 : ∀ W, Calls Tryd.prog 23 #[.agg #[.int .u32 ip, .int .i64 n]] W (Ret1 (.bool true) W))
    (k8 : ∀ W, Calls Tryd.prog 16 #[.agg #[.int .u32 ip, .int .i64 n], .int .u32 a] W (Ret1 (.bool true) W))
    (k9 : ∀ W, Calls Tryd.prog 26 #[.agg #[.int .u32 a, .int .u16 p], .agg #[.int .u32 a, .int .u16 q]] W (Ret1 (.bool true) W))
    (k10 : ∀ W, Calls Tryd.prog 26 #[.agg #[.int .u32 a, .int .u16 q], .agg #[.int .u32 a, .int .u16 p]] W (Ret1 (.bool false) W))
    (k11 : ∀ W, Tb W → Calls Tryd.prog 19 #[.agg #[.int .u32 a, .int .u16 q]] W (Ret1 (str x4) W)) :
    Calls Tryd.prog 7 #[.agg #[.int .u32 a, .int .u16 p], .agg #[.int .u32 a, .int .u16 q], .int .u8 k] w (Ret1 (.bool true) w) := by
  have Ht := Lib.hid ht
  have K0 := Lib.hid k0
  have K1 := Lib.hid k1
  have K2 := Lib.hid k2
  have K3 := Lib.hid k3
  have K4 := Lib.hid k4
  have K5 := Lib.hid k5
  have K6 := Lib.hid k6
  have K7 := Lib.hid k7
  have K8 := Lib.hid k8
  have K9 := Lib.hid k9
  have K10 := Lib.hid k10
  have K11 := Lib.hid k11
  clear ht k0 k1 k2 k3 k4 k5 k6 k7 k8 k9 k10 k11
  go_enter Tryd.func7, Tryd.ntmps7
  go_wp2_with fail
  have hw0 : NoW w ((w.alloc (.cells #[.int .u32 a, .int .u16 p] 34)).alloc (.cells #[.int .u32 a, .int .u16 q] 34)) := ((Fp.refl _ _).alloc _).alloc _
  obtain ⟨hb3, hb4⟩ := box2 w (.cells #[.int .u32 a, .int .u16 p] 34) (.cells #[.int .u32 a, .int .u16 q] 34)
  generalize ((w.alloc (.cells #[.int .u32 a, .int .u16 p] 34)).alloc (.cells #[.int .u32 a, .int .u16 q] 34)) = w0 at *
  have B3 := Lib.hid hb3
  have B4 := Lib.hid hb4
  have hg34 : w.heap.size < w.heap.size + 1 := by omega
  clear hb3 hb4
  generalize w.heap.size + 1 = g4 at *
  generalize w.heap.size = g3 at *
  have Hn0 := Lib.hid hw0
  clear hw0
  refine (K0.out _).mono ?_
  rintro e v0 ⟨rfl, hp⟩
  have Hm0 := Lib.hid (Hn0.out.trans hp (fun _ _ h => h))
  have hb := (hp.block _ (Array.getElem?_eq_some_iff.1 B3.out).1 id).trans B3.out
  clear B3
  have B3 := Lib.hid hb
  clear hb
  have hb := (hp.block _ (Array.getElem?_eq_some_iff.1 B4.out).1 id).trans B4.out
  clear B4
  have B4 := Lib.hid hb
  clear hb
  clear hp Hn0
  have cB30 : v0.cell? ⟨g3, 0, none⟩ = some (.int .u32 a) := by simp [World.cell?, B3.out]
  have cB31 : v0.cell? ⟨g3, 1, none⟩ = some (.int .u16 p) := by simp [World.cell?, B3.out]
  have lB3 : g3 < v0.heap.size := cell_lt cB30
  go_wp2_with fail
  clear cB30 cB31 lB3
  have hq : NoW v0 (v0.alloc (.cells #[.int .u32 ip, .int .i64 n] 29)) := (Fp.refl _ _).alloc _
  have Hq1 := Lib.hid (Hm0.out.trans hq (fun _ _ h => h))
  have hb := (hq.block _ (Array.getElem?_eq_some_iff.1 B3.out).1 id).trans B3.out
  clear B3
  have B3 := Lib.hid hb
  clear hb
  have hb := (hq.block _ (Array.getElem?_eq_some_iff.1 B4.out).1 id).trans B4.out
  clear B4
  have B4 := Lib.hid hb
  clear hb
  have B7 := Lib.hid (heap_alloc_new v0 (.cells #[.int .u32 ip, .int .i64 n] 29))
  clear hq Hm0
  refine (K1.out _ (Ht.out.low Hq1.out)).mono ?_
  rintro e v1 ⟨rfl, hp⟩
  have Hm1 := Lib.hid (Hq1.out.trans hp (fun _ _ h => h))
  have hb := (hp.block _ (Array.getElem?_eq_some_iff.1 B3.out).1 id).trans B3.out
  clear B3
  have B3 := Lib.hid hb
  clear hb
  have hb := (hp.block _ (Array.getElem?_eq_some_iff.1 B4.out).1 id).trans B4.out
  clear B4
  have B4 := Lib.hid hb
  clear hb
  have hb := (hp.block _ (Array.getElem?_eq_some_iff.1 B7.out).1 id).trans B7.out
  clear B7
  have B7 := Lib.hid hb
  clear hb
  clear hp Hq1
  go_wp2_with fail
  refine (K2.out _ (Ht.out.low Hm1.out)).mono ?_
  rintro e v2 ⟨rfl, hp⟩
  have Hm2 := Lib.hid (Hm1.out.trans hp (fun _ _ h => h))
  have hb := (hp.block _ (Array.getElem?_eq_some_iff.1 B3.out).1 id).trans B3.out
  clear B3
  have B3 := Lib.hid hb
  clear hb
  have hb := (hp.block _ (Array.getElem?_eq_some_iff.1 B4.out).1 id).trans B4.out
  clear B4
  have B4 := Lib.hid hb
  clear hb
  have hb := (hp.block _ (Array.getElem?_eq_some_iff.1 B7.out).1 id).trans B7.out
  clear B7
  have B7 := Lib.hid hb
  clear hb
  clear hp Hm1
  have cB30 : v2.cell? ⟨g3, 0, none⟩ = some (.int .u32 a) := by simp [World.cell?, B3.out]
  have cB31 : v2.cell? ⟨g3, 1, none⟩ = some (.int .u16 p) := by simp [World.cell?, B3.out]
  have lB3 : g3 < v2.heap.size := cell_lt cB30
  go_wp2_with fail
  clear cB30 cB31 lB3
  have hq : NoW v2 (v2.alloc (.cells #[.int .u32 a, .int .u16 p] 34)) := (Fp.refl _ _).alloc _
  have Hq3 := Lib.hid (Hm2.out.trans hq (fun _ _ h => h))
  have hb := (hq.block _ (Array.getElem?_eq_some_iff.1 B3.out).1 id).trans B3.out
  clear B3
  have B3 := Lib.hid hb
  clear hb
  have hb := (hq.block _ (Array.getElem?_eq_some_iff.1 B4.out).1 id).trans B4.out
  clear B4
  have B4 := Lib.hid hb
  clear hb
  have hb := (hq.block _ (Array.getElem?_eq_some_iff.1 B7.out).1 id).trans B7.out
  clear B7
  have B7 := Lib.hid hb
  clear hb
  have B8 := Lib.hid (heap_alloc_new v2 (.cells #[.int .u32 a, .int .u16 p] 34))
  clear hq Hm2
  refine (K3.out _ (Ht.out.low Hq3.out)).mono ?_
  rintro e v3 ⟨rfl, hp⟩
  have Hm3 := Lib.hid (Hq3.out.trans hp (fun _ _ h => h))
  have hb := (hp.block _ (Array.getElem?_eq_some_iff.1 B3.out).1 id).trans B3.out
  clear B3
  have B3 := Lib.hid hb
  clear hb
  have hb := (hp.block _ (Array.getElem?_eq_some_iff.1 B4.out).1 id).trans B4.out
  clear B4
  have B4 := Lib.hid hb
  clear hb
  have hb := (hp.block _ (Array.getElem?_eq_some_iff.1 B7.out).1 id).trans B7.out
  clear B7
  have B7 := Lib.hid hb
  clear hb
  have hb := (hp.block _ (Array.getElem?_eq_some_iff.1 B8.out).1 id).trans B8.out
  clear B8
  have B8 := Lib.hid hb
  clear hb
  clear hp Hq3
  go_wp2_with fail
  refine (K4.out _ (Ht.out.low Hm3.out)).mono ?_
  rintro e v4 ⟨rfl, hp⟩
  have Hm4 := Lib.hid (Hm3.out.trans hp (fun _ _ h => h))
  have hb := (hp.block _ (Array.getElem?_eq_some_iff.1 B3.out).1 id).trans B3.out
  clear B3
  have B3 := Lib.hid hb
  clear hb
  have hb := (hp.block _ (Array.getElem?_eq_some_iff.1 B4.out).1 id).trans B4.out
  clear B4
  have B4 := Lib.hid hb
  clear hb
  have hb := (hp.block _ (Array.getElem?_eq_some_iff.1 B7.out).1 id).trans B7.out
  clear B7
  have B7 := Lib.hid hb
  clear hb
  have hb := (hp.block _ (Array.getElem?_eq_some_iff.1 B8.out).1 id).trans B8.out
  clear B8
  have B8 := Lib.hid hb
  clear hb
  clear hp Hm3
  have cB70 : v4.cell? ⟨v0.heap.size, 0, none⟩ = some (.int .u32 ip) := by simp [World.cell?, B7.out]
  have cB71 : v4.cell? ⟨v0.heap.size, 1, none⟩ = some (.int .i64 n) := by simp [World.cell?, B7.out]
  have lB7 : v0.heap.size < v4.heap.size := cell_lt cB70
  go_wp2_with fail
  clear cB70 cB71 lB7
  refine (K5.out _ (Ht.out.low Hm4.out)).mono ?_
  rintro e v5 ⟨rfl, hp⟩
  have Hm5 := Lib.hid (Hm4.out.trans hp (fun _ _ h => h))
  have hb := (hp.block _ (Array.getElem?_eq_some_iff.1 B3.out).1 id).trans B3.out
  clear B3
  have B3 := Lib.hid hb
  clear hb
  have hb := (hp.block _ (Array.getElem?_eq_some_iff.1 B4.out).1 id).trans B4.out
  clear B4
  have B4 := Lib.hid hb
  clear hb
  have hb := (hp.block _ (Array.getElem?_eq_some_iff.1 B7.out).1 id).trans B7.out
  clear B7
  have B7 := Lib.hid hb
  clear hb
  have hb := (hp.block _ (Array.getElem?_eq_some_iff.1 B8.out).1 id).trans B8.out
  clear B8
  have B8 := Lib.hid hb
  clear hb
  clear hp Hm4
  go_wp2_with fail
  refine (K6.out _ (Ht.out.low Hm5.out)).mono ?_
  rintro e v6 ⟨rfl, hp⟩
  have Hm6 := Lib.hid (Hm5.out.trans hp (fun _ _ h => h))
  have hb := (hp.block _ (Array.getElem?_eq_some_iff.1 B3.out).1 id).trans B3.out
  clear B3
  have B3 := Lib.hid hb
  clear hb
  have hb := (hp.block _ (Array.getElem?_eq_some_iff.1 B4.out).1 id).trans B4.out
  clear B4
  have B4 := Lib.hid hb
  clear hb
  have hb := (hp.block _ (Array.getElem?_eq_some_iff.1 B7.out).1 id).trans B7.out
  clear B7
  have B7 := Lib.hid hb
  clear hb
  have hb := (hp.block _ (Array.getElem?_eq_some_iff.1 B8.out).1 id).trans B8.out
  clear B8
  have B8 := Lib.hid hb
  clear hb
  clear hp Hm5
  have cB80 : v6.cell? ⟨v2.heap.size, 0, none⟩ = some (.int .u32 a) := by simp [World.cell?, B8.out]
  have cB81 : v6.cell? ⟨v2.heap.size, 1, none⟩ = some (.int .u16 p) := by simp [World.cell?, B8.out]
  have lB8 : v2.heap.size < v6.heap.size := cell_lt cB80
  have cB30 : v6.cell? ⟨g3, 0, none⟩ = some (.int .u32 a) := by simp [World.cell?, B3.out]
  have cB31 : v6.cell? ⟨g3, 1, none⟩ = some (.int .u16 p) := by simp [World.cell?, B3.out]
  have lB3 : g3 < v6.heap.size := cell_lt cB30
  have cB70 : v6.cell? ⟨v0.heap.size, 0, none⟩ = some (.int .u32 ip) := by simp [World.cell?, B7.out]
  have cB71 : v6.cell? ⟨v0.heap.size, 1, none⟩ = some (.int .i64 n) := by simp [World.cell?, B7.out]
  have lB7 : v0.heap.size < v6.heap.size := cell_lt cB70
  go_wp2_with fail
  clear cB80 cB81 lB8 cB30 cB31 lB3 cB70 cB71 lB7
  have hq : NoW v6 (v6.alloc (.cells #[.int .u32 ip, .int .i64 n] 29)) := (Fp.refl _ _).alloc _
  have Hq7 := Lib.hid (Hm6.out.trans hq (fun _ _ h => h))
  have hb := (hq.block _ (Array.getElem?_eq_some_iff.1 B3.out).1 id).trans B3.out
  clear B3
  have B3 := Lib.hid hb
  clear hb
  have hb := (hq.block _ (Array.getElem?_eq_some_iff.1 B4.out).1 id).trans B4.out
  clear B4
  have B4 := Lib.hid hb
  clear hb
  have hb := (hq.block _ (Array.getElem?_eq_some_iff.1 B7.out).1 id).trans B7.out
  clear B7
  have B7 := Lib.hid hb
  clear hb
  have hb := (hq.block _ (Array.getElem?_eq_some_iff.1 B8.out).1 id).trans B8.out
  clear B8
  have B8 := Lib.hid hb
  clear hb
  have B12 := Lib.hid (heap_alloc_new v6 (.cells #[.int .u32 ip, .int .i64 n] 29))
  clear hq Hm6
  refine (K7.out _).mono ?_
  rintro e v7 ⟨rfl, hp⟩
  have Hm7 := Lib.hid (Hq7.out.trans hp (fun _ _ h => h))
  have hb := (hp.block _ (Array.getElem?_eq_some_iff.1 B3.out).1 id).trans B3.out
  clear B3
  have B3 := Lib.hid hb
  clear hb
  have hb := (hp.block _ (Array.getElem?_eq_some_iff.1 B4.out).1 id).trans B4.out
  clear B4
  have B4 := Lib.hid hb
  clear hb
  have hb := (hp.block _ (Array.getElem?_eq_some_iff.1 B7.out).1 id).trans B7.out
  clear B7
  have B7 := Lib.hid hb
  clear hb
  have hb := (hp.block _ (Array.getElem?_eq_some_iff.1 B8.out).1 id).trans B8.out
  clear B8
  have B8 := Lib.hid hb
  clear hb
  have hb := (hp.block _ (Array.getElem?_eq_some_iff.1 B12.out).1 id).trans B12.out
  clear B12
  have B12 := Lib.hid hb
  clear hb
  clear hp Hq7
  have cB70 : v7.cell? ⟨v0.heap.size, 0, none⟩ = some (.int .u32 ip) := by simp [World.cell?, B7.out]
  have cB71 : v7.cell? ⟨v0.heap.size, 1, none⟩ = some (.int .i64 n) := by simp [World.cell?, B7.out]
  have lB7 : v0.heap.size < v7.heap.size := cell_lt cB70
  have cB30 : v7.cell? ⟨g3, 0, none⟩ = some (.int .u32 a) := by simp [World.cell?, B3.out]
  have cB31 : v7.cell? ⟨g3, 1, none⟩ = some (.int .u16 p) := by simp [World.cell?, B3.out]
  have lB3 : g3 < v7.heap.size := cell_lt cB30
  go_wp2_with fail
  clear cB70 cB71 lB7 cB30 cB31 lB3
  refine (K8.out _).mono ?_
  rintro e v8 ⟨rfl, hp⟩
  have Hm8 := Lib.hid (Hm7.out.trans hp (fun _ _ h => h))
  have hb := (hp.block _ (Array.getElem?_eq_some_iff.1 B3.out).1 id).trans B3.out
  clear B3
  have B3 := Lib.hid hb
  clear hb
  have hb := (hp.block _ (Array.getElem?_eq_some_iff.1 B4.out).1 id).trans B4.out
  clear B4
  have B4 := Lib.hid hb
  clear hb
  have hb := (hp.block _ (Array.getElem?_eq_some_iff.1 B7.out).1 id).trans B7.out
  clear B7
  have B7 := Lib.hid hb
  clear hb
  have hb := (hp.block _ (Array.getElem?_eq_some_iff.1 B8.out).1 id).trans B8.out
  clear B8
  have B8 := Lib.hid hb
  clear hb
  have hb := (hp.block _ (Array.getElem?_eq_some_iff.1 B12.out).1 id).trans B12.out
  clear B12
  have B12 := Lib.hid hb
  clear hb
  clear hp Hm7
  go_wp2_with fail
  have c : v8.cell? ⟨g3, 0, none⟩ = some (.int .u32 a) := by simp [World.cell?, B3.out]
  have C30 := Lib.hid c
  clear c
  have c : v8.cell? ⟨g3, 1, none⟩ = some (.int .u16 p) := by simp [World.cell?, B3.out]
  have C31 := Lib.hid c
  clear c
  have c : v8.cell? ⟨g4, 0, none⟩ = some (.int .u32 a) := by simp [World.cell?, B4.out]
  have C40 := Lib.hid c
  clear c
  have c : v8.cell? ⟨g4, 1, none⟩ = some (.int .u16 q) := by simp [World.cell?, B4.out]
  have C41 := Lib.hid c
  clear c
  have l3 := cell_lt C30.out
  have l4 := cell_lt C40.out
  clear B3 B4 B7 B8 B12
  have Hw8 := Hm8
  refine wp_region_held_drew (S := fun wx => NoW v8 wx) (by kernel_rfl) (Fp.drew (Fp.refl _ _)) (fun hHeld => ?_)
  (refine take_at 0 (some 77) rfl rfl (by kernel_rfl) (by kernel_rfl) (by kernel_rfl) (fun _ _ _ h => h) (v := ?_) (by kernel_rfl) ?_ (by assumption) ?_; rotate_left; (focus (intro wS hSw; have d30 := (hSw.cell (p := ⟨g3, 0, none⟩) l3 id).trans C30.out; have d31 := (hSw.cell (p := ⟨g3, 1, none⟩) l3 id).trans C31.out; go_simp; try with_reducible rfl)); (try simp only [Act.put, List.setIfInBounds_toArray, List.set_cons_zero, List.set_cons_succ]))
  (refine take_at 1 (some 78) rfl rfl (by kernel_rfl) (by kernel_rfl) (by kernel_rfl) (fun _ _ _ h => h) (v := ?_) (by kernel_rfl) ?_ (by assumption) ?_; rotate_left; (focus (intro wS hSw; have d40 := (hSw.cell (p := ⟨g4, 0, none⟩) l4 id).trans C40.out; have d41 := (hSw.cell (p := ⟨g4, 1, none⟩) l4 id).trans C41.out; go_simp; try with_reducible rfl)); (try simp only [Act.put, List.setIfInBounds_toArray, List.set_cons_zero, List.set_cons_succ]))
  (refine take_at 3 (some 80) rfl rfl (by kernel_rfl) (by kernel_rfl) (by kernel_rfl) (fun _ _ _ h => h) (v := ?_) (by kernel_rfl) ?_ (by assumption) ?_; rotate_left; (focus (intro wS hSw; have d40 := (hSw.cell (p := ⟨g4, 0, none⟩) l4 id).trans C40.out; have d41 := (hSw.cell (p := ⟨g4, 1, none⟩) l4 id).trans C41.out; go_simp; try with_reducible rfl)); (try simp only [Act.put, List.setIfInBounds_toArray, List.set_cons_zero, List.set_cons_succ]))
  (refine take_at 4 (some 81) rfl rfl (by kernel_rfl) (by kernel_rfl) (by kernel_rfl) (fun _ _ _ h => h) (v := ?_) (by kernel_rfl) ?_ (by assumption) ?_; rotate_left; (focus (intro wS hSw; have d30 := (hSw.cell (p := ⟨g3, 0, none⟩) l3 id).trans C30.out; have d31 := (hSw.cell (p := ⟨g3, 1, none⟩) l3 id).trans C31.out; go_simp; try with_reducible rfl)); (try simp only [Act.put, List.setIfInBounds_toArray, List.set_cons_zero, List.set_cons_succ]))
  refine wpAnyH_ready (rs := [2]) (by kernel_rfl) (by simp) ?_
  refine AllReadyH.cons rfl (fun K hK => ?_) AllReadyH.nil
  go_simp
  go_at_call 26
  refine (K9.out _).mono ?_
  rintro e u1 ⟨rfl, hp⟩
  have hn1 : NoW v8 u1 := Fp.trans hHeld hp (fun _ _ h => h)
  skip
  clear hp hHeld
  refine hK.out _ _ hn1 (fun hHeld => ?_)
  clear hK K
  try simp only [Act.put, List.setIfInBounds_toArray, List.set_cons_zero, List.set_cons_succ]
  refine wpAnyH_ready (rs := [5]) (by kernel_rfl) (by simp) ?_
  refine AllReadyH.cons rfl (fun K hK => ?_) AllReadyH.nil
  go_simp
  go_at_call 26
  refine (K10.out _).mono ?_
  rintro e u2 ⟨rfl, hp⟩
  have hn2 : NoW v8 u2 := Fp.trans hHeld hp (fun _ _ h => h)
  skip
  clear hp hHeld hn1
  refine hK.out _ _ hn2 (fun hHeld => ?_)
  clear hK K
  try simp only [Act.put, List.setIfInBounds_toArray, List.set_cons_zero, List.set_cons_succ]
  (refine take_at 6 (some 14) rfl rfl (by kernel_rfl) (by kernel_rfl) (by kernel_rfl) (fun _ _ _ h => h) (v := ?_) (by kernel_rfl) ?_ (by assumption) ?_; rotate_left; (focus (intro wS hSw; skip; go_simp; try with_reducible rfl)); (try simp only [Act.put, List.setIfInBounds_toArray, List.set_cons_zero, List.set_cons_succ]))
  (refine take_at 7 (some 15) rfl rfl (by kernel_rfl) (by kernel_rfl) (by kernel_rfl) (fun _ _ _ h => h) (v := ?_) (by kernel_rfl) ?_ (by assumption) ?_; rotate_left; (focus (intro wS hSw; skip; go_simp; try with_reducible rfl)); (try simp only [Act.put, List.setIfInBounds_toArray, List.set_cons_zero, List.set_cons_succ]))
  refine wpAnyH_done (by kernel_rfl) ?_ _
  go_wp2_with fail
  have D30 := Lib.hid ((hn2.cell (p := ⟨g3, 0, none⟩) l3 id).trans C30.out)
  have D31 := Lib.hid ((hn2.cell (p := ⟨g3, 1, none⟩) l3 id).trans C31.out)
  have D40 := Lib.hid ((hn2.cell (p := ⟨g4, 0, none⟩) l4 id).trans C40.out)
  have D41 := Lib.hid ((hn2.cell (p := ⟨g4, 1, none⟩) l4 id).trans C41.out)
  have Hu2 := Lib.hid (Hw8.out.trans hn2 (fun _ _ h => h))
  clear l3 l4 C30 C31 C40 C41 hn2
  have l3 := cell_lt D30.out
  have l4 := cell_lt D40.out
  refine wp_region_held_drew (S := fun wx => NoW u2 wx) (by kernel_rfl) (Fp.drew (Fp.refl _ _)) (fun hHeld => ?_)
  (refine take_at 0 (some 83) rfl rfl (by kernel_rfl) (by kernel_rfl) (by kernel_rfl) (fun _ _ _ h => h) (v := ?_) (by kernel_rfl) ?_ (by assumption) ?_; rotate_left; (focus (intro wS hSw; have d30 := (hSw.cell (p := ⟨g3, 0, none⟩) l3 id).trans D30.out; have d31 := (hSw.cell (p := ⟨g3, 1, none⟩) l3 id).trans D31.out; go_simp; try with_reducible rfl)); (try simp only [Act.put, List.setIfInBounds_toArray, List.set_cons_zero, List.set_cons_succ]))
  (refine take_at 2 (some 85) rfl rfl (by kernel_rfl) (by kernel_rfl) (by kernel_rfl) (fun _ _ _ h => h) (v := ?_) (by kernel_rfl) ?_ (by assumption) ?_; rotate_left; (focus (intro wS hSw; have d40 := (hSw.cell (p := ⟨g4, 0, none⟩) l4 id).trans D40.out; have d41 := (hSw.cell (p := ⟨g4, 1, none⟩) l4 id).trans D41.out; go_simp; try with_reducible rfl)); (try simp only [Act.put, List.setIfInBounds_toArray, List.set_cons_zero, List.set_cons_succ]))
  (refine take_at 5 (some 88) rfl rfl (by kernel_rfl) (by kernel_rfl) (by kernel_rfl) (fun _ _ _ h => h) (v := ?_) (by kernel_rfl) ?_ (by assumption) ?_; rotate_left; (focus (intro wS hSw; have d30 := (hSw.cell (p := ⟨g3, 0, none⟩) l3 id).trans D30.out; have d31 := (hSw.cell (p := ⟨g3, 1, none⟩) l3 id).trans D31.out; go_simp; try with_reducible rfl)); (try simp only [Act.put, List.setIfInBounds_toArray, List.set_cons_zero, List.set_cons_succ]))
  (refine take_at 6 (some 89) rfl rfl (by kernel_rfl) (by kernel_rfl) (by kernel_rfl) (fun _ _ _ h => h) (v := ?_) (by kernel_rfl) ?_ (by assumption) ?_; rotate_left; (focus (intro wS hSw; have d40 := (hSw.cell (p := ⟨g4, 0, none⟩) l4 id).trans D40.out; have d41 := (hSw.cell (p := ⟨g4, 1, none⟩) l4 id).trans D41.out; go_simp; try with_reducible rfl)); (try simp only [Act.put, List.setIfInBounds_toArray, List.set_cons_zero, List.set_cons_succ]))
  (refine take_at 7 (some 90) rfl rfl (by kernel_rfl) (by kernel_rfl) (by kernel_rfl) (fun _ _ _ h => h) (v := ?_) (by kernel_rfl) ?_ (by assumption) ?_; rotate_left; (focus (intro wS hSw; skip; go_simp; try with_reducible rfl)); (try simp only [Act.put, List.setIfInBounds_toArray, List.set_cons_zero, List.set_cons_succ]))
  refine wpAnyH_ready (rs := [1]) (by kernel_rfl) (by simp) ?_
  refine AllReadyH.cons rfl (fun K hK => ?_) AllReadyH.nil
  go_simp
  go_at_call 19
  refine (K1.out _ (Ht.out.low (Hu2.out.trans hHeld (fun _ _ h => h)))).mono ?_
  rintro e t1 ⟨rfl, hp⟩
  have hn1 : NoW u2 t1 := Fp.trans hHeld hp (fun _ _ h => h)
  skip
  clear hp hHeld
  refine hK.out _ _ hn1 (fun hHeld => ?_)
  clear hK K
  try simp only [Act.put, List.setIfInBounds_toArray, List.set_cons_zero, List.set_cons_succ]
  refine wpAnyH_ready (rs := [3]) (by kernel_rfl) (by simp) ?_
  refine AllReadyH.cons rfl (fun K hK => ?_) AllReadyH.nil
  go_simp
  go_at_call 19
  refine (K11.out _ (Ht.out.low (Hu2.out.trans hHeld (fun _ _ h => h)))).mono ?_
  rintro e t2 ⟨rfl, hp⟩
  have hn2 : NoW u2 t2 := Fp.trans hHeld hp (fun _ _ h => h)
  skip
  clear hp hHeld hn1
  refine hK.out _ _ hn2 (fun hHeld => ?_)
  clear hK K
  try simp only [Act.put, List.setIfInBounds_toArray, List.set_cons_zero, List.set_cons_succ]
  (refine take_at 4 (some 87) rfl rfl (by kernel_rfl) (by kernel_rfl) (by kernel_rfl) (fun _ _ _ h => h) (v := ?_) (by kernel_rfl) ?_ (by assumption) ?_; rotate_left; (focus (intro wS hSw; skip; go_simp; try with_reducible rfl)); (try simp only [Act.put, List.setIfInBounds_toArray, List.set_cons_zero, List.set_cons_succ]))
  (refine take_at 8 (some 91) rfl rfl (by kernel_rfl) (by kernel_rfl) (by kernel_rfl) (fun _ _ _ h => h) (v := ?_) (by kernel_rfl) ?_ (by assumption) ?_; rotate_left; (focus (intro wS hSw; skip; go_simp; try with_reducible rfl)); (try simp only [Act.put, List.setIfInBounds_toArray, List.set_cons_zero, List.set_cons_succ]))
  (refine take_at 9 (some 92) rfl rfl (by kernel_rfl) (by kernel_rfl) (by kernel_rfl) (fun _ _ _ h => h) (v := ?_) (by kernel_rfl) ?_ (by assumption) ?_; rotate_left; (focus (intro wS hSw; skip; go_simp; try with_reducible rfl)); (try simp only [Act.put, List.setIfInBounds_toArray, List.set_cons_zero, List.set_cons_succ]))
  (refine take_at 10 (some 93) rfl rfl (by kernel_rfl) (by kernel_rfl) (by kernel_rfl) (fun _ _ _ h => h) (v := ?_) (by kernel_rfl) ?_ (by assumption) ?_; rotate_left; (focus (intro wS hSw; have d30 := (hSw.cell (p := ⟨g3, 0, none⟩) l3 id).trans D30.out; have d31 := (hSw.cell (p := ⟨g3, 1, none⟩) l3 id).trans D31.out; go_simp; try with_reducible rfl)); (try simp only [Act.put, List.setIfInBounds_toArray, List.set_cons_zero, List.set_cons_succ]))
  (refine take_at 11 (some 94) rfl rfl (by kernel_rfl) (by kernel_rfl) (by kernel_rfl) (fun _ _ _ h => h) (v := ?_) (by kernel_rfl) ?_ (by assumption) ?_; rotate_left; (focus (intro wS hSw; have d40 := (hSw.cell (p := ⟨g4, 0, none⟩) l4 id).trans D40.out; have d41 := (hSw.cell (p := ⟨g4, 1, none⟩) l4 id).trans D41.out; go_simp; try with_reducible rfl)); (try simp only [Act.put, List.setIfInBounds_toArray, List.set_cons_zero, List.set_cons_succ]))
  (refine take_at 12 (some 95) rfl rfl (by kernel_rfl) (by kernel_rfl) (by kernel_rfl) (fun _ _ _ h => h) (v := ?_) (by kernel_rfl) ?_ (by assumption) ?_; rotate_left; (focus (intro wS hSw; skip; go_simp; try with_reducible rfl)); (try simp only [Act.put, List.setIfInBounds_toArray, List.set_cons_zero, List.set_cons_succ]))
  (refine take_at 13 (some 96) rfl rfl (by kernel_rfl) (by kernel_rfl) (by kernel_rfl) (fun _ _ _ h => h) (v := ?_) (by kernel_rfl) ?_ (by assumption) ?_; rotate_left; (focus (intro wS hSw; skip; go_simp; try with_reducible rfl)); (try simp only [Act.put, List.setIfInBounds_toArray, List.set_cons_zero, List.set_cons_succ]))
  (refine take_at 14 (some 97) rfl rfl (by kernel_rfl) (by kernel_rfl) (by kernel_rfl) (fun _ _ _ h => h) (v := ?_) (by kernel_rfl) ?_ (by assumption) ?_; rotate_left; (focus (intro wS hSw; skip; go_simp; try with_reducible rfl)); (try simp only [Act.put, List.setIfInBounds_toArray, List.set_cons_zero, List.set_cons_succ]))
  (refine take_at 15 (some 98) rfl rfl (by kernel_rfl) (by kernel_rfl) (by kernel_rfl) (fun _ _ _ h => h) (v := ?_) (by kernel_rfl) ?_ (by assumption) ?_; rotate_left; (focus (intro wS hSw; skip; go_simp; try with_reducible rfl)); (try simp only [Act.put, List.setIfInBounds_toArray, List.set_cons_zero, List.set_cons_succ]))
  (refine drop_at 16 (some 99) rfl rfl (by kernel_rfl) (by kernel_rfl) (by kernel_rfl) (fun _ _ _ h => h) (by kernel_rfl) (by assumption) ?_; (try simp only [Act.put, List.setIfInBounds_toArray, List.set_cons_zero, List.set_cons_succ]))
  (refine drop_at 17 (some 100) rfl rfl (by kernel_rfl) (by kernel_rfl) (by kernel_rfl) (fun _ _ _ h => h) (by kernel_rfl) (by assumption) ?_; (try simp only [Act.put, List.setIfInBounds_toArray, List.set_cons_zero, List.set_cons_succ]))
  (refine take_at 18 (some 101) rfl rfl (by kernel_rfl) (by kernel_rfl) (by kernel_rfl) (fun _ _ _ h => h) (v := ?_) (by kernel_rfl) ?_ (by assumption) ?_; rotate_left; (focus (intro wS hSw; skip; go_simp; try with_reducible rfl)); (try simp only [Act.put, List.setIfInBounds_toArray, List.set_cons_zero, List.set_cons_succ]))
  (refine take_at 19 (some 102) rfl rfl (by kernel_rfl) (by kernel_rfl) (by kernel_rfl) (fun _ _ _ h => h) (v := ?_) (by kernel_rfl) ?_ (by assumption) ?_; rotate_left; (focus (intro wS hSw; skip; go_simp; try with_reducible rfl)); (try simp only [Act.put, List.setIfInBounds_toArray, List.set_cons_zero, List.set_cons_succ]))
  (refine take_at 20 (some 103) rfl rfl (by kernel_rfl) (by kernel_rfl) (by kernel_rfl) (fun _ _ _ h => h) (v := ?_) (by kernel_rfl) ?_ (by assumption) ?_; rotate_left; (focus (intro wS hSw; skip; go_simp; try with_reducible rfl)); (try simp only [Act.put, List.setIfInBounds_toArray, List.set_cons_zero, List.set_cons_succ]))
  (refine take_at 21 (some 104) rfl rfl (by kernel_rfl) (by kernel_rfl) (by kernel_rfl) (fun _ _ _ h => h) (v := ?_) (by kernel_rfl) ?_ (by assumption) ?_; rotate_left; (focus (intro wS hSw; skip; go_simp; try with_reducible rfl)); (try simp only [Act.put, List.setIfInBounds_toArray, List.set_cons_zero, List.set_cons_succ]))
  (refine take_at 22 (some 105) rfl rfl (by kernel_rfl) (by kernel_rfl) (by kernel_rfl) (fun _ _ _ h => h) (v := ?_) (by kernel_rfl) ?_ (by assumption) ?_; rotate_left; (focus (intro wS hSw; skip; go_simp; try with_reducible rfl)); (try simp only [Act.put, List.setIfInBounds_toArray, List.set_cons_zero, List.set_cons_succ]))
  (refine take_at 23 (some 106) rfl rfl (by kernel_rfl) (by kernel_rfl) (by kernel_rfl) (fun _ _ _ h => h) (v := ?_) (by kernel_rfl) ?_ (by assumption) ?_; rotate_left; (focus (intro wS hSw; skip; go_simp; try with_reducible rfl)); (try simp only [Act.put, List.setIfInBounds_toArray, List.set_cons_zero, List.set_cons_succ]))
  (refine take_at 24 (some 107) rfl rfl (by kernel_rfl) (by kernel_rfl) (by kernel_rfl) (fun _ _ _ h => h) (v := ?_) (by kernel_rfl) ?_ (by assumption) ?_; rotate_left; (focus (intro wS hSw; skip; go_simp; try with_reducible rfl)); (try simp only [Act.put, List.setIfInBounds_toArray, List.set_cons_zero, List.set_cons_succ]))
  (refine take_at 25 (some 108) rfl rfl (by kernel_rfl) (by kernel_rfl) (by kernel_rfl) (fun _ _ _ h => h) (v := ?_) (by kernel_rfl) ?_ (by assumption) ?_; rotate_left; (focus (intro wS hSw; skip; go_simp; try with_reducible rfl)); (try simp only [Act.put, List.setIfInBounds_toArray, List.set_cons_zero, List.set_cons_succ]))
  (refine take_at 26 (some 109) rfl rfl (by kernel_rfl) (by kernel_rfl) (by kernel_rfl) (fun _ _ _ h => h) (v := ?_) (by kernel_rfl) ?_ (by assumption) ?_; rotate_left; (focus (intro wS hSw; skip; go_simp; try with_reducible rfl)); (try simp only [Act.put, List.setIfInBounds_toArray, List.set_cons_zero, List.set_cons_succ]))
  (refine take_at 27 (some 110) rfl rfl (by kernel_rfl) (by kernel_rfl) (by kernel_rfl) (fun _ _ _ h => h) (v := ?_) (by kernel_rfl) ?_ (by assumption) ?_; rotate_left; (focus (intro wS hSw; skip; go_simp; try with_reducible rfl)); (try simp only [Act.put, List.setIfInBounds_toArray, List.set_cons_zero, List.set_cons_succ]))
  (refine take_at 28 (some 111) rfl rfl (by kernel_rfl) (by kernel_rfl) (by kernel_rfl) (fun _ _ _ h => h) (v := ?_) (by kernel_rfl) ?_ (by assumption) ?_; rotate_left; (focus (intro wS hSw; skip; go_simp; try with_reducible rfl)); (try simp only [Act.put, List.setIfInBounds_toArray, List.set_cons_zero, List.set_cons_succ]))
  refine wpAnyH_ready (rs := [29]) (by kernel_rfl) (by simp) ?_
  refine AllReadyH.cons rfl (fun K hK => ?_) AllReadyH.nil
  go_simp
  go_at_call 8
  refine (named_ok _ (Ht.out.low (Hu2.out.trans hHeld (fun _ _ h => h)))).mono ?_
  rintro e t3 ⟨rfl, hp⟩
  have hn3 : NoW u2 t3 := Fp.trans hHeld hp (fun _ _ h => h)
  skip
  clear hp hHeld hn2
  refine hK.out _ _ hn3 (fun hHeld => ?_)
  clear hK K
  try simp only [Act.put, List.setIfInBounds_toArray, List.set_cons_zero, List.set_cons_succ]
  (refine take_at 30 (some 113) rfl rfl (by kernel_rfl) (by kernel_rfl) (by kernel_rfl) (fun _ _ _ h => h) (v := ?_) (by kernel_rfl) ?_ (by assumption) ?_; rotate_left; (focus (intro wS hSw; skip; go_simp; try with_reducible rfl)); (try simp only [Act.put, List.setIfInBounds_toArray, List.set_cons_zero, List.set_cons_succ]))
  (refine take_at 31 (some 6) rfl rfl (by kernel_rfl) (by kernel_rfl) (by kernel_rfl) (fun _ _ _ h => h) (v := ?_) (by kernel_rfl) ?_ (by assumption) ?_; rotate_left; (focus (intro wS hSw; skip; go_simp; try with_reducible rfl)); (try simp only [Act.put, List.setIfInBounds_toArray, List.set_cons_zero, List.set_cons_succ]))
  refine wpAnyH_done (by kernel_rfl) ?_ _
  go_wp2_with fail
  go_ret
  exact ⟨rfl, Hu2.out.trans hn3 (fun _ _ h => h)⟩

set_option maxHeartbeats 4000000 in
set_option maxRecDepth 100000 in
theorem back_m1 (w : World) (ht : Tb w) (a p b q : Int) (ip n k : Int) (x1 x2 x3 x4 : List UInt8) (hab : (a == b) = false) (hx : (x1 == x4) = false)
    (k0 : ∀ W, Calls Tryd.prog 15 #[.int .u32 a, .int .u8 k] W (Ret1 (.agg #[.int .u32 ip, .int .i64 n]) W))
    (k1 : ∀ W, Tb W → Calls Tryd.prog 19 #[.agg #[.int .u32 a, .int .u16 p]] W (Ret1 (str x1) W))
    (k2 : ∀ W, Tb W → Calls Tryd.prog 13 #[str x1] W (Ret1 (.tuple #[.agg #[.int .u32 a, .int .u16 p], .int .i64 0]) W))
    (k3 : ∀ W, Tb W → Calls Tryd.prog 17 #[.int .u32 a] W (Ret1 (str x2) W))
    (k4 : ∀ W, Tb W → Calls Tryd.prog 9 #[str x2] W (Ret1 (.tuple #[.int .u32 a, .int .i64 0]) W))
    (k5 : ∀ W, Tb W → Calls Tryd.prog 18 #[.agg #[.int .u32 ip, .int .i64 n]] W (Ret1 (str x3) W))
    (k6 : ∀ W, Tb W → Calls Tryd.prog 11 #[str x3] W (Ret1 (.tuple #[.agg #[.int .u32 ip, .int .i64 n], .int .i64 0]) W))
    (k7 : ∀ W, Calls Tryd.prog 23 #[.agg #[.int .u32 ip, .int .i64 n]] W (Ret1 (.bool true) W))
    (k8 : ∀ W, Calls Tryd.prog 16 #[.agg #[.int .u32 ip, .int .i64 n], .int .u32 a] W (Ret1 (.bool true) W))
    (k9 : ∀ W, Calls Tryd.prog 26 #[.agg #[.int .u32 a, .int .u16 p], .agg #[.int .u32 b, .int .u16 q]] W (Ret1 (.bool false) W))
    (k10 : ∀ W, Calls Tryd.prog 26 #[.agg #[.int .u32 b, .int .u16 q], .agg #[.int .u32 a, .int .u16 p]] W (Ret1 (.bool true) W))
    (k11 : ∀ W, Tb W → Calls Tryd.prog 19 #[.agg #[.int .u32 b, .int .u16 q]] W (Ret1 (str x4) W)) :
    Calls Tryd.prog 7 #[.agg #[.int .u32 a, .int .u16 p], .agg #[.int .u32 b, .int .u16 q], .int .u8 k] w (Ret1 (.bool true) w) := by
  have Ht := Lib.hid ht
  have K0 := Lib.hid k0
  have K1 := Lib.hid k1
  have K2 := Lib.hid k2
  have K3 := Lib.hid k3
  have K4 := Lib.hid k4
  have K5 := Lib.hid k5
  have K6 := Lib.hid k6
  have K7 := Lib.hid k7
  have K8 := Lib.hid k8
  have K9 := Lib.hid k9
  have K10 := Lib.hid k10
  have K11 := Lib.hid k11
  clear ht k0 k1 k2 k3 k4 k5 k6 k7 k8 k9 k10 k11
  go_enter Tryd.func7, Tryd.ntmps7
  go_wp2_with fail
  have hw0 : NoW w ((w.alloc (.cells #[.int .u32 a, .int .u16 p] 34)).alloc (.cells #[.int .u32 b, .int .u16 q] 34)) := ((Fp.refl _ _).alloc _).alloc _
  obtain ⟨hb3, hb4⟩ := box2 w (.cells #[.int .u32 a, .int .u16 p] 34) (.cells #[.int .u32 b, .int .u16 q] 34)
  generalize ((w.alloc (.cells #[.int .u32 a, .int .u16 p] 34)).alloc (.cells #[.int .u32 b, .int .u16 q] 34)) = w0 at *
  have B3 := Lib.hid hb3
  have B4 := Lib.hid hb4
  have hg34 : w.heap.size < w.heap.size + 1 := by omega
  clear hb3 hb4
  generalize w.heap.size + 1 = g4 at *
  generalize w.heap.size = g3 at *
  have Hn0 := Lib.hid hw0
  clear hw0
  refine (K0.out _).mono ?_
  rintro e v0 ⟨rfl, hp⟩
  have Hm0 := Lib.hid (Hn0.out.trans hp (fun _ _ h => h))
  have hb := (hp.block _ (Array.getElem?_eq_some_iff.1 B3.out).1 id).trans B3.out
  clear B3
  have B3 := Lib.hid hb
  clear hb
  have hb := (hp.block _ (Array.getElem?_eq_some_iff.1 B4.out).1 id).trans B4.out
  clear B4
  have B4 := Lib.hid hb
  clear hb
  clear hp Hn0
  have cB30 : v0.cell? ⟨g3, 0, none⟩ = some (.int .u32 a) := by simp [World.cell?, B3.out]
  have cB31 : v0.cell? ⟨g3, 1, none⟩ = some (.int .u16 p) := by simp [World.cell?, B3.out]
  have lB3 : g3 < v0.heap.size := cell_lt cB30
  go_wp2_with fail
  clear cB30 cB31 lB3
  have hq : NoW v0 (v0.alloc (.cells #[.int .u32 ip, .int .i64 n] 29)) := (Fp.refl _ _).alloc _
  have Hq1 := Lib.hid (Hm0.out.trans hq (fun _ _ h => h))
  have hb := (hq.block _ (Array.getElem?_eq_some_iff.1 B3.out).1 id).trans B3.out
  clear B3
  have B3 := Lib.hid hb
  clear hb
  have hb := (hq.block _ (Array.getElem?_eq_some_iff.1 B4.out).1 id).trans B4.out
  clear B4
  have B4 := Lib.hid hb
  clear hb
  have B7 := Lib.hid (heap_alloc_new v0 (.cells #[.int .u32 ip, .int .i64 n] 29))
  clear hq Hm0
  refine (K1.out _ (Ht.out.low Hq1.out)).mono ?_
  rintro e v1 ⟨rfl, hp⟩
  have Hm1 := Lib.hid (Hq1.out.trans hp (fun _ _ h => h))
  have hb := (hp.block _ (Array.getElem?_eq_some_iff.1 B3.out).1 id).trans B3.out
  clear B3
  have B3 := Lib.hid hb
  clear hb
  have hb := (hp.block _ (Array.getElem?_eq_some_iff.1 B4.out).1 id).trans B4.out
  clear B4
  have B4 := Lib.hid hb
  clear hb
  have hb := (hp.block _ (Array.getElem?_eq_some_iff.1 B7.out).1 id).trans B7.out
  clear B7
  have B7 := Lib.hid hb
  clear hb
  clear hp Hq1
  go_wp2_with fail
  refine (K2.out _ (Ht.out.low Hm1.out)).mono ?_
  rintro e v2 ⟨rfl, hp⟩
  have Hm2 := Lib.hid (Hm1.out.trans hp (fun _ _ h => h))
  have hb := (hp.block _ (Array.getElem?_eq_some_iff.1 B3.out).1 id).trans B3.out
  clear B3
  have B3 := Lib.hid hb
  clear hb
  have hb := (hp.block _ (Array.getElem?_eq_some_iff.1 B4.out).1 id).trans B4.out
  clear B4
  have B4 := Lib.hid hb
  clear hb
  have hb := (hp.block _ (Array.getElem?_eq_some_iff.1 B7.out).1 id).trans B7.out
  clear B7
  have B7 := Lib.hid hb
  clear hb
  clear hp Hm1
  have cB30 : v2.cell? ⟨g3, 0, none⟩ = some (.int .u32 a) := by simp [World.cell?, B3.out]
  have cB31 : v2.cell? ⟨g3, 1, none⟩ = some (.int .u16 p) := by simp [World.cell?, B3.out]
  have lB3 : g3 < v2.heap.size := cell_lt cB30
  go_wp2_with fail
  clear cB30 cB31 lB3
  have hq : NoW v2 (v2.alloc (.cells #[.int .u32 a, .int .u16 p] 34)) := (Fp.refl _ _).alloc _
  have Hq3 := Lib.hid (Hm2.out.trans hq (fun _ _ h => h))
  have hb := (hq.block _ (Array.getElem?_eq_some_iff.1 B3.out).1 id).trans B3.out
  clear B3
  have B3 := Lib.hid hb
  clear hb
  have hb := (hq.block _ (Array.getElem?_eq_some_iff.1 B4.out).1 id).trans B4.out
  clear B4
  have B4 := Lib.hid hb
  clear hb
  have hb := (hq.block _ (Array.getElem?_eq_some_iff.1 B7.out).1 id).trans B7.out
  clear B7
  have B7 := Lib.hid hb
  clear hb
  have B8 := Lib.hid (heap_alloc_new v2 (.cells #[.int .u32 a, .int .u16 p] 34))
  clear hq Hm2
  refine (K3.out _ (Ht.out.low Hq3.out)).mono ?_
  rintro e v3 ⟨rfl, hp⟩
  have Hm3 := Lib.hid (Hq3.out.trans hp (fun _ _ h => h))
  have hb := (hp.block _ (Array.getElem?_eq_some_iff.1 B3.out).1 id).trans B3.out
  clear B3
  have B3 := Lib.hid hb
  clear hb
  have hb := (hp.block _ (Array.getElem?_eq_some_iff.1 B4.out).1 id).trans B4.out
  clear B4
  have B4 := Lib.hid hb
  clear hb
  have hb := (hp.block _ (Array.getElem?_eq_some_iff.1 B7.out).1 id).trans B7.out
  clear B7
  have B7 := Lib.hid hb
  clear hb
  have hb := (hp.block _ (Array.getElem?_eq_some_iff.1 B8.out).1 id).trans B8.out
  clear B8
  have B8 := Lib.hid hb
  clear hb
  clear hp Hq3
  go_wp2_with fail
  refine (K4.out _ (Ht.out.low Hm3.out)).mono ?_
  rintro e v4 ⟨rfl, hp⟩
  have Hm4 := Lib.hid (Hm3.out.trans hp (fun _ _ h => h))
  have hb := (hp.block _ (Array.getElem?_eq_some_iff.1 B3.out).1 id).trans B3.out
  clear B3
  have B3 := Lib.hid hb
  clear hb
  have hb := (hp.block _ (Array.getElem?_eq_some_iff.1 B4.out).1 id).trans B4.out
  clear B4
  have B4 := Lib.hid hb
  clear hb
  have hb := (hp.block _ (Array.getElem?_eq_some_iff.1 B7.out).1 id).trans B7.out
  clear B7
  have B7 := Lib.hid hb
  clear hb
  have hb := (hp.block _ (Array.getElem?_eq_some_iff.1 B8.out).1 id).trans B8.out
  clear B8
  have B8 := Lib.hid hb
  clear hb
  clear hp Hm3
  have cB70 : v4.cell? ⟨v0.heap.size, 0, none⟩ = some (.int .u32 ip) := by simp [World.cell?, B7.out]
  have cB71 : v4.cell? ⟨v0.heap.size, 1, none⟩ = some (.int .i64 n) := by simp [World.cell?, B7.out]
  have lB7 : v0.heap.size < v4.heap.size := cell_lt cB70
  go_wp2_with fail
  clear cB70 cB71 lB7
  refine (K5.out _ (Ht.out.low Hm4.out)).mono ?_
  rintro e v5 ⟨rfl, hp⟩
  have Hm5 := Lib.hid (Hm4.out.trans hp (fun _ _ h => h))
  have hb := (hp.block _ (Array.getElem?_eq_some_iff.1 B3.out).1 id).trans B3.out
  clear B3
  have B3 := Lib.hid hb
  clear hb
  have hb := (hp.block _ (Array.getElem?_eq_some_iff.1 B4.out).1 id).trans B4.out
  clear B4
  have B4 := Lib.hid hb
  clear hb
  have hb := (hp.block _ (Array.getElem?_eq_some_iff.1 B7.out).1 id).trans B7.out
  clear B7
  have B7 := Lib.hid hb
  clear hb
  have hb := (hp.block _ (Array.getElem?_eq_some_iff.1 B8.out).1 id).trans B8.out
  clear B8
  have B8 := Lib.hid hb
  clear hb
  clear hp Hm4
  go_wp2_with fail
  refine (K6.out _ (Ht.out.low Hm5.out)).mono ?_
  rintro e v6 ⟨rfl, hp⟩
  have Hm6 := Lib.hid (Hm5.out.trans hp (fun _ _ h => h))
  have hb := (hp.block _ (Array.getElem?_eq_some_iff.1 B3.out).1 id).trans B3.out
  clear B3
  have B3 := Lib.hid hb
  clear hb
  have hb := (hp.block _ (Array.getElem?_eq_some_iff.1 B4.out).1 id).trans B4.out
  clear B4
  have B4 := Lib.hid hb
  clear hb
  have hb := (hp.block _ (Array.getElem?_eq_some_iff.1 B7.out).1 id).trans B7.out
  clear B7
  have B7 := Lib.hid hb
  clear hb
  have hb := (hp.block _ (Array.getElem?_eq_some_iff.1 B8.out).1 id).trans B8.out
  clear B8
  have B8 := Lib.hid hb
  clear hb
  clear hp Hm5
  have cB80 : v6.cell? ⟨v2.heap.size, 0, none⟩ = some (.int .u32 a) := by simp [World.cell?, B8.out]
  have cB81 : v6.cell? ⟨v2.heap.size, 1, none⟩ = some (.int .u16 p) := by simp [World.cell?, B8.out]
  have lB8 : v2.heap.size < v6.heap.size := cell_lt cB80
  have cB30 : v6.cell? ⟨g3, 0, none⟩ = some (.int .u32 a) := by simp [World.cell?, B3.out]
  have cB31 : v6.cell? ⟨g3, 1, none⟩ = some (.int .u16 p) := by simp [World.cell?, B3.out]
  have lB3 : g3 < v6.heap.size := cell_lt cB30
  have cB70 : v6.cell? ⟨v0.heap.size, 0, none⟩ = some (.int .u32 ip) := by simp [World.cell?, B7.out]
  have cB71 : v6.cell? ⟨v0.heap.size, 1, none⟩ = some (.int .i64 n) := by simp [World.cell?, B7.out]
  have lB7 : v0.heap.size < v6.heap.size := cell_lt cB70
  go_wp2_with fail
  clear cB80 cB81 lB8 cB30 cB31 lB3 cB70 cB71 lB7
  have hq : NoW v6 (v6.alloc (.cells #[.int .u32 ip, .int .i64 n] 29)) := (Fp.refl _ _).alloc _
  have Hq7 := Lib.hid (Hm6.out.trans hq (fun _ _ h => h))
  have hb := (hq.block _ (Array.getElem?_eq_some_iff.1 B3.out).1 id).trans B3.out
  clear B3
  have B3 := Lib.hid hb
  clear hb
  have hb := (hq.block _ (Array.getElem?_eq_some_iff.1 B4.out).1 id).trans B4.out
  clear B4
  have B4 := Lib.hid hb
  clear hb
  have hb := (hq.block _ (Array.getElem?_eq_some_iff.1 B7.out).1 id).trans B7.out
  clear B7
  have B7 := Lib.hid hb
  clear hb
  have hb := (hq.block _ (Array.getElem?_eq_some_iff.1 B8.out).1 id).trans B8.out
  clear B8
  have B8 := Lib.hid hb
  clear hb
  have B12 := Lib.hid (heap_alloc_new v6 (.cells #[.int .u32 ip, .int .i64 n] 29))
  clear hq Hm6
  refine (K7.out _).mono ?_
  rintro e v7 ⟨rfl, hp⟩
  have Hm7 := Lib.hid (Hq7.out.trans hp (fun _ _ h => h))
  have hb := (hp.block _ (Array.getElem?_eq_some_iff.1 B3.out).1 id).trans B3.out
  clear B3
  have B3 := Lib.hid hb
  clear hb
  have hb := (hp.block _ (Array.getElem?_eq_some_iff.1 B4.out).1 id).trans B4.out
  clear B4
  have B4 := Lib.hid hb
  clear hb
  have hb := (hp.block _ (Array.getElem?_eq_some_iff.1 B7.out).1 id).trans B7.out
  clear B7
  have B7 := Lib.hid hb
  clear hb
  have hb := (hp.block _ (Array.getElem?_eq_some_iff.1 B8.out).1 id).trans B8.out
  clear B8
  have B8 := Lib.hid hb
  clear hb
  have hb := (hp.block _ (Array.getElem?_eq_some_iff.1 B12.out).1 id).trans B12.out
  clear B12
  have B12 := Lib.hid hb
  clear hb
  clear hp Hq7
  have cB70 : v7.cell? ⟨v0.heap.size, 0, none⟩ = some (.int .u32 ip) := by simp [World.cell?, B7.out]
  have cB71 : v7.cell? ⟨v0.heap.size, 1, none⟩ = some (.int .i64 n) := by simp [World.cell?, B7.out]
  have lB7 : v0.heap.size < v7.heap.size := cell_lt cB70
  have cB30 : v7.cell? ⟨g3, 0, none⟩ = some (.int .u32 a) := by simp [World.cell?, B3.out]
  have cB31 : v7.cell? ⟨g3, 1, none⟩ = some (.int .u16 p) := by simp [World.cell?, B3.out]
  have lB3 : g3 < v7.heap.size := cell_lt cB30
  go_wp2_with fail
  clear cB70 cB71 lB7 cB30 cB31 lB3
  refine (K8.out _).mono ?_
  rintro e v8 ⟨rfl, hp⟩
  have Hm8 := Lib.hid (Hm7.out.trans hp (fun _ _ h => h))
  have hb := (hp.block _ (Array.getElem?_eq_some_iff.1 B3.out).1 id).trans B3.out
  clear B3
  have B3 := Lib.hid hb
  clear hb
  have hb := (hp.block _ (Array.getElem?_eq_some_iff.1 B4.out).1 id).trans B4.out
  clear B4
  have B4 := Lib.hid hb
  clear hb
  have hb := (hp.block _ (Array.getElem?_eq_some_iff.1 B7.out).1 id).trans B7.out
  clear B7
  have B7 := Lib.hid hb
  clear hb
  have hb := (hp.block _ (Array.getElem?_eq_some_iff.1 B8.out).1 id).trans B8.out
  clear B8
  have B8 := Lib.hid hb
  clear hb
  have hb := (hp.block _ (Array.getElem?_eq_some_iff.1 B12.out).1 id).trans B12.out
  clear B12
  have B12 := Lib.hid hb
  clear hb
  clear hp Hm7
  go_wp2_with fail
  have c : v8.cell? ⟨g3, 0, none⟩ = some (.int .u32 a) := by simp [World.cell?, B3.out]
  have C30 := Lib.hid c
  clear c
  have c : v8.cell? ⟨g3, 1, none⟩ = some (.int .u16 p) := by simp [World.cell?, B3.out]
  have C31 := Lib.hid c
  clear c
  have c : v8.cell? ⟨g4, 0, none⟩ = some (.int .u32 b) := by simp [World.cell?, B4.out]
  have C40 := Lib.hid c
  clear c
  have c : v8.cell? ⟨g4, 1, none⟩ = some (.int .u16 q) := by simp [World.cell?, B4.out]
  have C41 := Lib.hid c
  clear c
  have l3 := cell_lt C30.out
  have l4 := cell_lt C40.out
  clear B3 B4 B7 B8 B12
  have Hw8 := Hm8
  refine wp_region_held_drew (S := fun wx => NoW v8 wx) (by kernel_rfl) (Fp.drew (Fp.refl _ _)) (fun hHeld => ?_)
  (refine take_at 0 (some 77) rfl rfl (by kernel_rfl) (by kernel_rfl) (by kernel_rfl) (fun _ _ _ h => h) (v := ?_) (by kernel_rfl) ?_ (by assumption) ?_; rotate_left; (focus (intro wS hSw; have d30 := (hSw.cell (p := ⟨g3, 0, none⟩) l3 id).trans C30.out; have d31 := (hSw.cell (p := ⟨g3, 1, none⟩) l3 id).trans C31.out; go_simp; try with_reducible rfl)); (try simp only [Act.put, List.setIfInBounds_toArray, List.set_cons_zero, List.set_cons_succ]))
  (refine take_at 1 (some 78) rfl rfl (by kernel_rfl) (by kernel_rfl) (by kernel_rfl) (fun _ _ _ h => h) (v := ?_) (by kernel_rfl) ?_ (by assumption) ?_; rotate_left; (focus (intro wS hSw; have d40 := (hSw.cell (p := ⟨g4, 0, none⟩) l4 id).trans C40.out; have d41 := (hSw.cell (p := ⟨g4, 1, none⟩) l4 id).trans C41.out; go_simp; try with_reducible rfl)); (try simp only [Act.put, List.setIfInBounds_toArray, List.set_cons_zero, List.set_cons_succ]))
  (refine take_at 3 (some 80) rfl rfl (by kernel_rfl) (by kernel_rfl) (by kernel_rfl) (fun _ _ _ h => h) (v := ?_) (by kernel_rfl) ?_ (by assumption) ?_; rotate_left; (focus (intro wS hSw; have d40 := (hSw.cell (p := ⟨g4, 0, none⟩) l4 id).trans C40.out; have d41 := (hSw.cell (p := ⟨g4, 1, none⟩) l4 id).trans C41.out; go_simp; try with_reducible rfl)); (try simp only [Act.put, List.setIfInBounds_toArray, List.set_cons_zero, List.set_cons_succ]))
  (refine take_at 4 (some 81) rfl rfl (by kernel_rfl) (by kernel_rfl) (by kernel_rfl) (fun _ _ _ h => h) (v := ?_) (by kernel_rfl) ?_ (by assumption) ?_; rotate_left; (focus (intro wS hSw; have d30 := (hSw.cell (p := ⟨g3, 0, none⟩) l3 id).trans C30.out; have d31 := (hSw.cell (p := ⟨g3, 1, none⟩) l3 id).trans C31.out; go_simp; try with_reducible rfl)); (try simp only [Act.put, List.setIfInBounds_toArray, List.set_cons_zero, List.set_cons_succ]))
  refine wpAnyH_ready (rs := [2]) (by kernel_rfl) (by simp) ?_
  refine AllReadyH.cons rfl (fun K hK => ?_) AllReadyH.nil
  go_simp
  go_at_call 26
  refine (K9.out _).mono ?_
  rintro e u1 ⟨rfl, hp⟩
  have hn1 : NoW v8 u1 := Fp.trans hHeld hp (fun _ _ h => h)
  skip
  clear hp hHeld
  refine hK.out _ _ hn1 (fun hHeld => ?_)
  clear hK K
  try simp only [Act.put, List.setIfInBounds_toArray, List.set_cons_zero, List.set_cons_succ]
  refine wpAnyH_ready (rs := [5]) (by kernel_rfl) (by simp) ?_
  refine AllReadyH.cons rfl (fun K hK => ?_) AllReadyH.nil
  go_simp
  go_at_call 26
  refine (K10.out _).mono ?_
  rintro e u2 ⟨rfl, hp⟩
  have hn2 : NoW v8 u2 := Fp.trans hHeld hp (fun _ _ h => h)
  skip
  clear hp hHeld hn1
  refine hK.out _ _ hn2 (fun hHeld => ?_)
  clear hK K
  try simp only [Act.put, List.setIfInBounds_toArray, List.set_cons_zero, List.set_cons_succ]
  (refine take_at 6 (some 14) rfl rfl (by kernel_rfl) (by kernel_rfl) (by kernel_rfl) (fun _ _ _ h => h) (v := ?_) (by kernel_rfl) ?_ (by assumption) ?_; rotate_left; (focus (intro wS hSw; skip; go_simp; try with_reducible rfl)); (try simp only [Act.put, List.setIfInBounds_toArray, List.set_cons_zero, List.set_cons_succ]))
  (refine take_at 7 (some 15) rfl rfl (by kernel_rfl) (by kernel_rfl) (by kernel_rfl) (fun _ _ _ h => h) (v := ?_) (by kernel_rfl) ?_ (by assumption) ?_; rotate_left; (focus (intro wS hSw; skip; go_simp; try with_reducible rfl)); (try simp only [Act.put, List.setIfInBounds_toArray, List.set_cons_zero, List.set_cons_succ]))
  refine wpAnyH_done (by kernel_rfl) ?_ _
  go_wp2_with fail
  have D30 := Lib.hid ((hn2.cell (p := ⟨g3, 0, none⟩) l3 id).trans C30.out)
  have D31 := Lib.hid ((hn2.cell (p := ⟨g3, 1, none⟩) l3 id).trans C31.out)
  have D40 := Lib.hid ((hn2.cell (p := ⟨g4, 0, none⟩) l4 id).trans C40.out)
  have D41 := Lib.hid ((hn2.cell (p := ⟨g4, 1, none⟩) l4 id).trans C41.out)
  have Hu2 := Lib.hid (Hw8.out.trans hn2 (fun _ _ h => h))
  clear l3 l4 C30 C31 C40 C41 hn2
  have l3 := cell_lt D30.out
  have l4 := cell_lt D40.out
  refine wp_region_held_drew (S := fun wx => NoW u2 wx) (by kernel_rfl) (Fp.drew (Fp.refl _ _)) (fun hHeld => ?_)
  (refine take_at 0 (some 83) rfl rfl (by kernel_rfl) (by kernel_rfl) (by kernel_rfl) (fun _ _ _ h => h) (v := ?_) (by kernel_rfl) ?_ (by assumption) ?_; rotate_left; (focus (intro wS hSw; have d30 := (hSw.cell (p := ⟨g3, 0, none⟩) l3 id).trans D30.out; have d31 := (hSw.cell (p := ⟨g3, 1, none⟩) l3 id).trans D31.out; go_simp; try with_reducible rfl)); (try simp only [Act.put, List.setIfInBounds_toArray, List.set_cons_zero, List.set_cons_succ]))
  (refine take_at 2 (some 85) rfl rfl (by kernel_rfl) (by kernel_rfl) (by kernel_rfl) (fun _ _ _ h => h) (v := ?_) (by kernel_rfl) ?_ (by assumption) ?_; rotate_left; (focus (intro wS hSw; have d40 := (hSw.cell (p := ⟨g4, 0, none⟩) l4 id).trans D40.out; have d41 := (hSw.cell (p := ⟨g4, 1, none⟩) l4 id).trans D41.out; go_simp; try with_reducible rfl)); (try simp only [Act.put, List.setIfInBounds_toArray, List.set_cons_zero, List.set_cons_succ]))
  (refine take_at 5 (some 88) rfl rfl (by kernel_rfl) (by kernel_rfl) (by kernel_rfl) (fun _ _ _ h => h) (v := ?_) (by kernel_rfl) ?_ (by assumption) ?_; rotate_left; (focus (intro wS hSw; have d30 := (hSw.cell (p := ⟨g3, 0, none⟩) l3 id).trans D30.out; have d31 := (hSw.cell (p := ⟨g3, 1, none⟩) l3 id).trans D31.out; go_simp; try with_reducible rfl)); (try simp only [Act.put, List.setIfInBounds_toArray, List.set_cons_zero, List.set_cons_succ]))
  (refine take_at 6 (some 89) rfl rfl (by kernel_rfl) (by kernel_rfl) (by kernel_rfl) (fun _ _ _ h => h) (v := ?_) (by kernel_rfl) ?_ (by assumption) ?_; rotate_left; (focus (intro wS hSw; have d40 := (hSw.cell (p := ⟨g4, 0, none⟩) l4 id).trans D40.out; have d41 := (hSw.cell (p := ⟨g4, 1, none⟩) l4 id).trans D41.out; go_simp; try with_reducible rfl)); (try simp only [Act.put, List.setIfInBounds_toArray, List.set_cons_zero, List.set_cons_succ]))
  (refine take_at 7 (some 90) rfl rfl (by kernel_rfl) (by kernel_rfl) (by kernel_rfl) (fun _ _ _ h => h) (v := ?_) (by kernel_rfl) ?_ (by assumption) ?_; rotate_left; (focus (intro wS hSw; skip; go_simp; try with_reducible rfl)); (try simp only [Act.put, List.setIfInBounds_toArray, List.set_cons_zero, List.set_cons_succ]))
  refine wpAnyH_ready (rs := [1]) (by kernel_rfl) (by simp) ?_
  refine AllReadyH.cons rfl (fun K hK => ?_) AllReadyH.nil
  go_simp
  go_at_call 19
  refine (K1.out _ (Ht.out.low (Hu2.out.trans hHeld (fun _ _ h => h)))).mono ?_
  rintro e t1 ⟨rfl, hp⟩
  have hn1 : NoW u2 t1 := Fp.trans hHeld hp (fun _ _ h => h)
  skip
  clear hp hHeld
  refine hK.out _ _ hn1 (fun hHeld => ?_)
  clear hK K
  try simp only [Act.put, List.setIfInBounds_toArray, List.set_cons_zero, List.set_cons_succ]
  refine wpAnyH_ready (rs := [3]) (by kernel_rfl) (by simp) ?_
  refine AllReadyH.cons rfl (fun K hK => ?_) AllReadyH.nil
  go_simp
  go_at_call 19
  refine (K11.out _ (Ht.out.low (Hu2.out.trans hHeld (fun _ _ h => h)))).mono ?_
  rintro e t2 ⟨rfl, hp⟩
  have hn2 : NoW u2 t2 := Fp.trans hHeld hp (fun _ _ h => h)
  skip
  clear hp hHeld hn1
  refine hK.out _ _ hn2 (fun hHeld => ?_)
  clear hK K
  try simp only [Act.put, List.setIfInBounds_toArray, List.set_cons_zero, List.set_cons_succ]
  (refine take_at 4 (some 87) rfl rfl (by kernel_rfl) (by kernel_rfl) (by kernel_rfl) (fun _ _ _ h => h) (v := ?_) (by kernel_rfl) ?_ (by assumption) ?_; rotate_left; (focus (intro wS hSw; skip; go_simp; try with_reducible rfl)); (try simp only [Act.put, List.setIfInBounds_toArray, List.set_cons_zero, List.set_cons_succ]))
  (refine take_at 8 (some 91) rfl rfl (by kernel_rfl) (by kernel_rfl) (by kernel_rfl) (fun _ _ _ h => h) (v := ?_) (by kernel_rfl) ?_ (by assumption) ?_; rotate_left; (focus (intro wS hSw; skip; go_simp; try with_reducible rfl)); (try simp only [Act.put, List.setIfInBounds_toArray, List.set_cons_zero, List.set_cons_succ]))
  (refine take_at 9 (some 92) rfl rfl (by kernel_rfl) (by kernel_rfl) (by kernel_rfl) (fun _ _ _ h => h) (v := ?_) (by kernel_rfl) ?_ (by assumption) ?_; rotate_left; (focus (intro wS hSw; skip; go_simp; try with_reducible rfl)); (try simp only [Act.put, List.setIfInBounds_toArray, List.set_cons_zero, List.set_cons_succ]))
  (refine take_at 10 (some 93) rfl rfl (by kernel_rfl) (by kernel_rfl) (by kernel_rfl) (fun _ _ _ h => h) (v := ?_) (by kernel_rfl) ?_ (by assumption) ?_; rotate_left; (focus (intro wS hSw; have d30 := (hSw.cell (p := ⟨g3, 0, none⟩) l3 id).trans D30.out; have d31 := (hSw.cell (p := ⟨g3, 1, none⟩) l3 id).trans D31.out; go_simp; try with_reducible rfl)); (try simp only [Act.put, List.setIfInBounds_toArray, List.set_cons_zero, List.set_cons_succ]))
  (refine take_at 11 (some 94) rfl rfl (by kernel_rfl) (by kernel_rfl) (by kernel_rfl) (fun _ _ _ h => h) (v := ?_) (by kernel_rfl) ?_ (by assumption) ?_; rotate_left; (focus (intro wS hSw; have d40 := (hSw.cell (p := ⟨g4, 0, none⟩) l4 id).trans D40.out; have d41 := (hSw.cell (p := ⟨g4, 1, none⟩) l4 id).trans D41.out; go_simp; try with_reducible rfl)); (try simp only [Act.put, List.setIfInBounds_toArray, List.set_cons_zero, List.set_cons_succ]))
  (refine take_at 12 (some 95) rfl rfl (by kernel_rfl) (by kernel_rfl) (by kernel_rfl) (fun _ _ _ h => h) (v := ?_) (by kernel_rfl) ?_ (by assumption) ?_; rotate_left; (focus (intro wS hSw; skip; go_simp; try with_reducible rfl)); (try simp only [Act.put, List.setIfInBounds_toArray, List.set_cons_zero, List.set_cons_succ]))
  (refine take_at 13 (some 96) rfl rfl (by kernel_rfl) (by kernel_rfl) (by kernel_rfl) (fun _ _ _ h => h) (v := ?_) (by kernel_rfl) ?_ (by assumption) ?_; rotate_left; (focus (intro wS hSw; skip; go_simp; try with_reducible rfl)); (try simp only [Act.put, List.setIfInBounds_toArray, List.set_cons_zero, List.set_cons_succ]))
  (refine take_at 14 (some 97) rfl rfl (by kernel_rfl) (by kernel_rfl) (by kernel_rfl) (fun _ _ _ h => h) (v := ?_) (by kernel_rfl) ?_ (by assumption) ?_; rotate_left; (focus (intro wS hSw; skip; go_simp; try with_reducible rfl)); (try simp only [Act.put, List.setIfInBounds_toArray, List.set_cons_zero, List.set_cons_succ]))
  (refine take_at 15 (some 98) rfl rfl (by kernel_rfl) (by kernel_rfl) (by kernel_rfl) (fun _ _ _ h => h) (v := ?_) (by kernel_rfl) ?_ (by assumption) ?_; rotate_left; (focus (intro wS hSw; skip; go_simp; try with_reducible rfl)); (try simp only [Act.put, List.setIfInBounds_toArray, List.set_cons_zero, List.set_cons_succ]))
  (refine take_at 16 (some 99) rfl rfl (by kernel_rfl) (by kernel_rfl) (by kernel_rfl) (fun _ _ _ h => h) (v := ?_) (by kernel_rfl) ?_ (by assumption) ?_; rotate_left; (focus (intro wS hSw; skip; go_simp; try with_reducible rfl)); (try simp only [Act.put, List.setIfInBounds_toArray, List.set_cons_zero, List.set_cons_succ]))
  (refine take_at 17 (some 100) rfl rfl (by kernel_rfl) (by kernel_rfl) (by kernel_rfl) (fun _ _ _ h => h) (v := ?_) (by kernel_rfl) ?_ (by assumption) ?_; rotate_left; (focus (intro wS hSw; skip; go_simp; try with_reducible rfl)); (try simp only [Act.put, List.setIfInBounds_toArray, List.set_cons_zero, List.set_cons_succ]))
  (refine take_at 18 (some 101) rfl rfl (by kernel_rfl) (by kernel_rfl) (by kernel_rfl) (fun _ _ _ h => h) (v := ?_) (by kernel_rfl) ?_ (by assumption) ?_; rotate_left; (focus (intro wS hSw; skip; go_simp; try with_reducible rfl)); (try simp only [Act.put, List.setIfInBounds_toArray, List.set_cons_zero, List.set_cons_succ]))
  (refine take_at 19 (some 102) rfl rfl (by kernel_rfl) (by kernel_rfl) (by kernel_rfl) (fun _ _ _ h => h) (v := ?_) (by kernel_rfl) ?_ (by assumption) ?_; rotate_left; (focus (intro wS hSw; skip; go_simp; try with_reducible rfl)); (try simp only [Act.put, List.setIfInBounds_toArray, List.set_cons_zero, List.set_cons_succ]))
  (refine take_at 20 (some 103) rfl rfl (by kernel_rfl) (by kernel_rfl) (by kernel_rfl) (fun _ _ _ h => h) (v := ?_) (by kernel_rfl) ?_ (by assumption) ?_; rotate_left; (focus (intro wS hSw; skip; go_simp; try with_reducible rfl)); (try simp only [Act.put, List.setIfInBounds_toArray, List.set_cons_zero, List.set_cons_succ]))
  (refine take_at 21 (some 104) rfl rfl (by kernel_rfl) (by kernel_rfl) (by kernel_rfl) (fun _ _ _ h => h) (v := ?_) (by kernel_rfl) ?_ (by assumption) ?_; rotate_left; (focus (intro wS hSw; skip; go_simp; try with_reducible rfl)); (try simp only [Act.put, List.setIfInBounds_toArray, List.set_cons_zero, List.set_cons_succ]))
  (refine take_at 22 (some 105) rfl rfl (by kernel_rfl) (by kernel_rfl) (by kernel_rfl) (fun _ _ _ h => h) (v := ?_) (by kernel_rfl) ?_ (by assumption) ?_; rotate_left; (focus (intro wS hSw; skip; go_simp; try with_reducible rfl)); (try simp only [Act.put, List.setIfInBounds_toArray, List.set_cons_zero, List.set_cons_succ]))
  (refine take_at 23 (some 106) rfl rfl (by kernel_rfl) (by kernel_rfl) (by kernel_rfl) (fun _ _ _ h => h) (v := ?_) (by kernel_rfl) ?_ (by assumption) ?_; rotate_left; (focus (intro wS hSw; skip; go_simp; try with_reducible rfl)); (try simp only [Act.put, List.setIfInBounds_toArray, List.set_cons_zero, List.set_cons_succ]))
  (refine drop_at 24 (some 107) rfl rfl (by kernel_rfl) (by kernel_rfl) (by kernel_rfl) (fun _ _ _ h => h) (by kernel_rfl) (by assumption) ?_; (try simp only [Act.put, List.setIfInBounds_toArray, List.set_cons_zero, List.set_cons_succ]))
  (refine take_at 25 (some 108) rfl rfl (by kernel_rfl) (by kernel_rfl) (by kernel_rfl) (fun _ _ _ h => h) (v := ?_) (by kernel_rfl) ?_ (by assumption) ?_; rotate_left; (focus (intro wS hSw; skip; go_simp; try with_reducible rfl)); (try simp only [Act.put, List.setIfInBounds_toArray, List.set_cons_zero, List.set_cons_succ]))
  (refine take_at 26 (some 109) rfl rfl (by kernel_rfl) (by kernel_rfl) (by kernel_rfl) (fun _ _ _ h => h) (v := ?_) (by kernel_rfl) ?_ (by assumption) ?_; rotate_left; (focus (intro wS hSw; skip; go_simp; try with_reducible rfl)); (try simp only [Act.put, List.setIfInBounds_toArray, List.set_cons_zero, List.set_cons_succ]))
  (refine take_at 27 (some 110) rfl rfl (by kernel_rfl) (by kernel_rfl) (by kernel_rfl) (fun _ _ _ h => h) (v := ?_) (by kernel_rfl) ?_ (by assumption) ?_; rotate_left; (focus (intro wS hSw; skip; go_simp; try with_reducible rfl)); (try simp only [Act.put, List.setIfInBounds_toArray, List.set_cons_zero, List.set_cons_succ]))
  (refine take_at 28 (some 111) rfl rfl (by kernel_rfl) (by kernel_rfl) (by kernel_rfl) (fun _ _ _ h => h) (v := ?_) (by kernel_rfl) ?_ (by assumption) ?_; rotate_left; (focus (intro wS hSw; skip; go_simp; try with_reducible rfl)); (try simp only [Act.put, List.setIfInBounds_toArray, List.set_cons_zero, List.set_cons_succ]))
  refine wpAnyH_ready (rs := [29]) (by kernel_rfl) (by simp) ?_
  refine AllReadyH.cons rfl (fun K hK => ?_) AllReadyH.nil
  go_simp
  go_at_call 8
  refine (named_ok _ (Ht.out.low (Hu2.out.trans hHeld (fun _ _ h => h)))).mono ?_
  rintro e t3 ⟨rfl, hp⟩
  have hn3 : NoW u2 t3 := Fp.trans hHeld hp (fun _ _ h => h)
  skip
  clear hp hHeld hn2
  refine hK.out _ _ hn3 (fun hHeld => ?_)
  clear hK K
  try simp only [Act.put, List.setIfInBounds_toArray, List.set_cons_zero, List.set_cons_succ]
  (refine take_at 30 (some 113) rfl rfl (by kernel_rfl) (by kernel_rfl) (by kernel_rfl) (fun _ _ _ h => h) (v := ?_) (by kernel_rfl) ?_ (by assumption) ?_; rotate_left; (focus (intro wS hSw; skip; go_simp; try with_reducible rfl)); (try simp only [Act.put, List.setIfInBounds_toArray, List.set_cons_zero, List.set_cons_succ]))
  (refine take_at 31 (some 6) rfl rfl (by kernel_rfl) (by kernel_rfl) (by kernel_rfl) (fun _ _ _ h => h) (v := ?_) (by kernel_rfl) ?_ (by assumption) ?_; rotate_left; (focus (intro wS hSw; skip; go_simp; try with_reducible rfl)); (try simp only [Act.put, List.setIfInBounds_toArray, List.set_cons_zero, List.set_cons_succ]))
  refine wpAnyH_done (by kernel_rfl) ?_ _
  go_wp2_with fail
  go_ret
  exact ⟨rfl, Hu2.out.trans hn3 (fun _ _ h => h)⟩

set_option maxHeartbeats 4000000 in
set_option maxRecDepth 100000 in
theorem back_m2 (w : World) (ht : Tb w) (a p q : Int) (ip n k : Int) (x1 x2 x3 x4 : List UInt8) (hpq : (p == q) = false) (hx : (x1 == x4) = false)
    (k0 : ∀ W, Calls Tryd.prog 15 #[.int .u32 a, .int .u8 k] W (Ret1 (.agg #[.int .u32 ip, .int .i64 n]) W))
    (k1 : ∀ W, Tb W → Calls Tryd.prog 19 #[.agg #[.int .u32 a, .int .u16 p]] W (Ret1 (str x1) W))
    (k2 : ∀ W, Tb W → Calls Tryd.prog 13 #[str x1] W (Ret1 (.tuple #[.agg #[.int .u32 a, .int .u16 p], .int .i64 0]) W))
    (k3 : ∀ W, Tb W → Calls Tryd.prog 17 #[.int .u32 a] W (Ret1 (str x2) W))
    (k4 : ∀ W, Tb W → Calls Tryd.prog 9 #[str x2] W (Ret1 (.tuple #[.int .u32 a, .int .i64 0]) W))
    (k5 : ∀ W, Tb W → Calls Tryd.prog 18 #[.agg #[.int .u32 ip, .int .i64 n]] W (Ret1 (str x3) W))
    (k6 : ∀ W, Tb W → Calls Tryd.prog 11 #[str x3] W (Ret1 (.tuple #[.agg #[.int .u32 ip, .int .i64 n], .int .i64 0]) W))
    (k7 : ∀ W, Calls Tryd.prog 23 #[.agg #[.int .u32 ip, .int .i64 n]] W (Ret1 (.bool true) W))
    (k8 : ∀ W, Calls Tryd.prog 16 #[.agg #[.int .u32 ip, .int .i64 n], .int .u32 a] W (Ret1 (.bool true) W))
    (k9 : ∀ W, Calls Tryd.prog 26 #[.agg #[.int .u32 a, .int .u16 p], .agg #[.int .u32 a, .int .u16 q]] W (Ret1 (.bool false) W))
    (k10 : ∀ W, Calls Tryd.prog 26 #[.agg #[.int .u32 a, .int .u16 q], .agg #[.int .u32 a, .int .u16 p]] W (Ret1 (.bool true) W))
    (k11 : ∀ W, Tb W → Calls Tryd.prog 19 #[.agg #[.int .u32 a, .int .u16 q]] W (Ret1 (str x4) W)) :
    Calls Tryd.prog 7 #[.agg #[.int .u32 a, .int .u16 p], .agg #[.int .u32 a, .int .u16 q], .int .u8 k] w (Ret1 (.bool true) w) := by
  have Ht := Lib.hid ht
  have K0 := Lib.hid k0
  have K1 := Lib.hid k1
  have K2 := Lib.hid k2
  have K3 := Lib.hid k3
  have K4 := Lib.hid k4
  have K5 := Lib.hid k5
  have K6 := Lib.hid k6
  have K7 := Lib.hid k7
  have K8 := Lib.hid k8
  have K9 := Lib.hid k9
  have K10 := Lib.hid k10
  have K11 := Lib.hid k11
  clear ht k0 k1 k2 k3 k4 k5 k6 k7 k8 k9 k10 k11
  go_enter Tryd.func7, Tryd.ntmps7
  go_wp2_with fail
  have hw0 : NoW w ((w.alloc (.cells #[.int .u32 a, .int .u16 p] 34)).alloc (.cells #[.int .u32 a, .int .u16 q] 34)) := ((Fp.refl _ _).alloc _).alloc _
  obtain ⟨hb3, hb4⟩ := box2 w (.cells #[.int .u32 a, .int .u16 p] 34) (.cells #[.int .u32 a, .int .u16 q] 34)
  generalize ((w.alloc (.cells #[.int .u32 a, .int .u16 p] 34)).alloc (.cells #[.int .u32 a, .int .u16 q] 34)) = w0 at *
  have B3 := Lib.hid hb3
  have B4 := Lib.hid hb4
  have hg34 : w.heap.size < w.heap.size + 1 := by omega
  clear hb3 hb4
  generalize w.heap.size + 1 = g4 at *
  generalize w.heap.size = g3 at *
  have Hn0 := Lib.hid hw0
  clear hw0
  refine (K0.out _).mono ?_
  rintro e v0 ⟨rfl, hp⟩
  have Hm0 := Lib.hid (Hn0.out.trans hp (fun _ _ h => h))
  have hb := (hp.block _ (Array.getElem?_eq_some_iff.1 B3.out).1 id).trans B3.out
  clear B3
  have B3 := Lib.hid hb
  clear hb
  have hb := (hp.block _ (Array.getElem?_eq_some_iff.1 B4.out).1 id).trans B4.out
  clear B4
  have B4 := Lib.hid hb
  clear hb
  clear hp Hn0
  have cB30 : v0.cell? ⟨g3, 0, none⟩ = some (.int .u32 a) := by simp [World.cell?, B3.out]
  have cB31 : v0.cell? ⟨g3, 1, none⟩ = some (.int .u16 p) := by simp [World.cell?, B3.out]
  have lB3 : g3 < v0.heap.size := cell_lt cB30
  go_wp2_with fail
  clear cB30 cB31 lB3
  have hq : NoW v0 (v0.alloc (.cells #[.int .u32 ip, .int .i64 n] 29)) := (Fp.refl _ _).alloc _
  have Hq1 := Lib.hid (Hm0.out.trans hq (fun _ _ h => h))
  have hb := (hq.block _ (Array.getElem?_eq_some_iff.1 B3.out).1 id).trans B3.out
  clear B3
  have B3 := Lib.hid hb
  clear hb
  have hb := (hq.block _ (Array.getElem?_eq_some_iff.1 B4.out).1 id).trans B4.out
  clear B4
  have B4 := Lib.hid hb
  clear hb
  have B7 := Lib.hid (heap_alloc_new v0 (.cells #[.int .u32 ip, .int .i64 n] 29))
  clear hq Hm0
  refine (K1.out _ (Ht.out.low Hq1.out)).mono ?_
  rintro e v1 ⟨rfl, hp⟩
  have Hm1 := Lib.hid (Hq1.out.trans hp (fun _ _ h => h))
  have hb := (hp.block _ (Array.getElem?_eq_some_iff.1 B3.out).1 id).trans B3.out
  clear B3
  have B3 := Lib.hid hb
  clear hb
  have hb := (hp.block _ (Array.getElem?_eq_some_iff.1 B4.out).1 id).trans B4.out
  clear B4
  have B4 := Lib.hid hb
  clear hb
  have hb := (hp.block _ (Array.getElem?_eq_some_iff.1 B7.out).1 id).trans B7.out
  clear B7
  have B7 := Lib.hid hb
  clear hb
  clear hp Hq1
  go_wp2_with fail
  refine (K2.out _ (Ht.out.low Hm1.out)).mono ?_
  rintro e v2 ⟨rfl, hp⟩
  have Hm2 := Lib.hid (Hm1.out.trans hp (fun _ _ h => h))
  have hb := (hp.block _ (Array.getElem?_eq_some_iff.1 B3.out).1 id).trans B3.out
  clear B3
  have B3 := Lib.hid hb
  clear hb
  have hb := (hp.block _ (Array.getElem?_eq_some_iff.1 B4.out).1 id).trans B4.out
  clear B4
  have B4 := Lib.hid hb
  clear hb
  have hb := (hp.block _ (Array.getElem?_eq_some_iff.1 B7.out).1 id).trans B7.out
  clear B7
  have B7 := Lib.hid hb
  clear hb
  clear hp Hm1
  have cB30 : v2.cell? ⟨g3, 0, none⟩ = some (.int .u32 a) := by simp [World.cell?, B3.out]
  have cB31 : v2.cell? ⟨g3, 1, none⟩ = some (.int .u16 p) := by simp [World.cell?, B3.out]
  have lB3 : g3 < v2.heap.size := cell_lt cB30
  go_wp2_with fail
  clear cB30 cB31 lB3
  have hq : NoW v2 (v2.alloc (.cells #[.int .u32 a, .int .u16 p] 34)) := (Fp.refl _ _).alloc _
  have Hq3 := Lib.hid (Hm2.out.trans hq (fun _ _ h => h))
  have hb := (hq.block _ (Array.getElem?_eq_some_iff.1 B3.out).1 id).trans B3.out
  clear B3
  have B3 := Lib.hid hb
  clear hb
  have hb := (hq.block _ (Array.getElem?_eq_some_iff.1 B4.out).1 id).trans B4.out
  clear B4
  have B4 := Lib.hid hb
  clear hb
  have hb := (hq.block _ (Array.getElem?_eq_some_iff.1 B7.out).1 id).trans B7.out
  clear B7
  have B7 := Lib.hid hb
  clear hb
  have B8 := Lib.hid (heap_alloc_new v2 (.cells #[.int .u32 a, .int .u16 p] 34))
  clear hq Hm2
  refine (K3.out _ (Ht.out.low Hq3.out)).mono ?_
  rintro e v3 ⟨rfl, hp⟩
  have Hm3 := Lib.hid (Hq3.out.trans hp (fun _ _ h => h))
  have hb := (hp.block _ (Array.getElem?_eq_some_iff.1 B3.out).1 id).trans B3.out
  clear B3
  have B3 := Lib.hid hb
  clear hb
  have hb := (hp.block _ (Array.getElem?_eq_some_iff.1 B4.out).1 id).trans B4.out
  clear B4
  have B4 := Lib.hid hb
  clear hb
  have hb := (hp.block _ (Array.getElem?_eq_some_iff.1 B7.out).1 id).trans B7.out
  clear B7
  have B7 := Lib.hid hb
  clear hb
  have hb := (hp.block _ (Array.getElem?_eq_some_iff.1 B8.out).1 id).trans B8.out
  clear B8
  have B8 := Lib.hid hb
  clear hb
  clear hp Hq3
  go_wp2_with fail
  refine (K4.out _ (Ht.out.low Hm3.out)).mono ?_
  rintro e v4 ⟨rfl, hp⟩
  have Hm4 := Lib.hid (Hm3.out.trans hp (fun _ _ h => h))
  have hb := (hp.block _ (Array.getElem?_eq_some_iff.1 B3.out).1 id).trans B3.out
  clear B3
  have B3 := Lib.hid hb
  clear hb
  have hb := (hp.block _ (Array.getElem?_eq_some_iff.1 B4.out).1 id).trans B4.out
  clear B4
  have B4 := Lib.hid hb
  clear hb
  have hb := (hp.block _ (Array.getElem?_eq_some_iff.1 B7.out).1 id).trans B7.out
  clear B7
  have B7 := Lib.hid hb
  clear hb
  have hb := (hp.block _ (Array.getElem?_eq_some_iff.1 B8.out).1 id).trans B8.out
  clear B8
  have B8 := Lib.hid hb
  clear hb
  clear hp Hm3
  have cB70 : v4.cell? ⟨v0.heap.size, 0, none⟩ = some (.int .u32 ip) := by simp [World.cell?, B7.out]
  have cB71 : v4.cell? ⟨v0.heap.size, 1, none⟩ = some (.int .i64 n) := by simp [World.cell?, B7.out]
  have lB7 : v0.heap.size < v4.heap.size := cell_lt cB70
  go_wp2_with fail
  clear cB70 cB71 lB7
  refine (K5.out _ (Ht.out.low Hm4.out)).mono ?_
  rintro e v5 ⟨rfl, hp⟩
  have Hm5 := Lib.hid (Hm4.out.trans hp (fun _ _ h => h))
  have hb := (hp.block _ (Array.getElem?_eq_some_iff.1 B3.out).1 id).trans B3.out
  clear B3
  have B3 := Lib.hid hb
  clear hb
  have hb := (hp.block _ (Array.getElem?_eq_some_iff.1 B4.out).1 id).trans B4.out
  clear B4
  have B4 := Lib.hid hb
  clear hb
  have hb := (hp.block _ (Array.getElem?_eq_some_iff.1 B7.out).1 id).trans B7.out
  clear B7
  have B7 := Lib.hid hb
  clear hb
  have hb := (hp.block _ (Array.getElem?_eq_some_iff.1 B8.out).1 id).trans B8.out
  clear B8
  have B8 := Lib.hid hb
  clear hb
  clear hp Hm4
  go_wp2_with fail
  refine (K6.out _ (Ht.out.low Hm5.out)).mono ?_
  rintro e v6 ⟨rfl, hp⟩
  have Hm6 := Lib.hid (Hm5.out.trans hp (fun _ _ h => h))
  have hb := (hp.block _ (Array.getElem?_eq_some_iff.1 B3.out).1 id).trans B3.out
  clear B3
  have B3 := Lib.hid hb
  clear hb
  have hb := (hp.block _ (Array.getElem?_eq_some_iff.1 B4.out).1 id).trans B4.out
  clear B4
  have B4 := Lib.hid hb
  clear hb
  have hb := (hp.block _ (Array.getElem?_eq_some_iff.1 B7.out).1 id).trans B7.out
  clear B7
  have B7 := Lib.hid hb
  clear hb
  have hb := (hp.block _ (Array.getElem?_eq_some_iff.1 B8.out).1 id).trans B8.out
  clear B8
  have B8 := Lib.hid hb
  clear hb
  clear hp Hm5
  have cB80 : v6.cell? ⟨v2.heap.size, 0, none⟩ = some (.int .u32 a) := by simp [World.cell?, B8.out]
  have cB81 : v6.cell? ⟨v2.heap.size, 1, none⟩ = some (.int .u16 p) := by simp [World.cell?, B8.out]
  have lB8 : v2.heap.size < v6.heap.size := cell_lt cB80
  have cB30 : v6.cell? ⟨g3, 0, none⟩ = some (.int .u32 a) := by simp [World.cell?, B3.out]
  have cB31 : v6.cell? ⟨g3, 1, none⟩ = some (.int .u16 p) := by simp [World.cell?, B3.out]
  have lB3 : g3 < v6.heap.size := cell_lt cB30
  have cB70 : v6.cell? ⟨v0.heap.size, 0, none⟩ = some (.int .u32 ip) := by simp [World.cell?, B7.out]
  have cB71 : v6.cell? ⟨v0.heap.size, 1, none⟩ = some (.int .i64 n) := by simp [World.cell?, B7.out]
  have lB7 : v0.heap.size < v6.heap.size := cell_lt cB70
  go_wp2_with fail
  clear cB80 cB81 lB8 cB30 cB31 lB3 cB70 cB71 lB7
  have hq : NoW v6 (v6.alloc (.cells #[.int .u32 ip, .int .i64 n] 29)) := (Fp.refl _ _).alloc _
  have Hq7 := Lib.hid (Hm6.out.trans hq (fun _ _ h => h))
  have hb := (hq.block _ (Array.getElem?_eq_some_iff.1 B3.out).1 id).trans B3.out
  clear B3
  have B3 := Lib.hid hb
  clear hb
  have hb := (hq.block _ (Array.getElem?_eq_some_iff.1 B4.out).1 id).trans B4.out
  clear B4
  have B4 := Lib.hid hb
  clear hb
  have hb := (hq.block _ (Array.getElem?_eq_some_iff.1 B7.out).1 id).trans B7.out
  clear B7
  have B7 := Lib.hid hb
  clear hb
  have hb := (hq.block _ (Array.getElem?_eq_some_iff.1 B8.out).1 id).trans B8.out
  clear B8
  have B8 := Lib.hid hb
  clear hb
  have B12 := Lib.hid (heap_alloc_new v6 (.cells #[.int .u32 ip, .int .i64 n] 29))
  clear hq Hm6
  refine (K7.out _).mono ?_
  rintro e v7 ⟨rfl, hp⟩
  have Hm7 := Lib.hid (Hq7.out.trans hp (fun _ _ h => h))
  have hb := (hp.block _ (Array.getElem?_eq_some_iff.1 B3.out).1 id).trans B3.out
  clear B3
  have B3 := Lib.hid hb
  clear hb
  have hb := (hp.block _ (Array.getElem?_eq_some_iff.1 B4.out).1 id).trans B4.out
  clear B4
  have B4 := Lib.hid hb
  clear hb
  have hb := (hp.block _ (Array.getElem?_eq_some_iff.1 B7.out).1 id).trans B7.out
  clear B7
  have B7 := Lib.hid hb
  clear hb
  have hb := (hp.block _ (Array.getElem?_eq_some_iff.1 B8.out).1 id).trans B8.out
  clear B8
  have B8 := Lib.hid hb
  clear hb
  have hb := (hp.block _ (Array.getElem?_eq_some_iff.1 B12.out).1 id).trans B12.out
  clear B12
  have B12 := Lib.hid hb
  clear hb
  clear hp Hq7
  have cB70 : v7.cell? ⟨v0.heap.size, 0, none⟩ = some (.int .u32 ip) := by simp [World.cell?, B7.out]
  have cB71 : v7.cell? ⟨v0.heap.size, 1, none⟩ = some (.int .i64 n) := by simp [World.cell?, B7.out]
  have lB7 : v0.heap.size < v7.heap.size := cell_lt cB70
  have cB30 : v7.cell? ⟨g3, 0, none⟩ = some (.int .u32 a) := by simp [World.cell?, B3.out]
  have cB31 : v7.cell? ⟨g3, 1, none⟩ = some (.int .u16 p) := by simp [World.cell?, B3.out]
  have lB3 : g3 < v7.heap.size := cell_lt cB30
  go_wp2_with fail
  clear cB70 cB71 lB7 cB30 cB31 lB3
  refine (K8.out _).mono ?_
  rintro e v8 ⟨rfl, hp⟩
  have Hm8 := Lib.hid (Hm7.out.trans hp (fun _ _ h => h))
  have hb := (hp.block _ (Array.getElem?_eq_some_iff.1 B3.out).1 id).trans B3.out
  clear B3
  have B3 := Lib.hid hb
  clear hb
  have hb := (hp.block _ (Array.getElem?_eq_some_iff.1 B4.out).1 id).trans B4.out
  clear B4
  have B4 := Lib.hid hb
  clear hb
  have hb := (hp.block _ (Array.getElem?_eq_some_iff.1 B7.out).1 id).trans B7.out
  clear B7
  have B7 := Lib.hid hb
  clear hb
  have hb := (hp.block _ (Array.getElem?_eq_some_iff.1 B8.out).1 id).trans B8.out
  clear B8
  have B8 := Lib.hid hb
  clear hb
  have hb := (hp.block _ (Array.getElem?_eq_some_iff.1 B12.out).1 id).trans B12.out
  clear B12
  have B12 := Lib.hid hb
  clear hb
  clear hp Hm7
  go_wp2_with fail
  have c : v8.cell? ⟨g3, 0, none⟩ = some (.int .u32 a) := by simp [World.cell?, B3.out]
  have C30 := Lib.hid c
  clear c
  have c : v8.cell? ⟨g3, 1, none⟩ = some (.int .u16 p) := by simp [World.cell?, B3.out]
  have C31 := Lib.hid c
  clear c
  have c : v8.cell? ⟨g4, 0, none⟩ = some (.int .u32 a) := by simp [World.cell?, B4.out]
  have C40 := Lib.hid c
  clear c
  have c : v8.cell? ⟨g4, 1, none⟩ = some (.int .u16 q) := by simp [World.cell?, B4.out]
  have C41 := Lib.hid c
  clear c
  have l3 := cell_lt C30.out
  have l4 := cell_lt C40.out
  clear B3 B4 B7 B8 B12
  have Hw8 := Hm8
  refine wp_region_held_drew (S := fun wx => NoW v8 wx) (by kernel_rfl) (Fp.drew (Fp.refl _ _)) (fun hHeld => ?_)
  (refine take_at 0 (some 77) rfl rfl (by kernel_rfl) (by kernel_rfl) (by kernel_rfl) (fun _ _ _ h => h) (v := ?_) (by kernel_rfl) ?_ (by assumption) ?_; rotate_left; (focus (intro wS hSw; have d30 := (hSw.cell (p := ⟨g3, 0, none⟩) l3 id).trans C30.out; have d31 := (hSw.cell (p := ⟨g3, 1, none⟩) l3 id).trans C31.out; go_simp; try with_reducible rfl)); (try simp only [Act.put, List.setIfInBounds_toArray, List.set_cons_zero, List.set_cons_succ]))
  (refine take_at 1 (some 78) rfl rfl (by kernel_rfl) (by kernel_rfl) (by kernel_rfl) (fun _ _ _ h => h) (v := ?_) (by kernel_rfl) ?_ (by assumption) ?_; rotate_left; (focus (intro wS hSw; have d40 := (hSw.cell (p := ⟨g4, 0, none⟩) l4 id).trans C40.out; have d41 := (hSw.cell (p := ⟨g4, 1, none⟩) l4 id).trans C41.out; go_simp; try with_reducible rfl)); (try simp only [Act.put, List.setIfInBounds_toArray, List.set_cons_zero, List.set_cons_succ]))
  (refine take_at 3 (some 80) rfl rfl (by kernel_rfl) (by kernel_rfl) (by kernel_rfl) (fun _ _ _ h => h) (v := ?_) (by kernel_rfl) ?_ (by assumption) ?_; rotate_left; (focus (intro wS hSw; have d40 := (hSw.cell (p := ⟨g4, 0, none⟩) l4 id).trans C40.out; have d41 := (hSw.cell (p := ⟨g4, 1, none⟩) l4 id).trans C41.out; go_simp; try with_reducible rfl)); (try simp only [Act.put, List.setIfInBounds_toArray, List.set_cons_zero, List.set_cons_succ]))
  (refine take_at 4 (some 81) rfl rfl (by kernel_rfl) (by kernel_rfl) (by kernel_rfl) (fun _ _ _ h => h) (v := ?_) (by kernel_rfl) ?_ (by assumption) ?_; rotate_left; (focus (intro wS hSw; have d30 := (hSw.cell (p := ⟨g3, 0, none⟩) l3 id).trans C30.out; have d31 := (hSw.cell (p := ⟨g3, 1, none⟩) l3 id).trans C31.out; go_simp; try with_reducible rfl)); (try simp only [Act.put, List.setIfInBounds_toArray, List.set_cons_zero, List.set_cons_succ]))
  refine wpAnyH_ready (rs := [2]) (by kernel_rfl) (by simp) ?_
  refine AllReadyH.cons rfl (fun K hK => ?_) AllReadyH.nil
  go_simp
  go_at_call 26
  refine (K9.out _).mono ?_
  rintro e u1 ⟨rfl, hp⟩
  have hn1 : NoW v8 u1 := Fp.trans hHeld hp (fun _ _ h => h)
  skip
  clear hp hHeld
  refine hK.out _ _ hn1 (fun hHeld => ?_)
  clear hK K
  try simp only [Act.put, List.setIfInBounds_toArray, List.set_cons_zero, List.set_cons_succ]
  refine wpAnyH_ready (rs := [5]) (by kernel_rfl) (by simp) ?_
  refine AllReadyH.cons rfl (fun K hK => ?_) AllReadyH.nil
  go_simp
  go_at_call 26
  refine (K10.out _).mono ?_
  rintro e u2 ⟨rfl, hp⟩
  have hn2 : NoW v8 u2 := Fp.trans hHeld hp (fun _ _ h => h)
  skip
  clear hp hHeld hn1
  refine hK.out _ _ hn2 (fun hHeld => ?_)
  clear hK K
  try simp only [Act.put, List.setIfInBounds_toArray, List.set_cons_zero, List.set_cons_succ]
  (refine take_at 6 (some 14) rfl rfl (by kernel_rfl) (by kernel_rfl) (by kernel_rfl) (fun _ _ _ h => h) (v := ?_) (by kernel_rfl) ?_ (by assumption) ?_; rotate_left; (focus (intro wS hSw; skip; go_simp; try with_reducible rfl)); (try simp only [Act.put, List.setIfInBounds_toArray, List.set_cons_zero, List.set_cons_succ]))
  (refine take_at 7 (some 15) rfl rfl (by kernel_rfl) (by kernel_rfl) (by kernel_rfl) (fun _ _ _ h => h) (v := ?_) (by kernel_rfl) ?_ (by assumption) ?_; rotate_left; (focus (intro wS hSw; skip; go_simp; try with_reducible rfl)); (try simp only [Act.put, List.setIfInBounds_toArray, List.set_cons_zero, List.set_cons_succ]))
  refine wpAnyH_done (by kernel_rfl) ?_ _
  go_wp2_with fail
  have D30 := Lib.hid ((hn2.cell (p := ⟨g3, 0, none⟩) l3 id).trans C30.out)
  have D31 := Lib.hid ((hn2.cell (p := ⟨g3, 1, none⟩) l3 id).trans C31.out)
  have D40 := Lib.hid ((hn2.cell (p := ⟨g4, 0, none⟩) l4 id).trans C40.out)
  have D41 := Lib.hid ((hn2.cell (p := ⟨g4, 1, none⟩) l4 id).trans C41.out)
  have Hu2 := Lib.hid (Hw8.out.trans hn2 (fun _ _ h => h))
  clear l3 l4 C30 C31 C40 C41 hn2
  have l3 := cell_lt D30.out
  have l4 := cell_lt D40.out
  refine wp_region_held_drew (S := fun wx => NoW u2 wx) (by kernel_rfl) (Fp.drew (Fp.refl _ _)) (fun hHeld => ?_)
  (refine take_at 0 (some 83) rfl rfl (by kernel_rfl) (by kernel_rfl) (by kernel_rfl) (fun _ _ _ h => h) (v := ?_) (by kernel_rfl) ?_ (by assumption) ?_; rotate_left; (focus (intro wS hSw; have d30 := (hSw.cell (p := ⟨g3, 0, none⟩) l3 id).trans D30.out; have d31 := (hSw.cell (p := ⟨g3, 1, none⟩) l3 id).trans D31.out; go_simp; try with_reducible rfl)); (try simp only [Act.put, List.setIfInBounds_toArray, List.set_cons_zero, List.set_cons_succ]))
  (refine take_at 2 (some 85) rfl rfl (by kernel_rfl) (by kernel_rfl) (by kernel_rfl) (fun _ _ _ h => h) (v := ?_) (by kernel_rfl) ?_ (by assumption) ?_; rotate_left; (focus (intro wS hSw; have d40 := (hSw.cell (p := ⟨g4, 0, none⟩) l4 id).trans D40.out; have d41 := (hSw.cell (p := ⟨g4, 1, none⟩) l4 id).trans D41.out; go_simp; try with_reducible rfl)); (try simp only [Act.put, List.setIfInBounds_toArray, List.set_cons_zero, List.set_cons_succ]))
  (refine take_at 5 (some 88) rfl rfl (by kernel_rfl) (by kernel_rfl) (by kernel_rfl) (fun _ _ _ h => h) (v := ?_) (by kernel_rfl) ?_ (by assumption) ?_; rotate_left; (focus (intro wS hSw; have d30 := (hSw.cell (p := ⟨g3, 0, none⟩) l3 id).trans D30.out; have d31 := (hSw.cell (p := ⟨g3, 1, none⟩) l3 id).trans D31.out; go_simp; try with_reducible rfl)); (try simp only [Act.put, List.setIfInBounds_toArray, List.set_cons_zero, List.set_cons_succ]))
  (refine take_at 6 (some 89) rfl rfl (by kernel_rfl) (by kernel_rfl) (by kernel_rfl) (fun _ _ _ h => h) (v := ?_) (by kernel_rfl) ?_ (by assumption) ?_; rotate_left; (focus (intro wS hSw; have d40 := (hSw.cell (p := ⟨g4, 0, none⟩) l4 id).trans D40.out; have d41 := (hSw.cell (p := ⟨g4, 1, none⟩) l4 id).trans D41.out; go_simp; try with_reducible rfl)); (try simp only [Act.put, List.setIfInBounds_toArray, List.set_cons_zero, List.set_cons_succ]))
  (refine take_at 7 (some 90) rfl rfl (by kernel_rfl) (by kernel_rfl) (by kernel_rfl) (fun _ _ _ h => h) (v := ?_) (by kernel_rfl) ?_ (by assumption) ?_; rotate_left; (focus (intro wS hSw; skip; go_simp; try with_reducible rfl)); (try simp only [Act.put, List.setIfInBounds_toArray, List.set_cons_zero, List.set_cons_succ]))
  refine wpAnyH_ready (rs := [1]) (by kernel_rfl) (by simp) ?_
  refine AllReadyH.cons rfl (fun K hK => ?_) AllReadyH.nil
  go_simp
  go_at_call 19
  refine (K1.out _ (Ht.out.low (Hu2.out.trans hHeld (fun _ _ h => h)))).mono ?_
  rintro e t1 ⟨rfl, hp⟩
  have hn1 : NoW u2 t1 := Fp.trans hHeld hp (fun _ _ h => h)
  skip
  clear hp hHeld
  refine hK.out _ _ hn1 (fun hHeld => ?_)
  clear hK K
  try simp only [Act.put, List.setIfInBounds_toArray, List.set_cons_zero, List.set_cons_succ]
  refine wpAnyH_ready (rs := [3]) (by kernel_rfl) (by simp) ?_
  refine AllReadyH.cons rfl (fun K hK => ?_) AllReadyH.nil
  go_simp
  go_at_call 19
  refine (K11.out _ (Ht.out.low (Hu2.out.trans hHeld (fun _ _ h => h)))).mono ?_
  rintro e t2 ⟨rfl, hp⟩
  have hn2 : NoW u2 t2 := Fp.trans hHeld hp (fun _ _ h => h)
  skip
  clear hp hHeld hn1
  refine hK.out _ _ hn2 (fun hHeld => ?_)
  clear hK K
  try simp only [Act.put, List.setIfInBounds_toArray, List.set_cons_zero, List.set_cons_succ]
  (refine take_at 4 (some 87) rfl rfl (by kernel_rfl) (by kernel_rfl) (by kernel_rfl) (fun _ _ _ h => h) (v := ?_) (by kernel_rfl) ?_ (by assumption) ?_; rotate_left; (focus (intro wS hSw; skip; go_simp; try with_reducible rfl)); (try simp only [Act.put, List.setIfInBounds_toArray, List.set_cons_zero, List.set_cons_succ]))
  (refine take_at 8 (some 91) rfl rfl (by kernel_rfl) (by kernel_rfl) (by kernel_rfl) (fun _ _ _ h => h) (v := ?_) (by kernel_rfl) ?_ (by assumption) ?_; rotate_left; (focus (intro wS hSw; skip; go_simp; try with_reducible rfl)); (try simp only [Act.put, List.setIfInBounds_toArray, List.set_cons_zero, List.set_cons_succ]))
  (refine take_at 9 (some 92) rfl rfl (by kernel_rfl) (by kernel_rfl) (by kernel_rfl) (fun _ _ _ h => h) (v := ?_) (by kernel_rfl) ?_ (by assumption) ?_; rotate_left; (focus (intro wS hSw; skip; go_simp; try with_reducible rfl)); (try simp only [Act.put, List.setIfInBounds_toArray, List.set_cons_zero, List.set_cons_succ]))
  (refine take_at 10 (some 93) rfl rfl (by kernel_rfl) (by kernel_rfl) (by kernel_rfl) (fun _ _ _ h => h) (v := ?_) (by kernel_rfl) ?_ (by assumption) ?_; rotate_left; (focus (intro wS hSw; have d30 := (hSw.cell (p := ⟨g3, 0, none⟩) l3 id).trans D30.out; have d31 := (hSw.cell (p := ⟨g3, 1, none⟩) l3 id).trans D31.out; go_simp; try with_reducible rfl)); (try simp only [Act.put, List.setIfInBounds_toArray, List.set_cons_zero, List.set_cons_succ]))
  (refine take_at 11 (some 94) rfl rfl (by kernel_rfl) (by kernel_rfl) (by kernel_rfl) (fun _ _ _ h => h) (v := ?_) (by kernel_rfl) ?_ (by assumption) ?_; rotate_left; (focus (intro wS hSw; have d40 := (hSw.cell (p := ⟨g4, 0, none⟩) l4 id).trans D40.out; have d41 := (hSw.cell (p := ⟨g4, 1, none⟩) l4 id).trans D41.out; go_simp; try with_reducible rfl)); (try simp only [Act.put, List.setIfInBounds_toArray, List.set_cons_zero, List.set_cons_succ]))
  (refine take_at 12 (some 95) rfl rfl (by kernel_rfl) (by kernel_rfl) (by kernel_rfl) (fun _ _ _ h => h) (v := ?_) (by kernel_rfl) ?_ (by assumption) ?_; rotate_left; (focus (intro wS hSw; skip; go_simp; try with_reducible rfl)); (try simp only [Act.put, List.setIfInBounds_toArray, List.set_cons_zero, List.set_cons_succ]))
  (refine take_at 13 (some 96) rfl rfl (by kernel_rfl) (by kernel_rfl) (by kernel_rfl) (fun _ _ _ h => h) (v := ?_) (by kernel_rfl) ?_ (by assumption) ?_; rotate_left; (focus (intro wS hSw; skip; go_simp; try with_reducible rfl)); (try simp only [Act.put, List.setIfInBounds_toArray, List.set_cons_zero, List.set_cons_succ]))
  (refine take_at 14 (some 97) rfl rfl (by kernel_rfl) (by kernel_rfl) (by kernel_rfl) (fun _ _ _ h => h) (v := ?_) (by kernel_rfl) ?_ (by assumption) ?_; rotate_left; (focus (intro wS hSw; skip; go_simp; try with_reducible rfl)); (try simp only [Act.put, List.setIfInBounds_toArray, List.set_cons_zero, List.set_cons_succ]))
  (refine take_at 15 (some 98) rfl rfl (by kernel_rfl) (by kernel_rfl) (by kernel_rfl) (fun _ _ _ h => h) (v := ?_) (by kernel_rfl) ?_ (by assumption) ?_; rotate_left; (focus (intro wS hSw; skip; go_simp; try with_reducible rfl)); (try simp only [Act.put, List.setIfInBounds_toArray, List.set_cons_zero, List.set_cons_succ]))
  (refine take_at 16 (some 99) rfl rfl (by kernel_rfl) (by kernel_rfl) (by kernel_rfl) (fun _ _ _ h => h) (v := ?_) (by kernel_rfl) ?_ (by assumption) ?_; rotate_left; (focus (intro wS hSw; skip; go_simp; try with_reducible rfl)); (try simp only [Act.put, List.setIfInBounds_toArray, List.set_cons_zero, List.set_cons_succ]))
  (refine take_at 17 (some 100) rfl rfl (by kernel_rfl) (by kernel_rfl) (by kernel_rfl) (fun _ _ _ h => h) (v := ?_) (by kernel_rfl) ?_ (by assumption) ?_; rotate_left; (focus (intro wS hSw; skip; go_simp; try with_reducible rfl)); (try simp only [Act.put, List.setIfInBounds_toArray, List.set_cons_zero, List.set_cons_succ]))
  (refine take_at 18 (some 101) rfl rfl (by kernel_rfl) (by kernel_rfl) (by kernel_rfl) (fun _ _ _ h => h) (v := ?_) (by kernel_rfl) ?_ (by assumption) ?_; rotate_left; (focus (intro wS hSw; skip; go_simp; try with_reducible rfl)); (try simp only [Act.put, List.setIfInBounds_toArray, List.set_cons_zero, List.set_cons_succ]))
  (refine take_at 19 (some 102) rfl rfl (by kernel_rfl) (by kernel_rfl) (by kernel_rfl) (fun _ _ _ h => h) (v := ?_) (by kernel_rfl) ?_ (by assumption) ?_; rotate_left; (focus (intro wS hSw; skip; go_simp; try with_reducible rfl)); (try simp only [Act.put, List.setIfInBounds_toArray, List.set_cons_zero, List.set_cons_succ]))
  (refine take_at 20 (some 103) rfl rfl (by kernel_rfl) (by kernel_rfl) (by kernel_rfl) (fun _ _ _ h => h) (v := ?_) (by kernel_rfl) ?_ (by assumption) ?_; rotate_left; (focus (intro wS hSw; skip; go_simp; try with_reducible rfl)); (try simp only [Act.put, List.setIfInBounds_toArray, List.set_cons_zero, List.set_cons_succ]))
  (refine take_at 21 (some 104) rfl rfl (by kernel_rfl) (by kernel_rfl) (by kernel_rfl) (fun _ _ _ h => h) (v := ?_) (by kernel_rfl) ?_ (by assumption) ?_; rotate_left; (focus (intro wS hSw; skip; go_simp; try with_reducible rfl)); (try simp only [Act.put, List.setIfInBounds_toArray, List.set_cons_zero, List.set_cons_succ]))
  (refine take_at 22 (some 105) rfl rfl (by kernel_rfl) (by kernel_rfl) (by kernel_rfl) (fun _ _ _ h => h) (v := ?_) (by kernel_rfl) ?_ (by assumption) ?_; rotate_left; (focus (intro wS hSw; skip; go_simp; try with_reducible rfl)); (try simp only [Act.put, List.setIfInBounds_toArray, List.set_cons_zero, List.set_cons_succ]))
  (refine take_at 23 (some 106) rfl rfl (by kernel_rfl) (by kernel_rfl) (by kernel_rfl) (fun _ _ _ h => h) (v := ?_) (by kernel_rfl) ?_ (by assumption) ?_; rotate_left; (focus (intro wS hSw; skip; go_simp; try with_reducible rfl)); (try simp only [Act.put, List.setIfInBounds_toArray, List.set_cons_zero, List.set_cons_succ]))
  (refine drop_at 24 (some 107) rfl rfl (by kernel_rfl) (by kernel_rfl) (by kernel_rfl) (fun _ _ _ h => h) (by kernel_rfl) (by assumption) ?_; (try simp only [Act.put, List.setIfInBounds_toArray, List.set_cons_zero, List.set_cons_succ]))
  (refine take_at 25 (some 108) rfl rfl (by kernel_rfl) (by kernel_rfl) (by kernel_rfl) (fun _ _ _ h => h) (v := ?_) (by kernel_rfl) ?_ (by assumption) ?_; rotate_left; (focus (intro wS hSw; skip; go_simp; try with_reducible rfl)); (try simp only [Act.put, List.setIfInBounds_toArray, List.set_cons_zero, List.set_cons_succ]))
  (refine take_at 26 (some 109) rfl rfl (by kernel_rfl) (by kernel_rfl) (by kernel_rfl) (fun _ _ _ h => h) (v := ?_) (by kernel_rfl) ?_ (by assumption) ?_; rotate_left; (focus (intro wS hSw; skip; go_simp; try with_reducible rfl)); (try simp only [Act.put, List.setIfInBounds_toArray, List.set_cons_zero, List.set_cons_succ]))
  (refine take_at 27 (some 110) rfl rfl (by kernel_rfl) (by kernel_rfl) (by kernel_rfl) (fun _ _ _ h => h) (v := ?_) (by kernel_rfl) ?_ (by assumption) ?_; rotate_left; (focus (intro wS hSw; skip; go_simp; try with_reducible rfl)); (try simp only [Act.put, List.setIfInBounds_toArray, List.set_cons_zero, List.set_cons_succ]))
  (refine take_at 28 (some 111) rfl rfl (by kernel_rfl) (by kernel_rfl) (by kernel_rfl) (fun _ _ _ h => h) (v := ?_) (by kernel_rfl) ?_ (by assumption) ?_; rotate_left; (focus (intro wS hSw; skip; go_simp; try with_reducible rfl)); (try simp only [Act.put, List.setIfInBounds_toArray, List.set_cons_zero, List.set_cons_succ]))
  refine wpAnyH_ready (rs := [29]) (by kernel_rfl) (by simp) ?_
  refine AllReadyH.cons rfl (fun K hK => ?_) AllReadyH.nil
  go_simp
  go_at_call 8
  refine (named_ok _ (Ht.out.low (Hu2.out.trans hHeld (fun _ _ h => h)))).mono ?_
  rintro e t3 ⟨rfl, hp⟩
  have hn3 : NoW u2 t3 := Fp.trans hHeld hp (fun _ _ h => h)
  skip
  clear hp hHeld hn2
  refine hK.out _ _ hn3 (fun hHeld => ?_)
  clear hK K
  try simp only [Act.put, List.setIfInBounds_toArray, List.set_cons_zero, List.set_cons_succ]
  (refine take_at 30 (some 113) rfl rfl (by kernel_rfl) (by kernel_rfl) (by kernel_rfl) (fun _ _ _ h => h) (v := ?_) (by kernel_rfl) ?_ (by assumption) ?_; rotate_left; (focus (intro wS hSw; skip; go_simp; try with_reducible rfl)); (try simp only [Act.put, List.setIfInBounds_toArray, List.set_cons_zero, List.set_cons_succ]))
  (refine take_at 31 (some 6) rfl rfl (by kernel_rfl) (by kernel_rfl) (by kernel_rfl) (fun _ _ _ h => h) (v := ?_) (by kernel_rfl) ?_ (by assumption) ?_; rotate_left; (focus (intro wS hSw; skip; go_simp; try with_reducible rfl)); (try simp only [Act.put, List.setIfInBounds_toArray, List.set_cons_zero, List.set_cons_succ]))
  refine wpAnyH_done (by kernel_rfl) ?_ _
  go_wp2_with fail
  go_ret
  exact ⟨rfl, Hu2.out.trans hn3 (fun _ _ h => h)⟩

theorem walk_AddrsBack (w : World) (ht : Tb w) (v0 v1 v2 : Value) (g0 : Good Tryd.prog w 34 v0) (g1 : Good Tryd.prog w 34 v1) (g2 : Good Tryd.prog w 5 v2) :
    Calls Tryd.prog 7 #[v0, v1, v2] w (Ret1 (.bool true) w) := by
  obtain ⟨a, p, rfl, ha, hp⟩ := ep_open g0
  obtain ⟨b, q, rfl, hb, hq⟩ := ep_open g1
  obtain ⟨k, rfl, hk⟩ := u8_open Tryd.underlying5 g2
  have hipl : wholeA a (k % 33) < 4294967296 := Nat.lt_of_le_of_lt (wholeA_le _ _) ha
  have hn : k % 33 ≤ 32 := by omega
  have hmay : mayB (wholeA a (k % 33)) ((k % 33 : Nat) : Int) = true := by
    unfold mayB wholeA
    rw [decide_eq_true_eq]
    exact ⟨by omega, by omega, by rw [Int.toNat_natCast]; exact Nat.mul_mod_left _ _⟩
  have hhas : hasB (wholeA a (k % 33)) ((k % 33 : Nat) : Int) a = true := by
    unfold hasB
    rw [hmay, Bool.true_and, decide_eq_true_eq, Int.toNat_natCast]
    unfold wholeA
    rw [Nat.mul_div_cancel _ (Nat.two_pow_pos _)]
  have l1 := addrT_len ha
  have l2 := addrT_len hipl
  have l3 := dec_len 5 p (by omega) (by omega)
  have l4 := dec_len 5 (k % 33) (by omega) (by omega)
  have k0 := fun W => whole_ok a k ha hk W
  have k1 := fun W hW => point_text a ha p hp W hW
  have k2 := fun W hW => ad_point (withT 58 a p) (by unfold withT; simp; omega) W hW
  rw [(withOf_some (c := 58) (M := 65535) (by decide) (fun u => dec_no58)).2 ⟨rfl, ha, by omega⟩] at k2
  have k3 := fun W hW => ad_text a ha W hW
  have k4 := fun W hW => ad_parse (addrT a) (by omega) W hW
  rw [addrOf_some.2 ⟨rfl, ha⟩] at k4
  have k5 := fun W hW => prefix_text _ hipl _ hmay W hW
  have k6 := fun W hW => ad_prefix (withT 47 (wholeA a (k % 33)) (k % 33)) (by unfold withT; simp; omega) W hW
  rw [(withOf_some (c := 47) (M := 32) (by decide) (fun u => dec_no47)).2 ⟨rfl, hipl, hn⟩] at k6
  have e6 : pfV (some (wholeA a (k % 33), k % 33)) = .tuple #[.agg #[.int .u32 (wholeA a (k % 33) : Nat), .int .i64 ((k % 33 : Nat) : Int)], .int .i64 0] := by simp only [pfV, hmay, if_true]
  rw [e6] at k6
  have k7 := fun W => may_ok _ hipl ((k % 33 : Nat) : Int) W
  rw [hmay] at k7
  have k8 := fun W => has_ok _ hipl ((k % 33 : Nat) : Int) a ha W
  rw [hhas] at k8
  have k9 := fun W => less_ok a p b q W
  have k10 := fun W => less_ok b q a p W
  have k11 := fun W hW => point_text b hb q hq W hW
  have hne : ¬ (a = b ∧ p = q) → (withT 58 a p == withT 58 b q) = false := fun h => beq_eq_false_iff_ne.2 fun e => h (withT_inj (by decide) (fun u => dec_no58) ha hb e)
  by_cases hab : a = b
  · subst hab
    by_cases hpq : p = q
    · subst hpq
      rw [show decide (a < a ∨ a = a ∧ p < p) = false from by simp] at k9 k10
      exact back_e w ht a p _ _ k _ _ _ [] k0 k1 k2 k3 k4 k5 k6 k7 k8 k9 k10 k11
    · have hq : ((p : Int) == (q : Int)) = false := beq_eq_false_iff_ne.2 (by omega)
      by_cases hlt : p < q
      · rw [show decide (a < a ∨ a = a ∧ p < q) = true from by simp [hlt]] at k9
        rw [show decide (a < a ∨ a = a ∧ q < p) = false from by simp; omega] at k10
        exact back_l2 w ht a p q _ _ k _ _ _ _ hq (hne (by omega)) k0 k1 k2 k3 k4 k5 k6 k7 k8 k9 k10 k11
      · rw [show decide (a < a ∨ a = a ∧ p < q) = false from by simp; omega] at k9
        rw [show decide (a < a ∨ a = a ∧ q < p) = true from by simp; omega] at k10
        exact back_m2 w ht a p q _ _ k _ _ _ _ hq (hne (by omega)) k0 k1 k2 k3 k4 k5 k6 k7 k8 k9 k10 k11
  · have hq : ((a : Int) == (b : Int)) = false := beq_eq_false_iff_ne.2 (by omega)
    by_cases hlt : a < b
    · rw [show decide (a < b ∨ a = b ∧ p < q) = true from by simp [hlt]] at k9
      rw [show decide (b < a ∨ b = a ∧ q < p) = false from by simp; omega] at k10
      exact back_l1 w ht a p b q _ _ k _ _ _ _ hq (hne (by omega)) k0 k1 k2 k3 k4 k5 k6 k7 k8 k9 k10 k11
    · rw [show decide (a < b ∨ a = b ∧ p < q) = false from by simp; omega] at k9
      rw [show decide (b < a ∨ b = a ∧ q < p) = true from by simp; omega] at k10
      exact back_m1 w ht a p b q _ _ k _ _ _ _ hq (hne (by omega)) k0 k1 k2 k3 k4 k5 k6 k7 k8 k9 k10 k11
end Go.Proofs.YtgfmeincfeelmaaDoor
