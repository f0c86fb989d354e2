/- Chapter 03: AddrsTell's walk (written by gentell.py). -/
import Derived.Test.YtgfmeincfeelmaaDoorLpW
import Derived.Test.YtgfmeincfeelmaaDoorSeeA
import Derived.Test.YtgfmeincfeelmaaDoorTake
namespace Go.Proofs.YtgfmeincfeelmaaDoor
set_option linter.unusedVariables false
set_option linter.unusedSimpArgs false
open Go.RowKit Go.Lib Go.Sort

theorem ret_same {P : Program} {f : FuncId} {args : Array Value} {v : Value} {w : World} (h : Calls P f args w fun e w' => e = .returned v ∧ w' = w) : Calls P f args w (Ret1 v w) :=
  h.mono fun e w' ⟨h1, h2⟩ => ⟨h1, h2 ▸ Fp.refl _ _⟩

theorem box3 (w : World) (A B C : Obj) : (((w.alloc A).alloc B).alloc C).heap[w.heap.size]? = some A ∧ (((w.alloc A).alloc B).alloc C).heap[w.heap.size + 1]? = some B ∧ (((w.alloc A).alloc B).alloc C).heap[w.heap.size + 2]? = some C := by
  refine ⟨?_, ?_, ?_⟩
  · exact ((((Fp.refl (fun _ => False) (w.alloc A)).alloc B).alloc C).block w.heap.size (by simp) id).trans (heap_alloc_new w A)
  · exact (((Fp.refl (fun _ => False) ((w.alloc A).alloc B)).alloc C).block (w.heap.size + 1) (by simp) id).trans (by simpa using heap_alloc_new (w.alloc A) B)
  · simpa using heap_alloc_new ((w.alloc A).alloc B) C

set_option maxHeartbeats 4000000 in
set_option maxRecDepth 100000 in
theorem tell_core (w : World) (ht : Tb w) (a p b q ip bits : Int) (x1 x2 x3 : List UInt8) (bm bh bl be : Bool)
    (k1 : ∀ W, Tb W → Calls Tryd.prog 17 #[.int .u32 a] W (Ret1 (str x1) W))
    (k2 : ∀ W, Calls Tryd.prog 20 #[.int .u32 a] W (Ret1 (str x1) W))
    (k3 : ∀ W, Tb W → Calls Tryd.prog 19 #[.agg #[.int .u32 a, .int .u16 p]] W (Ret1 (str x2) W))
    (k4 : ∀ W, Calls Tryd.prog 21 #[.agg #[.int .u32 a, .int .u16 p]] W (Ret1 (str x2) W))
    (k5 : ∀ W, Tb W → Calls Tryd.prog 18 #[.agg #[.int .u32 ip, .int .i64 bits]] W (Ret1 (str x3) W))
    (k6 : ∀ W, Calls Tryd.prog 22 #[.agg #[.int .u32 ip, .int .i64 bits]] W (Ret1 (str x3) W))
    (k7 : ∀ W, Calls Tryd.prog 23 #[.agg #[.int .u32 ip, .int .i64 bits]] W (Ret1 (.bool bm) W))
    (k8 : ∀ W, Calls Tryd.prog 24 #[.agg #[.int .u32 ip, .int .i64 bits]] W (Ret1 (.bool bm) W))
    (k9 : ∀ W, Calls Tryd.prog 16 #[.agg #[.int .u32 ip, .int .i64 bits], .int .u32 a] W (Ret1 (.bool bh) W))
    (k10 : ∀ W, Calls Tryd.prog 25 #[.agg #[.int .u32 ip, .int .i64 bits], .int .u32 a] W (Ret1 (.bool bh) W))
    (k11 : ∀ W, Calls Tryd.prog 26 #[.agg #[.int .u32 a, .int .u16 p], .agg #[.int .u32 b, .int .u16 q]] W (Ret1 (.bool bl) W))
    (k12 : ∀ W, Calls Tryd.prog 27 #[.agg #[.int .u32 a, .int .u16 p], .agg #[.int .u32 b, .int .u16 q]] W (Ret1 (.bool bl) W))
    (k13 : ∀ W, Calls Tryd.prog 26 #[.agg #[.int .u32 a, .int .u16 p], .agg #[.int .u32 a, .int .u16 p]] W (Ret1 (.bool be) W))
    (k14 : ∀ W, Calls Tryd.prog 27 #[.agg #[.int .u32 a, .int .u16 p], .agg #[.int .u32 a, .int .u16 p]] W (Ret1 (.bool be) W)) :
    Calls Tryd.prog 6 #[.agg #[.int .u32 a, .int .u16 p], .agg #[.int .u32 b, .int .u16 q], .agg #[.int .u32 ip, .int .i64 bits]] w (Ret1 (.bool true) w) := by
  have Ht := Lib.hid ht
  have K1 := Lib.hid k1
  have K2 := Lib.hid k2
  have K3 := Lib.hid k3
  have K4 := Lib.hid k4
  have K5 := Lib.hid k5
  have K6 := Lib.hid k6
  have K7 := Lib.hid k7
  have K8 := Lib.hid k8
  have K9 := Lib.hid k9
  have K10 := Lib.hid k10
  have K11 := Lib.hid k11
  have K12 := Lib.hid k12
  have K13 := Lib.hid k13
  have K14 := Lib.hid k14
  clear ht k1 k2 k3 k4 k5 k6 k7 k8 k9 k10 k11 k12 k13 k14
  go_enter Tryd.func6, Tryd.ntmps6
  go_wp2_with fail
  have hw0 : NoW w (((w.alloc (.cells #[.int .u32 a, .int .u16 p] 34)).alloc (.cells #[.int .u32 b, .int .u16 q] 34)).alloc (.cells #[.int .u32 ip, .int .i64 bits] 29)) := (((Fp.refl _ _).alloc _).alloc _).alloc _
  obtain ⟨hb3, hb4, hb5⟩ := box3 w (.cells #[.int .u32 a, .int .u16 p] 34) (.cells #[.int .u32 b, .int .u16 q] 34) (.cells #[.int .u32 ip, .int .i64 bits] 29)
  generalize (((w.alloc (.cells #[.int .u32 a, .int .u16 p] 34)).alloc (.cells #[.int .u32 b, .int .u16 q] 34)).alloc (.cells #[.int .u32 ip, .int .i64 bits] 29)) = w0 at *
  have c30 : w0.cell? ⟨w.heap.size, 0, none⟩ = some (.int .u32 a) := by simp [World.cell?, hb3]
  have c31 : w0.cell? ⟨w.heap.size, 1, none⟩ = some (.int .u16 p) := by simp [World.cell?, hb3]
  have c40 : w0.cell? ⟨w.heap.size + 1, 0, none⟩ = some (.int .u32 b) := by simp [World.cell?, hb4]
  have c41 : w0.cell? ⟨w.heap.size + 1, 1, none⟩ = some (.int .u16 q) := by simp [World.cell?, hb4]
  have c50 : w0.cell? ⟨w.heap.size + 2, 0, none⟩ = some (.int .u32 ip) := by simp [World.cell?, hb5]
  have c51 : w0.cell? ⟨w.heap.size + 2, 1, none⟩ = some (.int .i64 bits) := by simp [World.cell?, hb5]
  clear hb3 hb4 hb5
  have l3 := cell_lt c30
  have l4 := cell_lt c40
  have l5 := cell_lt c50
  generalize w.heap.size + 2 = g5 at *
  generalize w.heap.size + 1 = g4 at *
  generalize w.heap.size = g3 at *
  have Hw0 := Lib.hid hw0
  have C30 := Lib.hid c30
  have C31 := Lib.hid c31
  have C40 := Lib.hid c40
  have C41 := Lib.hid c41
  have C50 := Lib.hid c50
  have C51 := Lib.hid c51
  clear hw0 c30 c31 c40 c41 c50 c51
  refine wp_region_held_drew (S := fun wx => NoW w0 wx) (by kernel_rfl) (Fp.drew (Fp.refl _ _)) (fun hHeld => ?_)
  (refine take_at 0 (some 7) rfl rfl (by kernel_rfl) (by kernel_rfl) (by kernel_rfl) (fun _ _ _ h => h) (v := ?_) (by kernel_rfl) ?_ (by assumption) ?_; rotate_left; (focus (intro wS hSw; skip; go_simp; try with_reducible rfl)); (try simp only [Act.put, List.setIfInBounds_toArray, List.set_cons_zero, List.set_cons_succ]))
  (refine take_at 1 (some 8) rfl rfl (by kernel_rfl) (by kernel_rfl) (by kernel_rfl) (fun _ _ _ h => h) (v := ?_) (by kernel_rfl) ?_ (by assumption) ?_; rotate_left; (focus (intro wS hSw; have d30 := (hSw.cell (p := ⟨g3, 0, none⟩) l3 id).trans C30.out; have d31 := (hSw.cell (p := ⟨g3, 1, none⟩) l3 id).trans C31.out; go_simp; try with_reducible rfl)); (try simp only [Act.put, List.setIfInBounds_toArray, List.set_cons_zero, List.set_cons_succ]))
  (refine take_at 3 (some 10) rfl rfl (by kernel_rfl) (by kernel_rfl) (by kernel_rfl) (fun _ _ _ h => h) (v := ?_) (by kernel_rfl) ?_ (by assumption) ?_; rotate_left; (focus (intro wS hSw; skip; go_simp; try with_reducible rfl)); (try simp only [Act.put, List.setIfInBounds_toArray, List.set_cons_zero, List.set_cons_succ]))
  (refine take_at 4 (some 11) rfl rfl (by kernel_rfl) (by kernel_rfl) (by kernel_rfl) (fun _ _ _ h => h) (v := ?_) (by kernel_rfl) ?_ (by assumption) ?_; rotate_left; (focus (intro wS hSw; have d30 := (hSw.cell (p := ⟨g3, 0, none⟩) l3 id).trans C30.out; have d31 := (hSw.cell (p := ⟨g3, 1, none⟩) l3 id).trans C31.out; go_simp; try with_reducible rfl)); (try simp only [Act.put, List.setIfInBounds_toArray, List.set_cons_zero, List.set_cons_succ]))
  refine wpAnyH_ready (rs := [2]) (by kernel_rfl) (by simp) ?_
  refine AllReadyH.cons rfl (fun K hK => ?_) AllReadyH.nil
  go_simp
  go_at_call 17
  refine (K1.out _ (Ht.out.low (Hw0.out.trans hHeld (fun _ _ h => h)))).mono ?_
  rintro e u1 ⟨rfl, hp⟩
  have hn1 : NoW w0 u1 := Fp.trans hHeld hp (fun _ _ h => h)
  skip
  clear hp hHeld
  refine hK.out _ _ hn1 (fun hHeld => ?_)
  clear hK K
  try simp only [Act.put, List.setIfInBounds_toArray, List.set_cons_zero, List.set_cons_succ]
  refine wpAnyH_ready (rs := [5]) (by kernel_rfl) (by simp) ?_
  refine AllReadyH.cons rfl (fun K hK => ?_) AllReadyH.nil
  go_simp
  go_at_call 20
  refine (K2.out _).mono ?_
  rintro e u2 ⟨rfl, hp⟩
  have hn2 : NoW w0 u2 := Fp.trans hHeld hp (fun _ _ h => h)
  skip
  clear hp hHeld hn1
  refine hK.out _ _ hn2 (fun hHeld => ?_)
  clear hK K
  try simp only [Act.put, List.setIfInBounds_toArray, List.set_cons_zero, List.set_cons_succ]
  (refine take_at 6 (some 13) rfl rfl (by kernel_rfl) (by kernel_rfl) (by kernel_rfl) (fun _ _ _ h => h) (v := ?_) (by kernel_rfl) ?_ (by assumption) ?_; rotate_left; (focus (intro wS hSw; skip; go_simp; try with_reducible rfl)); (try simp only [Act.put, List.setIfInBounds_toArray, List.set_cons_zero, List.set_cons_succ]))
  (refine take_at 7 (some 14) rfl rfl (by kernel_rfl) (by kernel_rfl) (by kernel_rfl) (fun _ _ _ h => h) (v := ?_) (by kernel_rfl) ?_ (by assumption) ?_; rotate_left; (focus (intro wS hSw; skip; go_simp; try with_reducible rfl)); (try simp only [Act.put, List.setIfInBounds_toArray, List.set_cons_zero, List.set_cons_succ]))
  (refine take_at 8 (some 15) rfl rfl (by kernel_rfl) (by kernel_rfl) (by kernel_rfl) (fun _ _ _ h => h) (v := ?_) (by kernel_rfl) ?_ (by assumption) ?_; rotate_left; (focus (intro wS hSw; have d30 := (hSw.cell (p := ⟨g3, 0, none⟩) l3 id).trans C30.out; have d31 := (hSw.cell (p := ⟨g3, 1, none⟩) l3 id).trans C31.out; go_simp; try with_reducible rfl)); (try simp only [Act.put, List.setIfInBounds_toArray, List.set_cons_zero, List.set_cons_succ]))
  (refine take_at 10 (some 17) rfl rfl (by kernel_rfl) (by kernel_rfl) (by kernel_rfl) (fun _ _ _ h => h) (v := ?_) (by kernel_rfl) ?_ (by assumption) ?_; rotate_left; (focus (intro wS hSw; have d30 := (hSw.cell (p := ⟨g3, 0, none⟩) l3 id).trans C30.out; have d31 := (hSw.cell (p := ⟨g3, 1, none⟩) l3 id).trans C31.out; go_simp; try with_reducible rfl)); (try simp only [Act.put, List.setIfInBounds_toArray, List.set_cons_zero, List.set_cons_succ]))
  refine wpAnyH_ready (rs := [9]) (by kernel_rfl) (by simp) ?_
  refine AllReadyH.cons rfl (fun K hK => ?_) AllReadyH.nil
  go_simp
  go_at_call 19
  refine (K3.out _ (Ht.out.low (Hw0.out.trans hHeld (fun _ _ h => h)))).mono ?_
  rintro e u3 ⟨rfl, hp⟩
  have hn3 : NoW w0 u3 := Fp.trans hHeld hp (fun _ _ h => h)
  skip
  clear hp hHeld hn2
  refine hK.out _ _ hn3 (fun hHeld => ?_)
  clear hK K
  try simp only [Act.put, List.setIfInBounds_toArray, List.set_cons_zero, List.set_cons_succ]
  refine wpAnyH_ready (rs := [11]) (by kernel_rfl) (by simp) ?_
  refine AllReadyH.cons rfl (fun K hK => ?_) AllReadyH.nil
  go_simp
  go_at_call 21
  refine (K4.out _).mono ?_
  rintro e u4 ⟨rfl, hp⟩
  have hn4 : NoW w0 u4 := Fp.trans hHeld hp (fun _ _ h => h)
  skip
  clear hp hHeld hn3
  refine hK.out _ _ hn4 (fun hHeld => ?_)
  clear hK K
  try simp only [Act.put, List.setIfInBounds_toArray, List.set_cons_zero, List.set_cons_succ]
  (refine take_at 12 (some 19) rfl rfl (by kernel_rfl) (by kernel_rfl) (by kernel_rfl) (fun _ _ _ h => h) (v := ?_) (by kernel_rfl) ?_ (by assumption) ?_; rotate_left; (focus (intro wS hSw; skip; go_simp; try with_reducible rfl)); (try simp only [Act.put, List.setIfInBounds_toArray, List.set_cons_zero, List.set_cons_succ]))
  (refine take_at 13 (some 20) rfl rfl (by kernel_rfl) (by kernel_rfl) (by kernel_rfl) (fun _ _ _ h => h) (v := ?_) (by kernel_rfl) ?_ (by assumption) ?_; rotate_left; (focus (intro wS hSw; skip; go_simp; try with_reducible rfl)); (try simp only [Act.put, List.setIfInBounds_toArray, List.set_cons_zero, List.set_cons_succ]))
  (refine take_at 14 (some 21) rfl rfl (by kernel_rfl) (by kernel_rfl) (by kernel_rfl) (fun _ _ _ h => h) (v := ?_) (by kernel_rfl) ?_ (by assumption) ?_; rotate_left; (focus (intro wS hSw; skip; go_simp; try with_reducible rfl)); (try simp only [Act.put, List.setIfInBounds_toArray, List.set_cons_zero, List.set_cons_succ]))
  (refine take_at 15 (some 22) rfl rfl (by kernel_rfl) (by kernel_rfl) (by kernel_rfl) (fun _ _ _ h => h) (v := ?_) (by kernel_rfl) ?_ (by assumption) ?_; rotate_left; (focus (intro wS hSw; have d50 := (hSw.cell (p := ⟨g5, 0, none⟩) l5 id).trans C50.out; have d51 := (hSw.cell (p := ⟨g5, 1, none⟩) l5 id).trans C51.out; go_simp; try with_reducible rfl)); (try simp only [Act.put, List.setIfInBounds_toArray, List.set_cons_zero, List.set_cons_succ]))
  (refine take_at 17 (some 24) rfl rfl (by kernel_rfl) (by kernel_rfl) (by kernel_rfl) (fun _ _ _ h => h) (v := ?_) (by kernel_rfl) ?_ (by assumption) ?_; rotate_left; (focus (intro wS hSw; have d50 := (hSw.cell (p := ⟨g5, 0, none⟩) l5 id).trans C50.out; have d51 := (hSw.cell (p := ⟨g5, 1, none⟩) l5 id).trans C51.out; go_simp; try with_reducible rfl)); (try simp only [Act.put, List.setIfInBounds_toArray, List.set_cons_zero, List.set_cons_succ]))
  refine wpAnyH_ready (rs := [16]) (by kernel_rfl) (by simp) ?_
  refine AllReadyH.cons rfl (fun K hK => ?_) AllReadyH.nil
  go_simp
  go_at_call 18
  refine (K5.out _ (Ht.out.low (Hw0.out.trans hHeld (fun _ _ h => h)))).mono ?_
  rintro e u5 ⟨rfl, hp⟩
  have hn5 : NoW w0 u5 := Fp.trans hHeld hp (fun _ _ h => h)
  skip
  clear hp hHeld hn4
  refine hK.out _ _ hn5 (fun hHeld => ?_)
  clear hK K
  try simp only [Act.put, List.setIfInBounds_toArray, List.set_cons_zero, List.set_cons_succ]
  refine wpAnyH_ready (rs := [18]) (by kernel_rfl) (by simp) ?_
  refine AllReadyH.cons rfl (fun K hK => ?_) AllReadyH.nil
  go_simp
  go_at_call 22
  refine (K6.out _).mono ?_
  rintro e u6 ⟨rfl, hp⟩
  have hn6 : NoW w0 u6 := Fp.trans hHeld hp (fun _ _ h => h)
  skip
  clear hp hHeld hn5
  refine hK.out _ _ hn6 (fun hHeld => ?_)
  clear hK K
  try simp only [Act.put, List.setIfInBounds_toArray, List.set_cons_zero, List.set_cons_succ]
  (refine take_at 19 (some 26) rfl rfl (by kernel_rfl) (by kernel_rfl) (by kernel_rfl) (fun _ _ _ h => h) (v := ?_) (by kernel_rfl) ?_ (by assumption) ?_; rotate_left; (focus (intro wS hSw; skip; go_simp; try with_reducible rfl)); (try simp only [Act.put, List.setIfInBounds_toArray, List.set_cons_zero, List.set_cons_succ]))
  (refine take_at 20 (some 27) rfl rfl (by kernel_rfl) (by kernel_rfl) (by kernel_rfl) (fun _ _ _ h => h) (v := ?_) (by kernel_rfl) ?_ (by assumption) ?_; rotate_left; (focus (intro wS hSw; skip; go_simp; try with_reducible rfl)); (try simp only [Act.put, List.setIfInBounds_toArray, List.set_cons_zero, List.set_cons_succ]))
  (refine take_at 21 (some 28) rfl rfl (by kernel_rfl) (by kernel_rfl) (by kernel_rfl) (fun _ _ _ h => h) (v := ?_) (by kernel_rfl) ?_ (by assumption) ?_; rotate_left; (focus (intro wS hSw; skip; go_simp; try with_reducible rfl)); (try simp only [Act.put, List.setIfInBounds_toArray, List.set_cons_zero, List.set_cons_succ]))
  (refine take_at 22 (some 29) rfl rfl (by kernel_rfl) (by kernel_rfl) (by kernel_rfl) (fun _ _ _ h => h) (v := ?_) (by kernel_rfl) ?_ (by assumption) ?_; rotate_left; (focus (intro wS hSw; have d50 := (hSw.cell (p := ⟨g5, 0, none⟩) l5 id).trans C50.out; have d51 := (hSw.cell (p := ⟨g5, 1, none⟩) l5 id).trans C51.out; go_simp; try with_reducible rfl)); (try simp only [Act.put, List.setIfInBounds_toArray, List.set_cons_zero, List.set_cons_succ]))
  (refine take_at 24 (some 31) rfl rfl (by kernel_rfl) (by kernel_rfl) (by kernel_rfl) (fun _ _ _ h => h) (v := ?_) (by kernel_rfl) ?_ (by assumption) ?_; rotate_left; (focus (intro wS hSw; have d50 := (hSw.cell (p := ⟨g5, 0, none⟩) l5 id).trans C50.out; have d51 := (hSw.cell (p := ⟨g5, 1, none⟩) l5 id).trans C51.out; go_simp; try with_reducible rfl)); (try simp only [Act.put, List.setIfInBounds_toArray, List.set_cons_zero, List.set_cons_succ]))
  refine wpAnyH_ready (rs := [23]) (by kernel_rfl) (by simp) ?_
  refine AllReadyH.cons rfl (fun K hK => ?_) AllReadyH.nil
  go_simp
  go_at_call 23
  refine (K7.out _).mono ?_
  rintro e u7 ⟨rfl, hp⟩
  have hn7 : NoW w0 u7 := Fp.trans hHeld hp (fun _ _ h => h)
  skip
  clear hp hHeld hn6
  refine hK.out _ _ hn7 (fun hHeld => ?_)
  clear hK K
  try simp only [Act.put, List.setIfInBounds_toArray, List.set_cons_zero, List.set_cons_succ]
  refine wpAnyH_ready (rs := [25]) (by kernel_rfl) (by simp) ?_
  refine AllReadyH.cons rfl (fun K hK => ?_) AllReadyH.nil
  go_simp
  go_at_call 24
  refine (K8.out _).mono ?_
  rintro e u8 ⟨rfl, hp⟩
  have hn8 : NoW w0 u8 := Fp.trans hHeld hp (fun _ _ h => h)
  skip
  clear hp hHeld hn7
  refine hK.out _ _ hn8 (fun hHeld => ?_)
  clear hK K
  try simp only [Act.put, List.setIfInBounds_toArray, List.set_cons_zero, List.set_cons_succ]
  (refine take_at 26 (some 33) rfl rfl (by kernel_rfl) (by kernel_rfl) (by kernel_rfl) (fun _ _ _ h => h) (v := ?_) (by kernel_rfl) ?_ (by assumption) ?_; rotate_left; (focus (intro wS hSw; skip; go_simp; try with_reducible rfl)); (try simp only [Act.put, List.setIfInBounds_toArray, List.set_cons_zero, List.set_cons_succ]))
  (refine take_at 27 (some 34) rfl rfl (by kernel_rfl) (by kernel_rfl) (by kernel_rfl) (fun _ _ _ h => h) (v := ?_) (by kernel_rfl) ?_ (by assumption) ?_; rotate_left; (focus (intro wS hSw; skip; go_simp; try with_reducible rfl)); (try simp only [Act.put, List.setIfInBounds_toArray, List.set_cons_zero, List.set_cons_succ]))
  (refine take_at 28 (some 35) rfl rfl (by kernel_rfl) (by kernel_rfl) (by kernel_rfl) (fun _ _ _ h => h) (v := ?_) (by kernel_rfl) ?_ (by assumption) ?_; rotate_left; (focus (intro wS hSw; skip; go_simp; try with_reducible rfl)); (try simp only [Act.put, List.setIfInBounds_toArray, List.set_cons_zero, List.set_cons_succ]))
  (refine take_at 29 (some 36) rfl rfl (by kernel_rfl) (by kernel_rfl) (by kernel_rfl) (fun _ _ _ h => h) (v := ?_) (by kernel_rfl) ?_ (by assumption) ?_; rotate_left; (focus (intro wS hSw; have d50 := (hSw.cell (p := ⟨g5, 0, none⟩) l5 id).trans C50.out; have d51 := (hSw.cell (p := ⟨g5, 1, none⟩) l5 id).trans C51.out; go_simp; try with_reducible rfl)); (try simp only [Act.put, List.setIfInBounds_toArray, List.set_cons_zero, List.set_cons_succ]))
  (refine take_at 30 (some 37) rfl rfl (by kernel_rfl) (by kernel_rfl) (by kernel_rfl) (fun _ _ _ h => h) (v := ?_) (by kernel_rfl) ?_ (by assumption) ?_; rotate_left; (focus (intro wS hSw; skip; go_simp; try with_reducible rfl)); (try simp only [Act.put, List.setIfInBounds_toArray, List.set_cons_zero, List.set_cons_succ]))
  (refine take_at 31 (some 38) rfl rfl (by kernel_rfl) (by kernel_rfl) (by kernel_rfl) (fun _ _ _ h => h) (v := ?_) (by kernel_rfl) ?_ (by assumption) ?_; rotate_left; (focus (intro wS hSw; have d30 := (hSw.cell (p := ⟨g3, 0, none⟩) l3 id).trans C30.out; have d31 := (hSw.cell (p := ⟨g3, 1, none⟩) l3 id).trans C31.out; go_simp; try with_reducible rfl)); (try simp only [Act.put, List.setIfInBounds_toArray, List.set_cons_zero, List.set_cons_succ]))
  (refine take_at 33 (some 40) rfl rfl (by kernel_rfl) (by kernel_rfl) (by kernel_rfl) (fun _ _ _ h => h) (v := ?_) (by kernel_rfl) ?_ (by assumption) ?_; rotate_left; (focus (intro wS hSw; have d50 := (hSw.cell (p := ⟨g5, 0, none⟩) l5 id).trans C50.out; have d51 := (hSw.cell (p := ⟨g5, 1, none⟩) l5 id).trans C51.out; go_simp; try with_reducible rfl)); (try simp only [Act.put, List.setIfInBounds_toArray, List.set_cons_zero, List.set_cons_succ]))
  (refine take_at 34 (some 41) rfl rfl (by kernel_rfl) (by kernel_rfl) (by kernel_rfl) (fun _ _ _ h => h) (v := ?_) (by kernel_rfl) ?_ (by assumption) ?_; rotate_left; (focus (intro wS hSw; skip; go_simp; try with_reducible rfl)); (try simp only [Act.put, List.setIfInBounds_toArray, List.set_cons_zero, List.set_cons_succ]))
  (refine take_at 35 (some 42) rfl rfl (by kernel_rfl) (by kernel_rfl) (by kernel_rfl) (fun _ _ _ h => h) (v := ?_) (by kernel_rfl) ?_ (by assumption) ?_; rotate_left; (focus (intro wS hSw; have d30 := (hSw.cell (p := ⟨g3, 0, none⟩) l3 id).trans C30.out; have d31 := (hSw.cell (p := ⟨g3, 1, none⟩) l3 id).trans C31.out; go_simp; try with_reducible rfl)); (try simp only [Act.put, List.setIfInBounds_toArray, List.set_cons_zero, List.set_cons_succ]))
  refine wpAnyH_ready (rs := [32]) (by kernel_rfl) (by simp) ?_
  refine AllReadyH.cons rfl (fun K hK => ?_) AllReadyH.nil
  go_simp
  go_at_call 16
  refine (K9.out _).mono ?_
  rintro e u9 ⟨rfl, hp⟩
  have hn9 : NoW w0 u9 := Fp.trans hHeld hp (fun _ _ h => h)
  skip
  clear hp hHeld hn8
  refine hK.out _ _ hn9 (fun hHeld => ?_)
  clear hK K
  try simp only [Act.put, List.setIfInBounds_toArray, List.set_cons_zero, List.set_cons_succ]
  refine wpAnyH_ready (rs := [36]) (by kernel_rfl) (by simp) ?_
  refine AllReadyH.cons rfl (fun K hK => ?_) AllReadyH.nil
  go_simp
  go_at_call 25
  refine (K10.out _).mono ?_
  rintro e u10 ⟨rfl, hp⟩
  have hn10 : NoW w0 u10 := Fp.trans hHeld hp (fun _ _ h => h)
  skip
  clear hp hHeld hn9
  refine hK.out _ _ hn10 (fun hHeld => ?_)
  clear hK K
  try simp only [Act.put, List.setIfInBounds_toArray, List.set_cons_zero, List.set_cons_succ]
  (refine take_at 37 (some 44) rfl rfl (by kernel_rfl) (by kernel_rfl) (by kernel_rfl) (fun _ _ _ h => h) (v := ?_) (by kernel_rfl) ?_ (by assumption) ?_; rotate_left; (focus (intro wS hSw; skip; go_simp; try with_reducible rfl)); (try simp only [Act.put, List.setIfInBounds_toArray, List.set_cons_zero, List.set_cons_succ]))
  (refine take_at 38 (some 45) rfl rfl (by kernel_rfl) (by kernel_rfl) (by kernel_rfl) (fun _ _ _ h => h) (v := ?_) (by kernel_rfl) ?_ (by assumption) ?_; rotate_left; (focus (intro wS hSw; skip; go_simp; try with_reducible rfl)); (try simp only [Act.put, List.setIfInBounds_toArray, List.set_cons_zero, List.set_cons_succ]))
  (refine take_at 39 (some 46) rfl rfl (by kernel_rfl) (by kernel_rfl) (by kernel_rfl) (fun _ _ _ h => h) (v := ?_) (by kernel_rfl) ?_ (by assumption) ?_; rotate_left; (focus (intro wS hSw; skip; go_simp; try with_reducible rfl)); (try simp only [Act.put, List.setIfInBounds_toArray, List.set_cons_zero, List.set_cons_succ]))
  (refine take_at 40 (some 47) rfl rfl (by kernel_rfl) (by kernel_rfl) (by kernel_rfl) (fun _ _ _ h => h) (v := ?_) (by kernel_rfl) ?_ (by assumption) ?_; rotate_left; (focus (intro wS hSw; have d30 := (hSw.cell (p := ⟨g3, 0, none⟩) l3 id).trans C30.out; have d31 := (hSw.cell (p := ⟨g3, 1, none⟩) l3 id).trans C31.out; go_simp; try with_reducible rfl)); (try simp only [Act.put, List.setIfInBounds_toArray, List.set_cons_zero, List.set_cons_succ]))
  (refine take_at 41 (some 48) rfl rfl (by kernel_rfl) (by kernel_rfl) (by kernel_rfl) (fun _ _ _ h => h) (v := ?_) (by kernel_rfl) ?_ (by assumption) ?_; rotate_left; (focus (intro wS hSw; have d40 := (hSw.cell (p := ⟨g4, 0, none⟩) l4 id).trans C40.out; have d41 := (hSw.cell (p := ⟨g4, 1, none⟩) l4 id).trans C41.out; go_simp; try with_reducible rfl)); (try simp only [Act.put, List.setIfInBounds_toArray, List.set_cons_zero, List.set_cons_succ]))
  (refine take_at 43 (some 50) rfl rfl (by kernel_rfl) (by kernel_rfl) (by kernel_rfl) (fun _ _ _ h => h) (v := ?_) (by kernel_rfl) ?_ (by assumption) ?_; rotate_left; (focus (intro wS hSw; have d30 := (hSw.cell (p := ⟨g3, 0, none⟩) l3 id).trans C30.out; have d31 := (hSw.cell (p := ⟨g3, 1, none⟩) l3 id).trans C31.out; go_simp; try with_reducible rfl)); (try simp only [Act.put, List.setIfInBounds_toArray, List.set_cons_zero, List.set_cons_succ]))
  (refine take_at 44 (some 51) rfl rfl (by kernel_rfl) (by kernel_rfl) (by kernel_rfl) (fun _ _ _ h => h) (v := ?_) (by kernel_rfl) ?_ (by assumption) ?_; rotate_left; (focus (intro wS hSw; have d40 := (hSw.cell (p := ⟨g4, 0, none⟩) l4 id).trans C40.out; have d41 := (hSw.cell (p := ⟨g4, 1, none⟩) l4 id).trans C41.out; go_simp; try with_reducible rfl)); (try simp only [Act.put, List.setIfInBounds_toArray, List.set_cons_zero, List.set_cons_succ]))
  refine wpAnyH_ready (rs := [42]) (by kernel_rfl) (by simp) ?_
  refine AllReadyH.cons rfl (fun K hK => ?_) AllReadyH.nil
  go_simp
  go_at_call 26
  refine (K11.out _).mono ?_
  rintro e u11 ⟨rfl, hp⟩
  have hn11 : NoW w0 u11 := Fp.trans hHeld hp (fun _ _ h => h)
  skip
  clear hp hHeld hn10
  refine hK.out _ _ hn11 (fun hHeld => ?_)
  clear hK K
  try simp only [Act.put, List.setIfInBounds_toArray, List.set_cons_zero, List.set_cons_succ]
  refine wpAnyH_ready (rs := [45]) (by kernel_rfl) (by simp) ?_
  refine AllReadyH.cons rfl (fun K hK => ?_) AllReadyH.nil
  go_simp
  go_at_call 27
  refine (K12.out _).mono ?_
  rintro e u12 ⟨rfl, hp⟩
  have hn12 : NoW w0 u12 := Fp.trans hHeld hp (fun _ _ h => h)
  skip
  clear hp hHeld hn11
  refine hK.out _ _ hn12 (fun hHeld => ?_)
  clear hK K
  try simp only [Act.put, List.setIfInBounds_toArray, List.set_cons_zero, List.set_cons_succ]
  (refine take_at 46 (some 53) rfl rfl (by kernel_rfl) (by kernel_rfl) (by kernel_rfl) (fun _ _ _ h => h) (v := ?_) (by kernel_rfl) ?_ (by assumption) ?_; rotate_left; (focus (intro wS hSw; skip; go_simp; try with_reducible rfl)); (try simp only [Act.put, List.setIfInBounds_toArray, List.set_cons_zero, List.set_cons_succ]))
  (refine take_at 47 (some 54) rfl rfl (by kernel_rfl) (by kernel_rfl) (by kernel_rfl) (fun _ _ _ h => h) (v := ?_) (by kernel_rfl) ?_ (by assumption) ?_; rotate_left; (focus (intro wS hSw; skip; go_simp; try with_reducible rfl)); (try simp only [Act.put, List.setIfInBounds_toArray, List.set_cons_zero, List.set_cons_succ]))
  (refine take_at 48 (some 55) rfl rfl (by kernel_rfl) (by kernel_rfl) (by kernel_rfl) (fun _ _ _ h => h) (v := ?_) (by kernel_rfl) ?_ (by assumption) ?_; rotate_left; (focus (intro wS hSw; skip; go_simp; try with_reducible rfl)); (try simp only [Act.put, List.setIfInBounds_toArray, List.set_cons_zero, List.set_cons_succ]))
  (refine take_at 49 (some 56) rfl rfl (by kernel_rfl) (by kernel_rfl) (by kernel_rfl) (fun _ _ _ h => h) (v := ?_) (by kernel_rfl) ?_ (by assumption) ?_; rotate_left; (focus (intro wS hSw; have d30 := (hSw.cell (p := ⟨g3, 0, none⟩) l3 id).trans C30.out; have d31 := (hSw.cell (p := ⟨g3, 1, none⟩) l3 id).trans C31.out; go_simp; try with_reducible rfl)); (try simp only [Act.put, List.setIfInBounds_toArray, List.set_cons_zero, List.set_cons_succ]))
  (refine take_at 50 (some 57) rfl rfl (by kernel_rfl) (by kernel_rfl) (by kernel_rfl) (fun _ _ _ h => h) (v := ?_) (by kernel_rfl) ?_ (by assumption) ?_; rotate_left; (focus (intro wS hSw; have d30 := (hSw.cell (p := ⟨g3, 0, none⟩) l3 id).trans C30.out; have d31 := (hSw.cell (p := ⟨g3, 1, none⟩) l3 id).trans C31.out; go_simp; try with_reducible rfl)); (try simp only [Act.put, List.setIfInBounds_toArray, List.set_cons_zero, List.set_cons_succ]))
  (refine take_at 52 (some 59) rfl rfl (by kernel_rfl) (by kernel_rfl) (by kernel_rfl) (fun _ _ _ h => h) (v := ?_) (by kernel_rfl) ?_ (by assumption) ?_; rotate_left; (focus (intro wS hSw; have d30 := (hSw.cell (p := ⟨g3, 0, none⟩) l3 id).trans C30.out; have d31 := (hSw.cell (p := ⟨g3, 1, none⟩) l3 id).trans C31.out; go_simp; try with_reducible rfl)); (try simp only [Act.put, List.setIfInBounds_toArray, List.set_cons_zero, List.set_cons_succ]))
  (refine take_at 53 (some 60) rfl rfl (by kernel_rfl) (by kernel_rfl) (by kernel_rfl) (fun _ _ _ h => h) (v := ?_) (by kernel_rfl) ?_ (by assumption) ?_; rotate_left; (focus (intro wS hSw; have d30 := (hSw.cell (p := ⟨g3, 0, none⟩) l3 id).trans C30.out; have d31 := (hSw.cell (p := ⟨g3, 1, none⟩) l3 id).trans C31.out; go_simp; try with_reducible rfl)); (try simp only [Act.put, List.setIfInBounds_toArray, List.set_cons_zero, List.set_cons_succ]))
  refine wpAnyH_ready (rs := [51]) (by kernel_rfl) (by simp) ?_
  refine AllReadyH.cons rfl (fun K hK => ?_) AllReadyH.nil
  go_simp
  go_at_call 26
  refine (K13.out _).mono ?_
  rintro e u13 ⟨rfl, hp⟩
  have hn13 : NoW w0 u13 := Fp.trans hHeld hp (fun _ _ h => h)
  skip
  clear hp hHeld hn12
  refine hK.out _ _ hn13 (fun hHeld => ?_)
  clear hK K
  try simp only [Act.put, List.setIfInBounds_toArray, List.set_cons_zero, List.set_cons_succ]
  refine wpAnyH_ready (rs := [54]) (by kernel_rfl) (by simp) ?_
  refine AllReadyH.cons rfl (fun K hK => ?_) AllReadyH.nil
  go_simp
  go_at_call 27
  refine (K14.out _).mono ?_
  rintro e u14 ⟨rfl, hp⟩
  have hn14 : NoW w0 u14 := Fp.trans hHeld hp (fun _ _ h => h)
  skip
  clear hp hHeld hn13
  refine hK.out _ _ hn14 (fun hHeld => ?_)
  clear hK K
  try simp only [Act.put, List.setIfInBounds_toArray, List.set_cons_zero, List.set_cons_succ]
  (refine take_at 55 (some 62) rfl rfl (by kernel_rfl) (by kernel_rfl) (by kernel_rfl) (fun _ _ _ h => h) (v := ?_) (by kernel_rfl) ?_ (by assumption) ?_; rotate_left; (focus (intro wS hSw; skip; go_simp; try with_reducible rfl)); (try simp only [Act.put, List.setIfInBounds_toArray, List.set_cons_zero, List.set_cons_succ]))
  (refine take_at 56 (some 63) rfl rfl (by kernel_rfl) (by kernel_rfl) (by kernel_rfl) (fun _ _ _ h => h) (v := ?_) (by kernel_rfl) ?_ (by assumption) ?_; rotate_left; (focus (intro wS hSw; skip; go_simp; try with_reducible rfl)); (try simp only [Act.put, List.setIfInBounds_toArray, List.set_cons_zero, List.set_cons_succ]))
  (refine take_at 57 (some 64) rfl rfl (by kernel_rfl) (by kernel_rfl) (by kernel_rfl) (fun _ _ _ h => h) (v := ?_) (by kernel_rfl) ?_ (by assumption) ?_; rotate_left; (focus (intro wS hSw; skip; go_simp; try with_reducible rfl)); (try simp only [Act.put, List.setIfInBounds_toArray, List.set_cons_zero, List.set_cons_succ]))
  refine wpAnyH_ready (rs := [58]) (by kernel_rfl) (by simp) ?_
  refine AllReadyH.cons rfl (fun K hK => ?_) AllReadyH.nil
  go_simp
  go_at_call 8
  refine (named_ok _ (Ht.out.low (Hw0.out.trans hHeld (fun _ _ h => h)))).mono ?_
  rintro e u15 ⟨rfl, hp⟩
  have hn15 : NoW w0 u15 := Fp.trans hHeld hp (fun _ _ h => h)
  skip
  clear hp hHeld hn14
  refine hK.out _ _ hn15 (fun hHeld => ?_)
  clear hK K
  try simp only [Act.put, List.setIfInBounds_toArray, List.set_cons_zero, List.set_cons_succ]
  (refine take_at 59 (some 66) rfl rfl (by kernel_rfl) (by kernel_rfl) (by kernel_rfl) (fun _ _ _ h => h) (v := ?_) (by kernel_rfl) ?_ (by assumption) ?_; rotate_left; (focus (intro wS hSw; skip; go_simp; try with_reducible rfl)); (try simp only [Act.put, List.setIfInBounds_toArray, List.set_cons_zero, List.set_cons_succ]))
  (refine take_at 60 (some 6) rfl rfl (by kernel_rfl) (by kernel_rfl) (by kernel_rfl) (fun _ _ _ h => h) (v := ?_) (by kernel_rfl) ?_ (by assumption) ?_; rotate_left; (focus (intro wS hSw; skip; go_simp; try with_reducible rfl)); (try simp only [Act.put, List.setIfInBounds_toArray, List.set_cons_zero, List.set_cons_succ]))
  refine wpAnyH_done (by kernel_rfl) ?_ _
  go_wp2_with fail
  go_ret
  exact ⟨rfl, Hw0.out.trans hn15 (fun _ _ h => h)⟩

theorem walk_AddrsTell (w : World) (ht : Tb w) (v0 v1 v2 : Value) (g0 : Good Tryd.prog w 34 v0) (g1 : Good Tryd.prog w 34 v1) (g2 : Good Tryd.prog w 29 v2) :
    Calls Tryd.prog 6 #[v0, v1, v2] w (Ret1 (.bool true) w) := by
  obtain ⟨a, p, rfl, ha, hp⟩ := ep_open g0
  obtain ⟨b, q, rfl, hb, hq⟩ := ep_open g1
  obtain ⟨ip, bits, rfl, hip⟩ := pf_open g2
  have k1 := fun W hW => ad_text a ha W hW
  have k2 := fun W => ret_same (rt_text a ha W)
  have k3 := fun W hW => point_text a ha p hp W hW
  have k4 := fun W => rt_ptext a ha p hp W
  have k7 := fun W => may_ok ip hip bits W
  have k8 := fun W => rt_may ip hip bits W
  have k9 := fun W => has_ok ip hip bits a ha W
  have k10 := fun W => rt_has ip hip bits a ha W
  have k11 := fun W => less_ok a p b q W
  have k12 := fun W => rt_less a p b q W
  have k13 := fun W => less_ok a p a p W
  have k14 := fun W => rt_less a p a p W
  rcases hm : mayB ip bits with _ | _
  · exact tell_core w ht a p b q ip bits _ _ [] _ _ _ _ k1 k2 k3 k4 (fun W _ => prefix_text_no ip hip bits hm W) (fun W => rt_pftext_no ip hip bits hm W) k7 k8 k9 k10 k11 k12 k13 k14
  · obtain ⟨n, rfl⟩ : ∃ n : Nat, bits = n := ⟨bits.toNat, by have := (of_decide_eq_true hm).1; omega⟩
    exact tell_core w ht a p b q ip n _ _ _ _ _ _ _ k1 k2 k3 k4 (fun W hW => prefix_text ip hip n hm W hW) (fun W => rt_pftext ip hip n hm W) k7 k8 k9 k10 k11 k12 k13 k14
end Go.Proofs.YtgfmeincfeelmaaDoor
