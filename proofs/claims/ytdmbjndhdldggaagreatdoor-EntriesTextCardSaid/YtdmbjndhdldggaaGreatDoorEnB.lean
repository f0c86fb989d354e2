/- Chapter 18: the small functions (written by genen.py). -/
import Derived.Test.YtdmbjndhdldggaaGreatDoorEnA
import Derived.Laws.StructEq
namespace Go.Proofs.YtdmbjndhdldggaaGreatDoor
set_option linter.unusedVariables false
set_option linter.unusedSimpArgs false
open Go.RowKit Go.Lib Go.Sort
theorem box2 (w : World) (A B : Obj) : ((w.alloc A).alloc B).heap[w.heap.size]? = some A ∧ ((w.alloc A).alloc B).heap[w.heap.size + 1]? = some B := by
  refine ⟨?_, ?_⟩
  · exact (((Fp.refl (fun _ => False) (w.alloc A)).alloc B).block w.heap.size (by simp) id).trans (heap_alloc_new w A)
  · simpa using heap_alloc_new (w.alloc A) B

set_option maxHeartbeats 1000000 in
theorem live_ok (r a p b q r2 a2 p2 b2 q2 st dl : Int) (h : Value) (now : Int) (w : World) : Calls Tryz.prog 17 #[.agg #[.int .u8 r, .int .u32 a, .int .u16 p, .int .u32 b, .int .u16 q, .int .u8 r2, .int .u32 a2, .int .u16 p2, .int .u32 b2, .int .u16 q2, .int .i64 st, .int .i64 dl, h], .int .i64 now] w (Ret1 (.bool (decide (now < dl))) w) := by
  go_enter Tryz.func17, Tryz.ntmps17
  go_wp2_with fail
  go_ret
  exact ⟨rfl, (Fp.refl _ _).alloc _⟩

set_option maxHeartbeats 1000000 in
theorem other_t (r a p b q r2 a2 p2 b2 q2 st dl : Int) (h : Value) (w : World) : Calls Tryz.prog 34 #[.agg #[.int .u8 r, .int .u32 a, .int .u16 p, .int .u32 b, .int .u16 q, .int .u8 r2, .int .u32 a2, .int .u16 p2, .int .u32 b2, .int .u16 q2, .int .i64 st, .int .i64 dl, h], .bool true] w (Ret1 (.agg #[.int .u8 r, .int .u32 a, .int .u16 p, .int .u32 b, .int .u16 q]) w) := by
  go_enter Tryz.func34, Tryz.ntmps34
  go_wp2_with fail
  refine bodyPost_ret (v := .agg #[.int .u8 r, .int .u32 a, .int .u16 p, .int .u32 b, .int .u16 q]) (by simp only [results, Tryz.results34]; go_simp) rfl ⟨rfl, ?_⟩
  (repeat (first | exact Fp.refl _ _ | refine Fp.drew ?_ | refine Fp.drewN ?_ _ | refine Fp.alloc ?_ _ | (refine Fp.setCell ?_ (Or.inl (by simp)) _) | (refine Fp.setCell ?_ (Or.inl (by simp; omega)) _) | refine Fp.trans ?_ (by assumption) (fun _ _ h => h)))

set_option maxHeartbeats 1000000 in
theorem other_f (r a p b q r2 a2 p2 b2 q2 st dl : Int) (h : Value) (w : World) : Calls Tryz.prog 34 #[.agg #[.int .u8 r, .int .u32 a, .int .u16 p, .int .u32 b, .int .u16 q, .int .u8 r2, .int .u32 a2, .int .u16 p2, .int .u32 b2, .int .u16 q2, .int .i64 st, .int .i64 dl, h], .bool false] w (Ret1 (.agg #[.int .u8 r2, .int .u32 a2, .int .u16 p2, .int .u32 b2, .int .u16 q2]) w) := by
  go_enter Tryz.func34, Tryz.ntmps34
  go_wp2_with fail
  refine bodyPost_ret (v := .agg #[.int .u8 r2, .int .u32 a2, .int .u16 p2, .int .u32 b2, .int .u16 q2]) (by simp only [results, Tryz.results34]; go_simp) rfl ⟨rfl, ?_⟩
  (repeat (first | exact Fp.refl _ _ | refine Fp.drew ?_ | refine Fp.drewN ?_ _ | refine Fp.alloc ?_ _ | (refine Fp.setCell ?_ (Or.inl (by simp)) _) | (refine Fp.setCell ?_ (Or.inl (by simp; omega)) _) | refine Fp.trans ?_ (by assumption) (fun _ _ h => h)))

set_option maxHeartbeats 1000000 in
theorem turn_t (r a p b q r2 a2 p2 b2 q2 st dl : Int) (h : Value) (w : World) : Calls Tryz.prog 13 #[.agg #[.int .u8 r, .int .u32 a, .int .u16 p, .int .u32 b, .int .u16 q, .int .u8 r2, .int .u32 a2, .int .u16 p2, .int .u32 b2, .int .u16 q2, .int .i64 st, .int .i64 dl, h], .bool true] w (Ret1 (.agg #[.int .u32 b, .int .u16 q, .int .u32 a, .int .u16 p]) w) := by
  go_enter Tryz.func13, Tryz.ntmps13
  go_wp2_with fail
  have hn0 : NoW w ((w.alloc (.cells #[.int .u8 r, .int .u32 a, .int .u16 p, .int .u32 b, .int .u16 q, .int .u8 r2, .int .u32 a2, .int .u16 p2, .int .u32 b2, .int .u16 q2, .int .i64 st, .int .i64 dl, h] 31)).alloc (.cells #[.int .u32 0, .int .u16 0, .int .u32 0, .int .u16 0] 50)) := ((Fp.refl _ _).alloc _).alloc _
  have hb0 : ((w.alloc (.cells #[.int .u8 r, .int .u32 a, .int .u16 p, .int .u32 b, .int .u16 q, .int .u8 r2, .int .u32 a2, .int .u16 p2, .int .u32 b2, .int .u16 q2, .int .i64 st, .int .i64 dl, h] 31)).alloc (.cells #[.int .u32 0, .int .u16 0, .int .u32 0, .int .u16 0] 50)).heap[w.heap.size + 1]? = some (.cells #[.int .u32 0, .int .u16 0, .int .u32 0, .int .u16 0] 50) := by
    exact (box2 w _ _).2
  refine (other_t r a p b q r2 a2 p2 b2 q2 st dl h _).mono ?_
  rintro e v ⟨rfl, hp⟩
  have hb := (hp.block _ (Array.getElem?_eq_some_iff.1 hb0).1 id).trans hb0
  have Hn := Lib.hid (hn0.trans hp (fun _ _ h => h))
  have hgl : w.heap.size ≤ w.heap.size + 1 := by omega
  clear hp hn0 hb0
  generalize w.heap.size + 1 = g at *
  have lg : g < v.heap.size := (Array.getElem?_eq_some_iff.1 hb).1
  have c0 : v.cell? ⟨g, 0, none⟩ = some (.int .u32 0) := by simp [World.cell?, hb]
  have c1 : v.cell? ⟨g, 1, none⟩ = some (.int .u16 0) := by simp [World.cell?, hb]
  have c2 : v.cell? ⟨g, 2, none⟩ = some (.int .u32 0) := by simp [World.cell?, hb]
  have c3 : v.cell? ⟨g, 3, none⟩ = some (.int .u16 0) := by simp [World.cell?, hb]
  have z0 : v.frozen? ⟨g, 0, none⟩ = false := by simp [World.frozen?, hb]
  have z1 : v.frozen? ⟨g, 1, none⟩ = false := by simp [World.frozen?, hb]
  have z2 : v.frozen? ⟨g, 2, none⟩ = false := by simp [World.frozen?, hb]
  have z3 : v.frozen? ⟨g, 3, none⟩ = false := by simp [World.frozen?, hb]
  clear hb
  go_wp2_with fail
  refine bodyPost_ret (v := .agg #[.int .u32 b, .int .u16 q, .int .u32 a, .int .u16 p]) (by simp only [results, Tryz.results13]; go_simp) rfl ⟨rfl, ?_⟩
  repeat (first | exact Hn.out | refine Fp.alloc ?_ _ | (refine Fp.setCell ?_ (Or.inl (by assumption)) _))

set_option maxHeartbeats 1000000 in
theorem turn_f (r a p b q r2 a2 p2 b2 q2 st dl : Int) (h : Value) (w : World) : Calls Tryz.prog 13 #[.agg #[.int .u8 r, .int .u32 a, .int .u16 p, .int .u32 b, .int .u16 q, .int .u8 r2, .int .u32 a2, .int .u16 p2, .int .u32 b2, .int .u16 q2, .int .i64 st, .int .i64 dl, h], .bool false] w (Ret1 (.agg #[.int .u32 b2, .int .u16 q2, .int .u32 a2, .int .u16 p2]) w) := by
  go_enter Tryz.func13, Tryz.ntmps13
  go_wp2_with fail
  have hn0 : NoW w ((w.alloc (.cells #[.int .u8 r, .int .u32 a, .int .u16 p, .int .u32 b, .int .u16 q, .int .u8 r2, .int .u32 a2, .int .u16 p2, .int .u32 b2, .int .u16 q2, .int .i64 st, .int .i64 dl, h] 31)).alloc (.cells #[.int .u32 0, .int .u16 0, .int .u32 0, .int .u16 0] 50)) := ((Fp.refl _ _).alloc _).alloc _
  have hb0 : ((w.alloc (.cells #[.int .u8 r, .int .u32 a, .int .u16 p, .int .u32 b, .int .u16 q, .int .u8 r2, .int .u32 a2, .int .u16 p2, .int .u32 b2, .int .u16 q2, .int .i64 st, .int .i64 dl, h] 31)).alloc (.cells #[.int .u32 0, .int .u16 0, .int .u32 0, .int .u16 0] 50)).heap[w.heap.size + 1]? = some (.cells #[.int .u32 0, .int .u16 0, .int .u32 0, .int .u16 0] 50) := by
    exact (box2 w _ _).2
  refine (other_f r a p b q r2 a2 p2 b2 q2 st dl h _).mono ?_
  rintro e v ⟨rfl, hp⟩
  have hb := (hp.block _ (Array.getElem?_eq_some_iff.1 hb0).1 id).trans hb0
  have Hn := Lib.hid (hn0.trans hp (fun _ _ h => h))
  have hgl : w.heap.size ≤ w.heap.size + 1 := by omega
  clear hp hn0 hb0
  generalize w.heap.size + 1 = g at *
  have lg : g < v.heap.size := (Array.getElem?_eq_some_iff.1 hb).1
  have c0 : v.cell? ⟨g, 0, none⟩ = some (.int .u32 0) := by simp [World.cell?, hb]
  have c1 : v.cell? ⟨g, 1, none⟩ = some (.int .u16 0) := by simp [World.cell?, hb]
  have c2 : v.cell? ⟨g, 2, none⟩ = some (.int .u32 0) := by simp [World.cell?, hb]
  have c3 : v.cell? ⟨g, 3, none⟩ = some (.int .u16 0) := by simp [World.cell?, hb]
  have z0 : v.frozen? ⟨g, 0, none⟩ = false := by simp [World.frozen?, hb]
  have z1 : v.frozen? ⟨g, 1, none⟩ = false := by simp [World.frozen?, hb]
  have z2 : v.frozen? ⟨g, 2, none⟩ = false := by simp [World.frozen?, hb]
  have z3 : v.frozen? ⟨g, 3, none⟩ = false := by simp [World.frozen?, hb]
  clear hb
  go_wp2_with fail
  refine bodyPost_ret (v := .agg #[.int .u32 b2, .int .u16 q2, .int .u32 a2, .int .u16 p2]) (by simp only [results, Tryz.results13]; go_simp) rfl ⟨rfl, ?_⟩
  repeat (first | exact Hn.out | refine Fp.alloc ?_ _ | (refine Fp.setCell ?_ (Or.inl (by assumption)) _))

set_option maxHeartbeats 1000000 in
theorem inside_t (r a p b q r2 a2 p2 b2 q2 st dl : Int) (h : Value) (w : World) : Calls Tryz.prog 14 #[.agg #[.int .u8 r, .int .u32 a, .int .u16 p, .int .u32 b, .int .u16 q, .int .u8 r2, .int .u32 a2, .int .u16 p2, .int .u32 b2, .int .u16 q2, .int .i64 st, .int .i64 dl, h], .bool true] w (Ret1 (.agg #[.int .u32 a, .int .u16 p, .int .u32 b, .int .u16 q]) w) := by
  go_enter Tryz.func14, Tryz.ntmps14
  go_wp2_with fail
  have hn0 : NoW w ((w.alloc (.cells #[.int .u8 r, .int .u32 a, .int .u16 p, .int .u32 b, .int .u16 q, .int .u8 r2, .int .u32 a2, .int .u16 p2, .int .u32 b2, .int .u16 q2, .int .i64 st, .int .i64 dl, h] 31)).alloc (.cells #[.int .u32 0, .int .u16 0, .int .u32 0, .int .u16 0] 50)) := ((Fp.refl _ _).alloc _).alloc _
  have hb0 : ((w.alloc (.cells #[.int .u8 r, .int .u32 a, .int .u16 p, .int .u32 b, .int .u16 q, .int .u8 r2, .int .u32 a2, .int .u16 p2, .int .u32 b2, .int .u16 q2, .int .i64 st, .int .i64 dl, h] 31)).alloc (.cells #[.int .u32 0, .int .u16 0, .int .u32 0, .int .u16 0] 50)).heap[w.heap.size + 1]? = some (.cells #[.int .u32 0, .int .u16 0, .int .u32 0, .int .u16 0] 50) := by
    exact (box2 w _ _).2
  refine (other_t r a p b q r2 a2 p2 b2 q2 st dl h _).mono ?_
  rintro e v ⟨rfl, hp⟩
  have hb := (hp.block _ (Array.getElem?_eq_some_iff.1 hb0).1 id).trans hb0
  have Hn := Lib.hid (hn0.trans hp (fun _ _ h => h))
  have hgl : w.heap.size ≤ w.heap.size + 1 := by omega
  clear hp hn0 hb0
  generalize w.heap.size + 1 = g at *
  have lg : g < v.heap.size := (Array.getElem?_eq_some_iff.1 hb).1
  have c0 : v.cell? ⟨g, 0, none⟩ = some (.int .u32 0) := by simp [World.cell?, hb]
  have c1 : v.cell? ⟨g, 1, none⟩ = some (.int .u16 0) := by simp [World.cell?, hb]
  have c2 : v.cell? ⟨g, 2, none⟩ = some (.int .u32 0) := by simp [World.cell?, hb]
  have c3 : v.cell? ⟨g, 3, none⟩ = some (.int .u16 0) := by simp [World.cell?, hb]
  have z0 : v.frozen? ⟨g, 0, none⟩ = false := by simp [World.frozen?, hb]
  have z1 : v.frozen? ⟨g, 1, none⟩ = false := by simp [World.frozen?, hb]
  have z2 : v.frozen? ⟨g, 2, none⟩ = false := by simp [World.frozen?, hb]
  have z3 : v.frozen? ⟨g, 3, none⟩ = false := by simp [World.frozen?, hb]
  clear hb
  go_wp2_with fail
  refine bodyPost_ret (v := .agg #[.int .u32 a, .int .u16 p, .int .u32 b, .int .u16 q]) (by simp only [results, Tryz.results14]; go_simp) rfl ⟨rfl, ?_⟩
  repeat (first | exact Hn.out | refine Fp.alloc ?_ _ | (refine Fp.setCell ?_ (Or.inl (by assumption)) _))

set_option maxHeartbeats 1000000 in
theorem inside_f (r a p b q r2 a2 p2 b2 q2 st dl : Int) (h : Value) (w : World) : Calls Tryz.prog 14 #[.agg #[.int .u8 r, .int .u32 a, .int .u16 p, .int .u32 b, .int .u16 q, .int .u8 r2, .int .u32 a2, .int .u16 p2, .int .u32 b2, .int .u16 q2, .int .i64 st, .int .i64 dl, h], .bool false] w (Ret1 (.agg #[.int .u32 a2, .int .u16 p2, .int .u32 b2, .int .u16 q2]) w) := by
  go_enter Tryz.func14, Tryz.ntmps14
  go_wp2_with fail
  have hn0 : NoW w ((w.alloc (.cells #[.int .u8 r, .int .u32 a, .int .u16 p, .int .u32 b, .int .u16 q, .int .u8 r2, .int .u32 a2, .int .u16 p2, .int .u32 b2, .int .u16 q2, .int .i64 st, .int .i64 dl, h] 31)).alloc (.cells #[.int .u32 0, .int .u16 0, .int .u32 0, .int .u16 0] 50)) := ((Fp.refl _ _).alloc _).alloc _
  have hb0 : ((w.alloc (.cells #[.int .u8 r, .int .u32 a, .int .u16 p, .int .u32 b, .int .u16 q, .int .u8 r2, .int .u32 a2, .int .u16 p2, .int .u32 b2, .int .u16 q2, .int .i64 st, .int .i64 dl, h] 31)).alloc (.cells #[.int .u32 0, .int .u16 0, .int .u32 0, .int .u16 0] 50)).heap[w.heap.size + 1]? = some (.cells #[.int .u32 0, .int .u16 0, .int .u32 0, .int .u16 0] 50) := by
    exact (box2 w _ _).2
  refine (other_f r a p b q r2 a2 p2 b2 q2 st dl h _).mono ?_
  rintro e v ⟨rfl, hp⟩
  have hb := (hp.block _ (Array.getElem?_eq_some_iff.1 hb0).1 id).trans hb0
  have Hn := Lib.hid (hn0.trans hp (fun _ _ h => h))
  have hgl : w.heap.size ≤ w.heap.size + 1 := by omega
  clear hp hn0 hb0
  generalize w.heap.size + 1 = g at *
  have lg : g < v.heap.size := (Array.getElem?_eq_some_iff.1 hb).1
  have c0 : v.cell? ⟨g, 0, none⟩ = some (.int .u32 0) := by simp [World.cell?, hb]
  have c1 : v.cell? ⟨g, 1, none⟩ = some (.int .u16 0) := by simp [World.cell?, hb]
  have c2 : v.cell? ⟨g, 2, none⟩ = some (.int .u32 0) := by simp [World.cell?, hb]
  have c3 : v.cell? ⟨g, 3, none⟩ = some (.int .u16 0) := by simp [World.cell?, hb]
  have z0 : v.frozen? ⟨g, 0, none⟩ = false := by simp [World.frozen?, hb]
  have z1 : v.frozen? ⟨g, 1, none⟩ = false := by simp [World.frozen?, hb]
  have z2 : v.frozen? ⟨g, 2, none⟩ = false := by simp [World.frozen?, hb]
  have z3 : v.frozen? ⟨g, 3, none⟩ = false := by simp [World.frozen?, hb]
  clear hb
  go_wp2_with fail
  refine bodyPost_ret (v := .agg #[.int .u32 a2, .int .u16 p2, .int .u32 b2, .int .u16 q2]) (by simp only [results, Tryz.results14]; go_simp) rfl ⟨rfl, ?_⟩
  repeat (first | exact Hn.out | refine Fp.alloc ?_ _ | (refine Fp.setCell ?_ (Or.inl (by assumption)) _))

end Go.Proofs.YtdmbjndhdldggaaGreatDoor
