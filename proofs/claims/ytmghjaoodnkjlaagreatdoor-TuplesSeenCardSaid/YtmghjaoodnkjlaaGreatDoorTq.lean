/- Chapter 08: watched (written by gen8w.py). -/
import Derived.Test.YtmghjaoodnkjlaaGreatDoorTp
import Derived.Laws.StructEq
namespace Go.Proofs.YtmghjaoodnkjlaaGreatDoor
set_option linter.unusedVariables false
set_option linter.unusedSimpArgs false
open Go.RowKit Go.Lib Go.Sort
set_option maxHeartbeats 16000000 in
set_option maxRecDepth 100000 in
theorem watched_ok (w : World) (hT : TbQ w) : Calls Tryz.prog 9 #[] w (Ret1 (.bool true) w) := by
  obtain ⟨p0, km0, ko0⟩ := ex0
  have KM0 := Lib.hid km0
  have KO0 := Lib.hid ko0
  clear km0 ko0
  obtain ⟨p1, km1, ko1⟩ := ex1
  have KM1 := Lib.hid km1
  have KO1 := Lib.hid ko1
  clear km1 ko1
  obtain ⟨p2, km2, ko2⟩ := ex2
  have KM2 := Lib.hid km2
  have KO2 := Lib.hid ko2
  clear km2 ko2
  obtain ⟨p3, km3, ko3⟩ := ex3
  have KM3 := Lib.hid km3
  have KO3 := Lib.hid ko3
  clear km3 ko3
  obtain ⟨p4, km4, ko4⟩ := ex4
  have KM4 := Lib.hid km4
  have KO4 := Lib.hid ko4
  clear km4 ko4
  obtain ⟨c0, kc0, kd0⟩ := ca0
  have KC0 := Lib.hid kc0
  have KD0 := Lib.hid kd0
  clear kc0 kd0
  obtain ⟨c1, kc1, kd1⟩ := ca1
  have KC1 := Lib.hid kc1
  have KD1 := Lib.hid kd1
  clear kc1 kd1
  obtain ⟨c2, kc2, kd2⟩ := ca2
  have KC2 := Lib.hid kc2
  have KD2 := Lib.hid kd2
  clear kc2 kd2
  have T0 := Lib.hid hT
  clear hT
  go_enter Tryz.func9, Tryz.ntmps9
  have N0 := Lib.hid (Fp.refl (fun _ => False) w)
  go_wp2_with fail
  refine (show Calls _ _ _ _ _ from ex_one0 _).mono ?_
  rintro e x1a ⟨rfl, hp⟩
  have T1 := Lib.hid (T0.out.low hp)
  have N1 := Lib.hid (N0.out.trans hp (fun _ _ h => h))
  clear T0 N0 hp
  go_wp2_with fail
  refine (show Calls _ _ _ _ _ from KM0.out _).mono ?_
  rintro e x1b ⟨rfl, hp⟩
  have T2 := Lib.hid (T1.out.low hp)
  have N2 := Lib.hid (N1.out.trans hp (fun _ _ h => h))
  clear T1 N1 hp
  go_wp2_with fail
  refine (show Calls _ _ _ _ _ from KO0.out _ T2.out.toP.base).mono ?_
  rintro e x1c ⟨rfl, hp⟩
  have T3 := Lib.hid (T2.out.low hp)
  have N3 := Lib.hid (N2.out.trans hp (fun _ _ h => h))
  clear T2 N2 hp
  go_upto_region 2 with fail
  have hbx := heap_alloc_new x1c (.cells #[.int .u8 17, .int .u32 167772161, .int .u16 5, .int .u32 16909060, .int .u16 53, .int .i64 2, .int .u8 0, .bool false, .int .u8 64] 31)
  have hp : NoW x1c (x1c.alloc (.cells #[.int .u8 17, .int .u32 167772161, .int .u16 5, .int .u32 16909060, .int .u16 53, .int .i64 2, .int .u8 0, .bool false, .int .u8 64] 31)) := (Fp.refl _ _).alloc _
  generalize x1c.alloc (.cells #[.int .u8 17, .int .u32 167772161, .int .u16 5, .int .u32 16909060, .int .u16 53, .int .i64 2, .int .u8 0, .bool false, .int .u8 64] 31) = x1d at *
  obtain ⟨g0, hg0⟩ : ∃ g0, g0 = x1c.heap.size := ⟨_, rfl⟩
  rw [← hg0] at hbx ⊢
  clear hg0
  have T4 := Lib.hid (T3.out.low hp)
  have N4 := Lib.hid (N3.out.trans hp (fun _ _ h => h))
  clear T3 N3 hp
  have Bg0 := Lib.hid hbx
  clear hbx
  go_wp2_with fail
  refine (show Calls _ _ _ _ _ from ex_one1 _).mono ?_
  rintro e x2a ⟨rfl, hp⟩
  have T5 := Lib.hid (T4.out.low hp)
  have N5 := Lib.hid (N4.out.trans hp (fun _ _ h => h))
  have Bg0' := Lib.hid ((hp.block _ (Array.getElem?_eq_some_iff.1 Bg0.out).1 id).trans Bg0.out)
  clear Bg0
  have Bg0 := Lib.hid Bg0'.out
  clear Bg0'
  clear T4 N4 hp
  go_wp2_with fail
  refine (show Calls _ _ _ _ _ from KM1.out _).mono ?_
  rintro e x2b ⟨rfl, hp⟩
  have T6 := Lib.hid (T5.out.low hp)
  have N6 := Lib.hid (N5.out.trans hp (fun _ _ h => h))
  have Bg0' := Lib.hid ((hp.block _ (Array.getElem?_eq_some_iff.1 Bg0.out).1 id).trans Bg0.out)
  clear Bg0
  have Bg0 := Lib.hid Bg0'.out
  clear Bg0'
  clear T5 N5 hp
  go_wp2_with fail
  refine (show Calls _ _ _ _ _ from KO1.out _ T6.out.toP.base).mono ?_
  rintro e x2c ⟨rfl, hp⟩
  have T7 := Lib.hid (T6.out.low hp)
  have N7 := Lib.hid (N6.out.trans hp (fun _ _ h => h))
  have Bg0' := Lib.hid ((hp.block _ (Array.getElem?_eq_some_iff.1 Bg0.out).1 id).trans Bg0.out)
  clear Bg0
  have Bg0 := Lib.hid Bg0'.out
  clear Bg0'
  clear T6 N6 hp
  go_upto_region 3 with fail
  have hbx := heap_alloc_new x2c (.cells #[.int .u8 6, .int .u32 167772161, .int .u16 5, .int .u32 16909060, .int .u16 80, .int .i64 1, .int .u8 2, .bool false, .int .u8 64] 31)
  have hp : NoW x2c (x2c.alloc (.cells #[.int .u8 6, .int .u32 167772161, .int .u16 5, .int .u32 16909060, .int .u16 80, .int .i64 1, .int .u8 2, .bool false, .int .u8 64] 31)) := (Fp.refl _ _).alloc _
  generalize x2c.alloc (.cells #[.int .u8 6, .int .u32 167772161, .int .u16 5, .int .u32 16909060, .int .u16 80, .int .i64 1, .int .u8 2, .bool false, .int .u8 64] 31) = x2d at *
  obtain ⟨g1, hg1⟩ : ∃ g1, g1 = x2c.heap.size := ⟨_, rfl⟩
  rw [← hg1] at hbx ⊢
  clear hg1
  have T8 := Lib.hid (T7.out.low hp)
  have N8 := Lib.hid (N7.out.trans hp (fun _ _ h => h))
  have Bg0' := Lib.hid ((hp.block _ (Array.getElem?_eq_some_iff.1 Bg0.out).1 id).trans Bg0.out)
  clear Bg0
  have Bg0 := Lib.hid Bg0'.out
  clear Bg0'
  clear T7 N7 hp
  have Bg1 := Lib.hid hbx
  clear hbx
  go_wp2_with fail
  refine (show Calls _ _ _ _ _ from ex_one2 _).mono ?_
  rintro e x3a ⟨rfl, hp⟩
  have T9 := Lib.hid (T8.out.low hp)
  have N9 := Lib.hid (N8.out.trans hp (fun _ _ h => h))
  have Bg0' := Lib.hid ((hp.block _ (Array.getElem?_eq_some_iff.1 Bg0.out).1 id).trans Bg0.out)
  clear Bg0
  have Bg0 := Lib.hid Bg0'.out
  clear Bg0'
  have Bg1' := Lib.hid ((hp.block _ (Array.getElem?_eq_some_iff.1 Bg1.out).1 id).trans Bg1.out)
  clear Bg1
  have Bg1 := Lib.hid Bg1'.out
  clear Bg1'
  clear T8 N8 hp
  go_wp2_with fail
  refine (show Calls _ _ _ _ _ from KM2.out _).mono ?_
  rintro e x3b ⟨rfl, hp⟩
  have T10 := Lib.hid (T9.out.low hp)
  have N10 := Lib.hid (N9.out.trans hp (fun _ _ h => h))
  have Bg0' := Lib.hid ((hp.block _ (Array.getElem?_eq_some_iff.1 Bg0.out).1 id).trans Bg0.out)
  clear Bg0
  have Bg0 := Lib.hid Bg0'.out
  clear Bg0'
  have Bg1' := Lib.hid ((hp.block _ (Array.getElem?_eq_some_iff.1 Bg1.out).1 id).trans Bg1.out)
  clear Bg1
  have Bg1 := Lib.hid Bg1'.out
  clear Bg1'
  clear T9 N9 hp
  go_wp2_with fail
  refine (show Calls _ _ _ _ _ from KO2.out _ T10.out.toP.base).mono ?_
  rintro e x3c ⟨rfl, hp⟩
  have T11 := Lib.hid (T10.out.low hp)
  have N11 := Lib.hid (N10.out.trans hp (fun _ _ h => h))
  have Bg0' := Lib.hid ((hp.block _ (Array.getElem?_eq_some_iff.1 Bg0.out).1 id).trans Bg0.out)
  clear Bg0
  have Bg0 := Lib.hid Bg0'.out
  clear Bg0'
  have Bg1' := Lib.hid ((hp.block _ (Array.getElem?_eq_some_iff.1 Bg1.out).1 id).trans Bg1.out)
  clear Bg1
  have Bg1 := Lib.hid Bg1'.out
  clear Bg1'
  clear T10 N10 hp
  go_upto_region 4 with fail
  have hbx := heap_alloc_new x3c (.cells #[.int .u8 6, .int .u32 167772161, .int .u16 5, .int .u32 16909060, .int .u16 80, .int .i64 2, .int .u8 18, .bool false, .int .u8 64] 31)
  have hp : NoW x3c (x3c.alloc (.cells #[.int .u8 6, .int .u32 167772161, .int .u16 5, .int .u32 16909060, .int .u16 80, .int .i64 2, .int .u8 18, .bool false, .int .u8 64] 31)) := (Fp.refl _ _).alloc _
  generalize x3c.alloc (.cells #[.int .u8 6, .int .u32 167772161, .int .u16 5, .int .u32 16909060, .int .u16 80, .int .i64 2, .int .u8 18, .bool false, .int .u8 64] 31) = x3d at *
  obtain ⟨g2, hg2⟩ : ∃ g2, g2 = x3c.heap.size := ⟨_, rfl⟩
  rw [← hg2] at hbx ⊢
  clear hg2
  have T12 := Lib.hid (T11.out.low hp)
  have N12 := Lib.hid (N11.out.trans hp (fun _ _ h => h))
  have Bg0' := Lib.hid ((hp.block _ (Array.getElem?_eq_some_iff.1 Bg0.out).1 id).trans Bg0.out)
  clear Bg0
  have Bg0 := Lib.hid Bg0'.out
  clear Bg0'
  have Bg1' := Lib.hid ((hp.block _ (Array.getElem?_eq_some_iff.1 Bg1.out).1 id).trans Bg1.out)
  clear Bg1
  have Bg1 := Lib.hid Bg1'.out
  clear Bg1'
  clear T11 N11 hp
  have Bg2 := Lib.hid hbx
  clear hbx
  go_wp2_with fail
  refine (show Calls _ _ _ _ _ from ex_one3 _).mono ?_
  rintro e x4a ⟨rfl, hp⟩
  have T13 := Lib.hid (T12.out.low hp)
  have N13 := Lib.hid (N12.out.trans hp (fun _ _ h => h))
  have Bg0' := Lib.hid ((hp.block _ (Array.getElem?_eq_some_iff.1 Bg0.out).1 id).trans Bg0.out)
  clear Bg0
  have Bg0 := Lib.hid Bg0'.out
  clear Bg0'
  have Bg1' := Lib.hid ((hp.block _ (Array.getElem?_eq_some_iff.1 Bg1.out).1 id).trans Bg1.out)
  clear Bg1
  have Bg1 := Lib.hid Bg1'.out
  clear Bg1'
  have Bg2' := Lib.hid ((hp.block _ (Array.getElem?_eq_some_iff.1 Bg2.out).1 id).trans Bg2.out)
  clear Bg2
  have Bg2 := Lib.hid Bg2'.out
  clear Bg2'
  clear T12 N12 hp
  go_wp2_with fail
  refine (show Calls _ _ _ _ _ from KM3.out _).mono ?_
  rintro e x4b ⟨rfl, hp⟩
  have T14 := Lib.hid (T13.out.low hp)
  have N14 := Lib.hid (N13.out.trans hp (fun _ _ h => h))
  have Bg0' := Lib.hid ((hp.block _ (Array.getElem?_eq_some_iff.1 Bg0.out).1 id).trans Bg0.out)
  clear Bg0
  have Bg0 := Lib.hid Bg0'.out
  clear Bg0'
  have Bg1' := Lib.hid ((hp.block _ (Array.getElem?_eq_some_iff.1 Bg1.out).1 id).trans Bg1.out)
  clear Bg1
  have Bg1 := Lib.hid Bg1'.out
  clear Bg1'
  have Bg2' := Lib.hid ((hp.block _ (Array.getElem?_eq_some_iff.1 Bg2.out).1 id).trans Bg2.out)
  clear Bg2
  have Bg2 := Lib.hid Bg2'.out
  clear Bg2'
  clear T13 N13 hp
  go_wp2_with fail
  refine (show Calls _ _ _ _ _ from KO3.out _ T14.out.toP.base).mono ?_
  rintro e x4c ⟨rfl, hp⟩
  have T15 := Lib.hid (T14.out.low hp)
  have N15 := Lib.hid (N14.out.trans hp (fun _ _ h => h))
  have Bg0' := Lib.hid ((hp.block _ (Array.getElem?_eq_some_iff.1 Bg0.out).1 id).trans Bg0.out)
  clear Bg0
  have Bg0 := Lib.hid Bg0'.out
  clear Bg0'
  have Bg1' := Lib.hid ((hp.block _ (Array.getElem?_eq_some_iff.1 Bg1.out).1 id).trans Bg1.out)
  clear Bg1
  have Bg1 := Lib.hid Bg1'.out
  clear Bg1'
  have Bg2' := Lib.hid ((hp.block _ (Array.getElem?_eq_some_iff.1 Bg2.out).1 id).trans Bg2.out)
  clear Bg2
  have Bg2 := Lib.hid Bg2'.out
  clear Bg2'
  clear T14 N14 hp
  go_upto_region 5 with fail
  have hbx := heap_alloc_new x4c (.cells #[.int .u8 1, .int .u32 167772161, .int .u16 7, .int .u32 16909060, .int .u16 0, .int .i64 2, .int .u8 0, .bool true, .int .u8 64] 31)
  have hp : NoW x4c (x4c.alloc (.cells #[.int .u8 1, .int .u32 167772161, .int .u16 7, .int .u32 16909060, .int .u16 0, .int .i64 2, .int .u8 0, .bool true, .int .u8 64] 31)) := (Fp.refl _ _).alloc _
  generalize x4c.alloc (.cells #[.int .u8 1, .int .u32 167772161, .int .u16 7, .int .u32 16909060, .int .u16 0, .int .i64 2, .int .u8 0, .bool true, .int .u8 64] 31) = x4d at *
  obtain ⟨g3, hg3⟩ : ∃ g3, g3 = x4c.heap.size := ⟨_, rfl⟩
  rw [← hg3] at hbx ⊢
  clear hg3
  have T16 := Lib.hid (T15.out.low hp)
  have N16 := Lib.hid (N15.out.trans hp (fun _ _ h => h))
  have Bg0' := Lib.hid ((hp.block _ (Array.getElem?_eq_some_iff.1 Bg0.out).1 id).trans Bg0.out)
  clear Bg0
  have Bg0 := Lib.hid Bg0'.out
  clear Bg0'
  have Bg1' := Lib.hid ((hp.block _ (Array.getElem?_eq_some_iff.1 Bg1.out).1 id).trans Bg1.out)
  clear Bg1
  have Bg1 := Lib.hid Bg1'.out
  clear Bg1'
  have Bg2' := Lib.hid ((hp.block _ (Array.getElem?_eq_some_iff.1 Bg2.out).1 id).trans Bg2.out)
  clear Bg2
  have Bg2 := Lib.hid Bg2'.out
  clear Bg2'
  clear T15 N15 hp
  have Bg3 := Lib.hid hbx
  clear hbx
  go_wp2_with fail
  refine (show Calls _ _ _ _ _ from ex_one4 _).mono ?_
  rintro e x5a ⟨rfl, hp⟩
  have T17 := Lib.hid (T16.out.low hp)
  have N17 := Lib.hid (N16.out.trans hp (fun _ _ h => h))
  have Bg0' := Lib.hid ((hp.block _ (Array.getElem?_eq_some_iff.1 Bg0.out).1 id).trans Bg0.out)
  clear Bg0
  have Bg0 := Lib.hid Bg0'.out
  clear Bg0'
  have Bg1' := Lib.hid ((hp.block _ (Array.getElem?_eq_some_iff.1 Bg1.out).1 id).trans Bg1.out)
  clear Bg1
  have Bg1 := Lib.hid Bg1'.out
  clear Bg1'
  have Bg2' := Lib.hid ((hp.block _ (Array.getElem?_eq_some_iff.1 Bg2.out).1 id).trans Bg2.out)
  clear Bg2
  have Bg2 := Lib.hid Bg2'.out
  clear Bg2'
  have Bg3' := Lib.hid ((hp.block _ (Array.getElem?_eq_some_iff.1 Bg3.out).1 id).trans Bg3.out)
  clear Bg3
  have Bg3 := Lib.hid Bg3'.out
  clear Bg3'
  clear T16 N16 hp
  go_wp2_with fail
  refine (show Calls _ _ _ _ _ from KM4.out _).mono ?_
  rintro e x5b ⟨rfl, hp⟩
  have T18 := Lib.hid (T17.out.low hp)
  have N18 := Lib.hid (N17.out.trans hp (fun _ _ h => h))
  have Bg0' := Lib.hid ((hp.block _ (Array.getElem?_eq_some_iff.1 Bg0.out).1 id).trans Bg0.out)
  clear Bg0
  have Bg0 := Lib.hid Bg0'.out
  clear Bg0'
  have Bg1' := Lib.hid ((hp.block _ (Array.getElem?_eq_some_iff.1 Bg1.out).1 id).trans Bg1.out)
  clear Bg1
  have Bg1 := Lib.hid Bg1'.out
  clear Bg1'
  have Bg2' := Lib.hid ((hp.block _ (Array.getElem?_eq_some_iff.1 Bg2.out).1 id).trans Bg2.out)
  clear Bg2
  have Bg2 := Lib.hid Bg2'.out
  clear Bg2'
  have Bg3' := Lib.hid ((hp.block _ (Array.getElem?_eq_some_iff.1 Bg3.out).1 id).trans Bg3.out)
  clear Bg3
  have Bg3 := Lib.hid Bg3'.out
  clear Bg3'
  clear T17 N17 hp
  go_wp2_with fail
  refine (show Calls _ _ _ _ _ from KO4.out _ T18.out.toP.base).mono ?_
  rintro e x5c ⟨rfl, hp⟩
  have T19 := Lib.hid (T18.out.low hp)
  have N19 := Lib.hid (N18.out.trans hp (fun _ _ h => h))
  have Bg0' := Lib.hid ((hp.block _ (Array.getElem?_eq_some_iff.1 Bg0.out).1 id).trans Bg0.out)
  clear Bg0
  have Bg0 := Lib.hid Bg0'.out
  clear Bg0'
  have Bg1' := Lib.hid ((hp.block _ (Array.getElem?_eq_some_iff.1 Bg1.out).1 id).trans Bg1.out)
  clear Bg1
  have Bg1 := Lib.hid Bg1'.out
  clear Bg1'
  have Bg2' := Lib.hid ((hp.block _ (Array.getElem?_eq_some_iff.1 Bg2.out).1 id).trans Bg2.out)
  clear Bg2
  have Bg2 := Lib.hid Bg2'.out
  clear Bg2'
  have Bg3' := Lib.hid ((hp.block _ (Array.getElem?_eq_some_iff.1 Bg3.out).1 id).trans Bg3.out)
  clear Bg3
  have Bg3 := Lib.hid Bg3'.out
  clear Bg3'
  clear T18 N18 hp
  go_upto_region 6 with fail
  have hbx := heap_alloc_new x5c (.cells #[.int .u8 1, .int .u32 167772161, .int .u16 0, .int .u32 16909060, .int .u16 7, .int .i64 2, .int .u8 0, .bool false, .int .u8 64] 31)
  have hp : NoW x5c (x5c.alloc (.cells #[.int .u8 1, .int .u32 167772161, .int .u16 0, .int .u32 16909060, .int .u16 7, .int .i64 2, .int .u8 0, .bool false, .int .u8 64] 31)) := (Fp.refl _ _).alloc _
  generalize x5c.alloc (.cells #[.int .u8 1, .int .u32 167772161, .int .u16 0, .int .u32 16909060, .int .u16 7, .int .i64 2, .int .u8 0, .bool false, .int .u8 64] 31) = x5d at *
  obtain ⟨g4, hg4⟩ : ∃ g4, g4 = x5c.heap.size := ⟨_, rfl⟩
  rw [← hg4] at hbx ⊢
  clear hg4
  have T20 := Lib.hid (T19.out.low hp)
  have N20 := Lib.hid (N19.out.trans hp (fun _ _ h => h))
  have Bg0' := Lib.hid ((hp.block _ (Array.getElem?_eq_some_iff.1 Bg0.out).1 id).trans Bg0.out)
  clear Bg0
  have Bg0 := Lib.hid Bg0'.out
  clear Bg0'
  have Bg1' := Lib.hid ((hp.block _ (Array.getElem?_eq_some_iff.1 Bg1.out).1 id).trans Bg1.out)
  clear Bg1
  have Bg1 := Lib.hid Bg1'.out
  clear Bg1'
  have Bg2' := Lib.hid ((hp.block _ (Array.getElem?_eq_some_iff.1 Bg2.out).1 id).trans Bg2.out)
  clear Bg2
  have Bg2 := Lib.hid Bg2'.out
  clear Bg2'
  have Bg3' := Lib.hid ((hp.block _ (Array.getElem?_eq_some_iff.1 Bg3.out).1 id).trans Bg3.out)
  clear Bg3
  have Bg3 := Lib.hid Bg3'.out
  clear Bg3'
  clear T19 N19 hp
  have Bg4 := Lib.hid hbx
  clear hbx
  go_wp2_with fail
  refine (show Calls _ _ _ _ _ from KC0.out _).mono ?_
  rintro e x6b ⟨rfl, hp⟩
  have T21 := Lib.hid (T20.out.low hp)
  have N21 := Lib.hid (N20.out.trans hp (fun _ _ h => h))
  have Bg0' := Lib.hid ((hp.block _ (Array.getElem?_eq_some_iff.1 Bg0.out).1 id).trans Bg0.out)
  clear Bg0
  have Bg0 := Lib.hid Bg0'.out
  clear Bg0'
  have Bg1' := Lib.hid ((hp.block _ (Array.getElem?_eq_some_iff.1 Bg1.out).1 id).trans Bg1.out)
  clear Bg1
  have Bg1 := Lib.hid Bg1'.out
  clear Bg1'
  have Bg2' := Lib.hid ((hp.block _ (Array.getElem?_eq_some_iff.1 Bg2.out).1 id).trans Bg2.out)
  clear Bg2
  have Bg2 := Lib.hid Bg2'.out
  clear Bg2'
  have Bg3' := Lib.hid ((hp.block _ (Array.getElem?_eq_some_iff.1 Bg3.out).1 id).trans Bg3.out)
  clear Bg3
  have Bg3 := Lib.hid Bg3'.out
  clear Bg3'
  have Bg4' := Lib.hid ((hp.block _ (Array.getElem?_eq_some_iff.1 Bg4.out).1 id).trans Bg4.out)
  clear Bg4
  have Bg4 := Lib.hid Bg4'.out
  clear Bg4'
  clear T20 N20 hp
  go_wp2_with fail
  refine (show Calls _ _ _ _ _ from KD0.out _ T21.out.toP.base).mono ?_
  rintro e x6c ⟨rfl, hp⟩
  have T22 := Lib.hid (T21.out.low hp)
  have N22 := Lib.hid (N21.out.trans hp (fun _ _ h => h))
  have Bg0' := Lib.hid ((hp.block _ (Array.getElem?_eq_some_iff.1 Bg0.out).1 id).trans Bg0.out)
  clear Bg0
  have Bg0 := Lib.hid Bg0'.out
  clear Bg0'
  have Bg1' := Lib.hid ((hp.block _ (Array.getElem?_eq_some_iff.1 Bg1.out).1 id).trans Bg1.out)
  clear Bg1
  have Bg1 := Lib.hid Bg1'.out
  clear Bg1'
  have Bg2' := Lib.hid ((hp.block _ (Array.getElem?_eq_some_iff.1 Bg2.out).1 id).trans Bg2.out)
  clear Bg2
  have Bg2 := Lib.hid Bg2'.out
  clear Bg2'
  have Bg3' := Lib.hid ((hp.block _ (Array.getElem?_eq_some_iff.1 Bg3.out).1 id).trans Bg3.out)
  clear Bg3
  have Bg3 := Lib.hid Bg3'.out
  clear Bg3'
  have Bg4' := Lib.hid ((hp.block _ (Array.getElem?_eq_some_iff.1 Bg4.out).1 id).trans Bg4.out)
  clear Bg4
  have Bg4 := Lib.hid Bg4'.out
  clear Bg4'
  clear T21 N21 hp
  go_upto_region 7 with fail
  have hp : NoW x6c (x6c.alloc (.cells #[.int .u8 0, .int .u32 0, .int .u16 0, .int .u32 0, .int .u16 0, .int .i64 0, .int .u8 0, .bool false, .int .u8 0] 31)) := (Fp.refl _ _).alloc _
  generalize x6c.alloc (.cells #[.int .u8 0, .int .u32 0, .int .u16 0, .int .u32 0, .int .u16 0, .int .i64 0, .int .u8 0, .bool false, .int .u8 0] 31) = x6d at *
  have T23 := Lib.hid (T22.out.low hp)
  have N23 := Lib.hid (N22.out.trans hp (fun _ _ h => h))
  have Bg0' := Lib.hid ((hp.block _ (Array.getElem?_eq_some_iff.1 Bg0.out).1 id).trans Bg0.out)
  clear Bg0
  have Bg0 := Lib.hid Bg0'.out
  clear Bg0'
  have Bg1' := Lib.hid ((hp.block _ (Array.getElem?_eq_some_iff.1 Bg1.out).1 id).trans Bg1.out)
  clear Bg1
  have Bg1 := Lib.hid Bg1'.out
  clear Bg1'
  have Bg2' := Lib.hid ((hp.block _ (Array.getElem?_eq_some_iff.1 Bg2.out).1 id).trans Bg2.out)
  clear Bg2
  have Bg2 := Lib.hid Bg2'.out
  clear Bg2'
  have Bg3' := Lib.hid ((hp.block _ (Array.getElem?_eq_some_iff.1 Bg3.out).1 id).trans Bg3.out)
  clear Bg3
  have Bg3 := Lib.hid Bg3'.out
  clear Bg3'
  have Bg4' := Lib.hid ((hp.block _ (Array.getElem?_eq_some_iff.1 Bg4.out).1 id).trans Bg4.out)
  clear Bg4
  have Bg4 := Lib.hid Bg4'.out
  clear Bg4'
  clear T22 N22 hp
  go_wp2_with fail
  refine (show Calls _ _ _ _ _ from KC1.out _).mono ?_
  rintro e x7b ⟨rfl, hp⟩
  have T24 := Lib.hid (T23.out.low hp)
  have N24 := Lib.hid (N23.out.trans hp (fun _ _ h => h))
  have Bg0' := Lib.hid ((hp.block _ (Array.getElem?_eq_some_iff.1 Bg0.out).1 id).trans Bg0.out)
  clear Bg0
  have Bg0 := Lib.hid Bg0'.out
  clear Bg0'
  have Bg1' := Lib.hid ((hp.block _ (Array.getElem?_eq_some_iff.1 Bg1.out).1 id).trans Bg1.out)
  clear Bg1
  have Bg1 := Lib.hid Bg1'.out
  clear Bg1'
  have Bg2' := Lib.hid ((hp.block _ (Array.getElem?_eq_some_iff.1 Bg2.out).1 id).trans Bg2.out)
  clear Bg2
  have Bg2 := Lib.hid Bg2'.out
  clear Bg2'
  have Bg3' := Lib.hid ((hp.block _ (Array.getElem?_eq_some_iff.1 Bg3.out).1 id).trans Bg3.out)
  clear Bg3
  have Bg3 := Lib.hid Bg3'.out
  clear Bg3'
  have Bg4' := Lib.hid ((hp.block _ (Array.getElem?_eq_some_iff.1 Bg4.out).1 id).trans Bg4.out)
  clear Bg4
  have Bg4 := Lib.hid Bg4'.out
  clear Bg4'
  clear T23 N23 hp
  go_wp2_with fail
  refine (show Calls _ _ _ _ _ from KD1.out _ T24.out.toP.base).mono ?_
  rintro e x7c ⟨rfl, hp⟩
  have T25 := Lib.hid (T24.out.low hp)
  have N25 := Lib.hid (N24.out.trans hp (fun _ _ h => h))
  have Bg0' := Lib.hid ((hp.block _ (Array.getElem?_eq_some_iff.1 Bg0.out).1 id).trans Bg0.out)
  clear Bg0
  have Bg0 := Lib.hid Bg0'.out
  clear Bg0'
  have Bg1' := Lib.hid ((hp.block _ (Array.getElem?_eq_some_iff.1 Bg1.out).1 id).trans Bg1.out)
  clear Bg1
  have Bg1 := Lib.hid Bg1'.out
  clear Bg1'
  have Bg2' := Lib.hid ((hp.block _ (Array.getElem?_eq_some_iff.1 Bg2.out).1 id).trans Bg2.out)
  clear Bg2
  have Bg2 := Lib.hid Bg2'.out
  clear Bg2'
  have Bg3' := Lib.hid ((hp.block _ (Array.getElem?_eq_some_iff.1 Bg3.out).1 id).trans Bg3.out)
  clear Bg3
  have Bg3 := Lib.hid Bg3'.out
  clear Bg3'
  have Bg4' := Lib.hid ((hp.block _ (Array.getElem?_eq_some_iff.1 Bg4.out).1 id).trans Bg4.out)
  clear Bg4
  have Bg4 := Lib.hid Bg4'.out
  clear Bg4'
  clear T24 N24 hp
  go_upto_region 8 with fail
  have hp : NoW x7c (x7c.alloc (.cells #[.int .u8 0, .int .u32 0, .int .u16 0, .int .u32 0, .int .u16 0, .int .i64 0, .int .u8 0, .bool false, .int .u8 0] 31)) := (Fp.refl _ _).alloc _
  generalize x7c.alloc (.cells #[.int .u8 0, .int .u32 0, .int .u16 0, .int .u32 0, .int .u16 0, .int .i64 0, .int .u8 0, .bool false, .int .u8 0] 31) = x7d at *
  have T26 := Lib.hid (T25.out.low hp)
  have N26 := Lib.hid (N25.out.trans hp (fun _ _ h => h))
  have Bg0' := Lib.hid ((hp.block _ (Array.getElem?_eq_some_iff.1 Bg0.out).1 id).trans Bg0.out)
  clear Bg0
  have Bg0 := Lib.hid Bg0'.out
  clear Bg0'
  have Bg1' := Lib.hid ((hp.block _ (Array.getElem?_eq_some_iff.1 Bg1.out).1 id).trans Bg1.out)
  clear Bg1
  have Bg1 := Lib.hid Bg1'.out
  clear Bg1'
  have Bg2' := Lib.hid ((hp.block _ (Array.getElem?_eq_some_iff.1 Bg2.out).1 id).trans Bg2.out)
  clear Bg2
  have Bg2 := Lib.hid Bg2'.out
  clear Bg2'
  have Bg3' := Lib.hid ((hp.block _ (Array.getElem?_eq_some_iff.1 Bg3.out).1 id).trans Bg3.out)
  clear Bg3
  have Bg3 := Lib.hid Bg3'.out
  clear Bg3'
  have Bg4' := Lib.hid ((hp.block _ (Array.getElem?_eq_some_iff.1 Bg4.out).1 id).trans Bg4.out)
  clear Bg4
  have Bg4 := Lib.hid Bg4'.out
  clear Bg4'
  clear T25 N25 hp
  go_wp2_with fail
  refine (show Calls _ _ _ _ _ from KC2.out _).mono ?_
  rintro e x8b ⟨rfl, hp⟩
  have T27 := Lib.hid (T26.out.low hp)
  have N27 := Lib.hid (N26.out.trans hp (fun _ _ h => h))
  have Bg0' := Lib.hid ((hp.block _ (Array.getElem?_eq_some_iff.1 Bg0.out).1 id).trans Bg0.out)
  clear Bg0
  have Bg0 := Lib.hid Bg0'.out
  clear Bg0'
  have Bg1' := Lib.hid ((hp.block _ (Array.getElem?_eq_some_iff.1 Bg1.out).1 id).trans Bg1.out)
  clear Bg1
  have Bg1 := Lib.hid Bg1'.out
  clear Bg1'
  have Bg2' := Lib.hid ((hp.block _ (Array.getElem?_eq_some_iff.1 Bg2.out).1 id).trans Bg2.out)
  clear Bg2
  have Bg2 := Lib.hid Bg2'.out
  clear Bg2'
  have Bg3' := Lib.hid ((hp.block _ (Array.getElem?_eq_some_iff.1 Bg3.out).1 id).trans Bg3.out)
  clear Bg3
  have Bg3 := Lib.hid Bg3'.out
  clear Bg3'
  have Bg4' := Lib.hid ((hp.block _ (Array.getElem?_eq_some_iff.1 Bg4.out).1 id).trans Bg4.out)
  clear Bg4
  have Bg4 := Lib.hid Bg4'.out
  clear Bg4'
  clear T26 N26 hp
  go_wp2_with fail
  refine (show Calls _ _ _ _ _ from KD2.out _ T27.out.toP.base).mono ?_
  rintro e x8c ⟨rfl, hp⟩
  have T28 := Lib.hid (T27.out.low hp)
  have N28 := Lib.hid (N27.out.trans hp (fun _ _ h => h))
  have Bg0' := Lib.hid ((hp.block _ (Array.getElem?_eq_some_iff.1 Bg0.out).1 id).trans Bg0.out)
  clear Bg0
  have Bg0 := Lib.hid Bg0'.out
  clear Bg0'
  have Bg1' := Lib.hid ((hp.block _ (Array.getElem?_eq_some_iff.1 Bg1.out).1 id).trans Bg1.out)
  clear Bg1
  have Bg1 := Lib.hid Bg1'.out
  clear Bg1'
  have Bg2' := Lib.hid ((hp.block _ (Array.getElem?_eq_some_iff.1 Bg2.out).1 id).trans Bg2.out)
  clear Bg2
  have Bg2 := Lib.hid Bg2'.out
  clear Bg2'
  have Bg3' := Lib.hid ((hp.block _ (Array.getElem?_eq_some_iff.1 Bg3.out).1 id).trans Bg3.out)
  clear Bg3
  have Bg3 := Lib.hid Bg3'.out
  clear Bg3'
  have Bg4' := Lib.hid ((hp.block _ (Array.getElem?_eq_some_iff.1 Bg4.out).1 id).trans Bg4.out)
  clear Bg4
  have Bg4 := Lib.hid Bg4'.out
  clear Bg4'
  clear T27 N27 hp
  go_upto_region 9 with fail
  have hp : NoW x8c (x8c.alloc (.cells #[.int .u8 0, .int .u32 0, .int .u16 0, .int .u32 0, .int .u16 0, .int .i64 0, .int .u8 0, .bool false, .int .u8 0] 31)) := (Fp.refl _ _).alloc _
  generalize x8c.alloc (.cells #[.int .u8 0, .int .u32 0, .int .u16 0, .int .u32 0, .int .u16 0, .int .i64 0, .int .u8 0, .bool false, .int .u8 0] 31) = x8d at *
  have T29 := Lib.hid (T28.out.low hp)
  have N29 := Lib.hid (N28.out.trans hp (fun _ _ h => h))
  have Bg0' := Lib.hid ((hp.block _ (Array.getElem?_eq_some_iff.1 Bg0.out).1 id).trans Bg0.out)
  clear Bg0
  have Bg0 := Lib.hid Bg0'.out
  clear Bg0'
  have Bg1' := Lib.hid ((hp.block _ (Array.getElem?_eq_some_iff.1 Bg1.out).1 id).trans Bg1.out)
  clear Bg1
  have Bg1 := Lib.hid Bg1'.out
  clear Bg1'
  have Bg2' := Lib.hid ((hp.block _ (Array.getElem?_eq_some_iff.1 Bg2.out).1 id).trans Bg2.out)
  clear Bg2
  have Bg2 := Lib.hid Bg2'.out
  clear Bg2'
  have Bg3' := Lib.hid ((hp.block _ (Array.getElem?_eq_some_iff.1 Bg3.out).1 id).trans Bg3.out)
  clear Bg3
  have Bg3 := Lib.hid Bg3'.out
  clear Bg3'
  have Bg4' := Lib.hid ((hp.block _ (Array.getElem?_eq_some_iff.1 Bg4.out).1 id).trans Bg4.out)
  clear Bg4
  have Bg4 := Lib.hid Bg4'.out
  clear Bg4'
  clear T28 N28 hp
  go_wp2_with fail
  refine (show Calls _ _ _ _ _ from pa0 _ T29.out).mono ?_
  rintro e x9c ⟨rfl, hp⟩
  have T30 := Lib.hid (T29.out.low hp)
  have N30 := Lib.hid (N29.out.trans hp (fun _ _ h => h))
  have Bg0' := Lib.hid ((hp.block _ (Array.getElem?_eq_some_iff.1 Bg0.out).1 id).trans Bg0.out)
  clear Bg0
  have Bg0 := Lib.hid Bg0'.out
  clear Bg0'
  have Bg1' := Lib.hid ((hp.block _ (Array.getElem?_eq_some_iff.1 Bg1.out).1 id).trans Bg1.out)
  clear Bg1
  have Bg1 := Lib.hid Bg1'.out
  clear Bg1'
  have Bg2' := Lib.hid ((hp.block _ (Array.getElem?_eq_some_iff.1 Bg2.out).1 id).trans Bg2.out)
  clear Bg2
  have Bg2 := Lib.hid Bg2'.out
  clear Bg2'
  have Bg3' := Lib.hid ((hp.block _ (Array.getElem?_eq_some_iff.1 Bg3.out).1 id).trans Bg3.out)
  clear Bg3
  have Bg3 := Lib.hid Bg3'.out
  clear Bg3'
  have Bg4' := Lib.hid ((hp.block _ (Array.getElem?_eq_some_iff.1 Bg4.out).1 id).trans Bg4.out)
  clear Bg4
  have Bg4 := Lib.hid Bg4'.out
  clear Bg4'
  clear T29 N29 hp
  go_upto_region 10 with fail
  have hp : NoW x9c (x9c.alloc (.cells #[.int .u8 0, .int .u32 0, .int .u16 0, .int .u32 0, .int .u16 0] 29)) := (Fp.refl _ _).alloc _
  generalize x9c.alloc (.cells #[.int .u8 0, .int .u32 0, .int .u16 0, .int .u32 0, .int .u16 0] 29) = x9d at *
  have T31 := Lib.hid (T30.out.low hp)
  have N31 := Lib.hid (N30.out.trans hp (fun _ _ h => h))
  have Bg0' := Lib.hid ((hp.block _ (Array.getElem?_eq_some_iff.1 Bg0.out).1 id).trans Bg0.out)
  clear Bg0
  have Bg0 := Lib.hid Bg0'.out
  clear Bg0'
  have Bg1' := Lib.hid ((hp.block _ (Array.getElem?_eq_some_iff.1 Bg1.out).1 id).trans Bg1.out)
  clear Bg1
  have Bg1 := Lib.hid Bg1'.out
  clear Bg1'
  have Bg2' := Lib.hid ((hp.block _ (Array.getElem?_eq_some_iff.1 Bg2.out).1 id).trans Bg2.out)
  clear Bg2
  have Bg2 := Lib.hid Bg2'.out
  clear Bg2'
  have Bg3' := Lib.hid ((hp.block _ (Array.getElem?_eq_some_iff.1 Bg3.out).1 id).trans Bg3.out)
  clear Bg3
  have Bg3 := Lib.hid Bg3'.out
  clear Bg3'
  have Bg4' := Lib.hid ((hp.block _ (Array.getElem?_eq_some_iff.1 Bg4.out).1 id).trans Bg4.out)
  clear Bg4
  have Bg4 := Lib.hid Bg4'.out
  clear Bg4'
  clear T30 N30 hp
  go_wp2_with fail
  refine (show Calls _ _ _ _ _ from pa1 _ T31.out).mono ?_
  rintro e x10c ⟨rfl, hp⟩
  have T32 := Lib.hid (T31.out.low hp)
  have N32 := Lib.hid (N31.out.trans hp (fun _ _ h => h))
  have Bg0' := Lib.hid ((hp.block _ (Array.getElem?_eq_some_iff.1 Bg0.out).1 id).trans Bg0.out)
  clear Bg0
  have Bg0 := Lib.hid Bg0'.out
  clear Bg0'
  have Bg1' := Lib.hid ((hp.block _ (Array.getElem?_eq_some_iff.1 Bg1.out).1 id).trans Bg1.out)
  clear Bg1
  have Bg1 := Lib.hid Bg1'.out
  clear Bg1'
  have Bg2' := Lib.hid ((hp.block _ (Array.getElem?_eq_some_iff.1 Bg2.out).1 id).trans Bg2.out)
  clear Bg2
  have Bg2 := Lib.hid Bg2'.out
  clear Bg2'
  have Bg3' := Lib.hid ((hp.block _ (Array.getElem?_eq_some_iff.1 Bg3.out).1 id).trans Bg3.out)
  clear Bg3
  have Bg3 := Lib.hid Bg3'.out
  clear Bg3'
  have Bg4' := Lib.hid ((hp.block _ (Array.getElem?_eq_some_iff.1 Bg4.out).1 id).trans Bg4.out)
  clear Bg4
  have Bg4 := Lib.hid Bg4'.out
  clear Bg4'
  clear T31 N31 hp
  go_upto_region 11 with fail
  have hp : NoW x10c (x10c.alloc (.cells #[.int .u8 0, .int .u32 0, .int .u16 0, .int .u32 0, .int .u16 0] 29)) := (Fp.refl _ _).alloc _
  generalize x10c.alloc (.cells #[.int .u8 0, .int .u32 0, .int .u16 0, .int .u32 0, .int .u16 0] 29) = x10d at *
  have T33 := Lib.hid (T32.out.low hp)
  have N33 := Lib.hid (N32.out.trans hp (fun _ _ h => h))
  have Bg0' := Lib.hid ((hp.block _ (Array.getElem?_eq_some_iff.1 Bg0.out).1 id).trans Bg0.out)
  clear Bg0
  have Bg0 := Lib.hid Bg0'.out
  clear Bg0'
  have Bg1' := Lib.hid ((hp.block _ (Array.getElem?_eq_some_iff.1 Bg1.out).1 id).trans Bg1.out)
  clear Bg1
  have Bg1 := Lib.hid Bg1'.out
  clear Bg1'
  have Bg2' := Lib.hid ((hp.block _ (Array.getElem?_eq_some_iff.1 Bg2.out).1 id).trans Bg2.out)
  clear Bg2
  have Bg2 := Lib.hid Bg2'.out
  clear Bg2'
  have Bg3' := Lib.hid ((hp.block _ (Array.getElem?_eq_some_iff.1 Bg3.out).1 id).trans Bg3.out)
  clear Bg3
  have Bg3 := Lib.hid Bg3'.out
  clear Bg3'
  have Bg4' := Lib.hid ((hp.block _ (Array.getElem?_eq_some_iff.1 Bg4.out).1 id).trans Bg4.out)
  clear Bg4
  have Bg4 := Lib.hid Bg4'.out
  clear Bg4'
  clear T32 N32 hp
  go_upto_region 13 with fail
  have fg00 : x10d.cell? ⟨g0, 0, none⟩ = some (.int .u8 17) := by simp [World.cell?, Bg0.out]
  have fg01 : x10d.cell? ⟨g0, 1, none⟩ = some (.int .u32 167772161) := by simp [World.cell?, Bg0.out]
  have fg02 : x10d.cell? ⟨g0, 2, none⟩ = some (.int .u16 5) := by simp [World.cell?, Bg0.out]
  have fg03 : x10d.cell? ⟨g0, 3, none⟩ = some (.int .u32 16909060) := by simp [World.cell?, Bg0.out]
  have fg04 : x10d.cell? ⟨g0, 4, none⟩ = some (.int .u16 53) := by simp [World.cell?, Bg0.out]
  have fg05 : x10d.cell? ⟨g0, 5, none⟩ = some (.int .i64 2) := by simp [World.cell?, Bg0.out]
  have lg0 := cell_lt fg00
  have fg15 : x10d.cell? ⟨g1, 5, none⟩ = some (.int .i64 1) := by simp [World.cell?, Bg1.out]
  have lg1 := cell_lt fg15
  have fg25 : x10d.cell? ⟨g2, 5, none⟩ = some (.int .i64 2) := by simp [World.cell?, Bg2.out]
  have fg26 : x10d.cell? ⟨g2, 6, none⟩ = some (.int .u8 18) := by simp [World.cell?, Bg2.out]
  have lg2 := cell_lt fg25
  have fg30 : x10d.cell? ⟨g3, 0, none⟩ = some (.int .u8 1) := by simp [World.cell?, Bg3.out]
  have fg31 : x10d.cell? ⟨g3, 1, none⟩ = some (.int .u32 167772161) := by simp [World.cell?, Bg3.out]
  have fg32 : x10d.cell? ⟨g3, 2, none⟩ = some (.int .u16 7) := by simp [World.cell?, Bg3.out]
  have fg33 : x10d.cell? ⟨g3, 3, none⟩ = some (.int .u32 16909060) := by simp [World.cell?, Bg3.out]
  have fg34 : x10d.cell? ⟨g3, 4, none⟩ = some (.int .u16 0) := by simp [World.cell?, Bg3.out]
  have fg37 : x10d.cell? ⟨g3, 7, none⟩ = some (.bool true) := by simp [World.cell?, Bg3.out]
  have lg3 := cell_lt fg30
  have fg40 : x10d.cell? ⟨g4, 0, none⟩ = some (.int .u8 1) := by simp [World.cell?, Bg4.out]
  have fg41 : x10d.cell? ⟨g4, 1, none⟩ = some (.int .u32 167772161) := by simp [World.cell?, Bg4.out]
  have fg42 : x10d.cell? ⟨g4, 2, none⟩ = some (.int .u16 0) := by simp [World.cell?, Bg4.out]
  have fg43 : x10d.cell? ⟨g4, 3, none⟩ = some (.int .u32 16909060) := by simp [World.cell?, Bg4.out]
  have fg44 : x10d.cell? ⟨g4, 4, none⟩ = some (.int .u16 7) := by simp [World.cell?, Bg4.out]
  have fg47 : x10d.cell? ⟨g4, 7, none⟩ = some (.bool false) := by simp [World.cell?, Bg4.out]
  have fg48 : x10d.cell? ⟨g4, 8, none⟩ = some (.int .u8 64) := by simp [World.cell?, Bg4.out]
  have lg4 := cell_lt fg40
  have KT := Lib.hid (fun W hW => tx0 W hW)
  refine wp_region_held_drew (S := fun wx => NoW x10d wx) (by kernel_rfl) (Fp.drew (Fp.refl _ _)) (fun hHeld => ?_)
  (refine take_at 0 (some 112) rfl rfl (by kernel_rfl) (by kernel_rfl) (by kernel_rfl) (fun _ _ _ h => h) (v := ?_) (by kernel_rfl) ?_ (by assumption) ?_; rotate_left; (focus (intro wS hSw; skip; go_simp; try with_reducible rfl)); (try simp only [Act.put, List.setIfInBounds_toArray, List.set_cons_zero, List.set_cons_succ]))
  (refine take_at 1 (some 113) rfl rfl (by kernel_rfl) (by kernel_rfl) (by kernel_rfl) (fun _ _ _ h => h) (v := ?_) (by kernel_rfl) ?_ (by assumption) ?_; rotate_left; (focus (intro wS hSw; (have qt0 := (hSw.cell (p := ⟨g0, 0, none⟩) lg0 id).trans fg00); (have qt1 := (hSw.cell (p := ⟨g0, 1, none⟩) lg0 id).trans fg01); (have qt2 := (hSw.cell (p := ⟨g0, 2, none⟩) lg0 id).trans fg02); (have qt3 := (hSw.cell (p := ⟨g0, 3, none⟩) lg0 id).trans fg03); (have qt4 := (hSw.cell (p := ⟨g0, 4, none⟩) lg0 id).trans fg04); go_simp; try with_reducible rfl)); (try simp only [Act.put, List.setIfInBounds_toArray, List.set_cons_zero, List.set_cons_succ]))
  refine wpAnyH_ready (rs := [2]) (by kernel_rfl) (by simp) ?_
  refine AllReadyH.cons rfl (fun K hK => ?_) AllReadyH.nil
  go_simp
  go_at_call 14
  refine (show Calls _ _ _ _ _ from KT.out _ (T33.out.toP.base.low hHeld)).mono ?_
  rintro e v1 ⟨rfl, hp⟩
  have hn : NoW x10d v1 := Fp.trans hHeld hp (fun _ _ h => h)
  refine hK.out _ _ hn (fun hHeld => ?_)
  clear hK K hn hp
  try simp only [Act.put, List.setIfInBounds_toArray, List.set_cons_zero, List.set_cons_succ]
  (refine take_at 3 (some 115) rfl rfl (by kernel_rfl) (by kernel_rfl) (by kernel_rfl) (fun _ _ _ h => h) (v := ?_) (by kernel_rfl) ?_ (by assumption) ?_; rotate_left; (focus (intro wS hSw; skip; go_simp; try with_reducible rfl)); (try simp only [Act.put, List.setIfInBounds_toArray, List.set_cons_zero, List.set_cons_succ]))
  (refine take_at 4 (some 116) rfl rfl (by kernel_rfl) (by kernel_rfl) (by kernel_rfl) (fun _ _ _ h => h) (v := ?_) (by kernel_rfl) ?_ (by assumption) ?_; rotate_left; (focus (intro wS hSw; skip; go_simp; try with_reducible rfl)); (try simp only [Act.put, List.setIfInBounds_toArray, List.set_cons_zero, List.set_cons_succ]))
  (refine take_at 5 (some 117) rfl rfl (by kernel_rfl) (by kernel_rfl) (by kernel_rfl) (fun _ _ _ h => h) (v := ?_) (by kernel_rfl) ?_ (by assumption) ?_; rotate_left; (focus (intro wS hSw; skip; go_simp; try with_reducible rfl)); (try simp only [Act.put, List.setIfInBounds_toArray, List.set_cons_zero, List.set_cons_succ]))
  (refine take_at 6 (some 118) rfl rfl (by kernel_rfl) (by kernel_rfl) (by kernel_rfl) (fun _ _ _ h => h) (v := ?_) (by kernel_rfl) ?_ (by assumption) ?_; rotate_left; (focus (intro wS hSw; (have qt5 := (hSw.cell (p := ⟨g0, 5, none⟩) lg0 id).trans fg05); go_simp; try with_reducible rfl)); (try simp only [Act.put, List.setIfInBounds_toArray, List.set_cons_zero, List.set_cons_succ]))
  (refine take_at 7 (some 119) rfl rfl (by kernel_rfl) (by kernel_rfl) (by kernel_rfl) (fun _ _ _ h => h) (v := ?_) (by kernel_rfl) ?_ (by assumption) ?_; rotate_left; (focus (intro wS hSw; skip; go_simp; try with_reducible rfl)); (try simp only [Act.put, List.setIfInBounds_toArray, List.set_cons_zero, List.set_cons_succ]))
  (refine take_at 8 (some 120) rfl rfl (by kernel_rfl) (by kernel_rfl) (by kernel_rfl) (fun _ _ _ h => h) (v := ?_) (by kernel_rfl) ?_ (by assumption) ?_; rotate_left; (focus (intro wS hSw; skip; go_simp; try with_reducible rfl)); (try simp only [Act.put, List.setIfInBounds_toArray, List.set_cons_zero, List.set_cons_succ]))
  (refine take_at 9 (some 121) rfl rfl (by kernel_rfl) (by kernel_rfl) (by kernel_rfl) (fun _ _ _ h => h) (v := ?_) (by kernel_rfl) ?_ (by assumption) ?_; rotate_left; (focus (intro wS hSw; skip; go_simp; try with_reducible rfl)); (try simp only [Act.put, List.setIfInBounds_toArray, List.set_cons_zero, List.set_cons_succ]))
  (refine take_at 10 (some 122) rfl rfl (by kernel_rfl) (by kernel_rfl) (by kernel_rfl) (fun _ _ _ h => h) (v := ?_) (by kernel_rfl) ?_ (by assumption) ?_; rotate_left; (focus (intro wS hSw; skip; go_simp; try with_reducible rfl)); (try simp only [Act.put, List.setIfInBounds_toArray, List.set_cons_zero, List.set_cons_succ]))
  (refine take_at 11 (some 123) rfl rfl (by kernel_rfl) (by kernel_rfl) (by kernel_rfl) (fun _ _ _ h => h) (v := ?_) (by kernel_rfl) ?_ (by assumption) ?_; rotate_left; (focus (intro wS hSw; (have qt5 := (hSw.cell (p := ⟨g1, 5, none⟩) lg1 id).trans fg15); go_simp; try with_reducible rfl)); (try simp only [Act.put, List.setIfInBounds_toArray, List.set_cons_zero, List.set_cons_succ]))
  (refine take_at 12 (some 124) rfl rfl (by kernel_rfl) (by kernel_rfl) (by kernel_rfl) (fun _ _ _ h => h) (v := ?_) (by kernel_rfl) ?_ (by assumption) ?_; rotate_left; (focus (intro wS hSw; skip; go_simp; try with_reducible rfl)); (try simp only [Act.put, List.setIfInBounds_toArray, List.set_cons_zero, List.set_cons_succ]))
  (refine take_at 13 (some 125) rfl rfl (by kernel_rfl) (by kernel_rfl) (by kernel_rfl) (fun _ _ _ h => h) (v := ?_) (by kernel_rfl) ?_ (by assumption) ?_; rotate_left; (focus (intro wS hSw; skip; go_simp; try with_reducible rfl)); (try simp only [Act.put, List.setIfInBounds_toArray, List.set_cons_zero, List.set_cons_succ]))
  (refine take_at 14 (some 126) rfl rfl (by kernel_rfl) (by kernel_rfl) (by kernel_rfl) (fun _ _ _ h => h) (v := ?_) (by kernel_rfl) ?_ (by assumption) ?_; rotate_left; (focus (intro wS hSw; skip; go_simp; try with_reducible rfl)); (try simp only [Act.put, List.setIfInBounds_toArray, List.set_cons_zero, List.set_cons_succ]))
  (refine take_at 15 (some 127) rfl rfl (by kernel_rfl) (by kernel_rfl) (by kernel_rfl) (fun _ _ _ h => h) (v := ?_) (by kernel_rfl) ?_ (by assumption) ?_; rotate_left; (focus (intro wS hSw; skip; go_simp; try with_reducible rfl)); (try simp only [Act.put, List.setIfInBounds_toArray, List.set_cons_zero, List.set_cons_succ]))
  (refine take_at 16 (some 128) rfl rfl (by kernel_rfl) (by kernel_rfl) (by kernel_rfl) (fun _ _ _ h => h) (v := ?_) (by kernel_rfl) ?_ (by assumption) ?_; rotate_left; (focus (intro wS hSw; (have qt5 := (hSw.cell (p := ⟨g2, 5, none⟩) lg2 id).trans fg25); go_simp; try with_reducible rfl)); (try simp only [Act.put, List.setIfInBounds_toArray, List.set_cons_zero, List.set_cons_succ]))
  (refine take_at 17 (some 129) rfl rfl (by kernel_rfl) (by kernel_rfl) (by kernel_rfl) (fun _ _ _ h => h) (v := ?_) (by kernel_rfl) ?_ (by assumption) ?_; rotate_left; (focus (intro wS hSw; skip; go_simp; try with_reducible rfl)); (try simp only [Act.put, List.setIfInBounds_toArray, List.set_cons_zero, List.set_cons_succ]))
  (refine take_at 18 (some 130) rfl rfl (by kernel_rfl) (by kernel_rfl) (by kernel_rfl) (fun _ _ _ h => h) (v := ?_) (by kernel_rfl) ?_ (by assumption) ?_; rotate_left; (focus (intro wS hSw; skip; go_simp; try with_reducible rfl)); (try simp only [Act.put, List.setIfInBounds_toArray, List.set_cons_zero, List.set_cons_succ]))
  (refine take_at 19 (some 131) rfl rfl (by kernel_rfl) (by kernel_rfl) (by kernel_rfl) (fun _ _ _ h => h) (v := ?_) (by kernel_rfl) ?_ (by assumption) ?_; rotate_left; (focus (intro wS hSw; skip; go_simp; try with_reducible rfl)); (try simp only [Act.put, List.setIfInBounds_toArray, List.set_cons_zero, List.set_cons_succ]))
  (refine take_at 20 (some 132) rfl rfl (by kernel_rfl) (by kernel_rfl) (by kernel_rfl) (fun _ _ _ h => h) (v := ?_) (by kernel_rfl) ?_ (by assumption) ?_; rotate_left; (focus (intro wS hSw; skip; go_simp; try with_reducible rfl)); (try simp only [Act.put, List.setIfInBounds_toArray, List.set_cons_zero, List.set_cons_succ]))
  (refine take_at 21 (some 133) rfl rfl (by kernel_rfl) (by kernel_rfl) (by kernel_rfl) (fun _ _ _ h => h) (v := ?_) (by kernel_rfl) ?_ (by assumption) ?_; rotate_left; (focus (intro wS hSw; (have qt6 := (hSw.cell (p := ⟨g2, 6, none⟩) lg2 id).trans fg26); go_simp; try with_reducible rfl)); (try simp only [Act.put, List.setIfInBounds_toArray, List.set_cons_zero, List.set_cons_succ]))
  (refine take_at 22 (some 134) rfl rfl (by kernel_rfl) (by kernel_rfl) (by kernel_rfl) (fun _ _ _ h => h) (v := ?_) (by kernel_rfl) ?_ (by assumption) ?_; rotate_left; (focus (intro wS hSw; skip; go_simp; try with_reducible rfl)); (try simp only [Act.put, List.setIfInBounds_toArray, List.set_cons_zero, List.set_cons_succ]))
  (refine take_at 23 (some 135) rfl rfl (by kernel_rfl) (by kernel_rfl) (by kernel_rfl) (fun _ _ _ h => h) (v := ?_) (by kernel_rfl) ?_ (by assumption) ?_; rotate_left; (focus (intro wS hSw; skip; go_simp; try with_reducible rfl)); (try simp only [Act.put, List.setIfInBounds_toArray, List.set_cons_zero, List.set_cons_succ]))
  (refine take_at 24 (some 136) rfl rfl (by kernel_rfl) (by kernel_rfl) (by kernel_rfl) (fun _ _ _ h => h) (v := ?_) (by kernel_rfl) ?_ (by assumption) ?_; rotate_left; (focus (intro wS hSw; skip; go_simp; try with_reducible rfl)); (try simp only [Act.put, List.setIfInBounds_toArray, List.set_cons_zero, List.set_cons_succ]))
  (refine take_at 25 (some 137) rfl rfl (by kernel_rfl) (by kernel_rfl) (by kernel_rfl) (fun _ _ _ h => h) (v := ?_) (by kernel_rfl) ?_ (by assumption) ?_; rotate_left; (focus (intro wS hSw; skip; go_simp; try with_reducible rfl)); (try simp only [Act.put, List.setIfInBounds_toArray, List.set_cons_zero, List.set_cons_succ]))
  (refine take_at 26 (some 138) rfl rfl (by kernel_rfl) (by kernel_rfl) (by kernel_rfl) (fun _ _ _ h => h) (v := ?_) (by kernel_rfl) ?_ (by assumption) ?_; rotate_left; (focus (intro wS hSw; (have qt0 := (hSw.cell (p := ⟨g3, 0, none⟩) lg3 id).trans fg30); (have qt1 := (hSw.cell (p := ⟨g3, 1, none⟩) lg3 id).trans fg31); (have qt2 := (hSw.cell (p := ⟨g3, 2, none⟩) lg3 id).trans fg32); (have qt3 := (hSw.cell (p := ⟨g3, 3, none⟩) lg3 id).trans fg33); (have qt4 := (hSw.cell (p := ⟨g3, 4, none⟩) lg3 id).trans fg34); go_simp; try with_reducible rfl)); (try simp only [Act.put, List.setIfInBounds_toArray, List.set_cons_zero, List.set_cons_succ]))
  refine wpAnyH_ready (rs := [27]) (by kernel_rfl) (by simp) ?_
  refine AllReadyH.cons rfl (fun K hK => ?_) AllReadyH.nil
  go_simp
  go_at_call 24
  refine (show Calls _ _ _ _ _ from ex_one3 _).mono ?_
  rintro e v2 ⟨rfl, hp⟩
  have hn : NoW x10d v2 := Fp.trans hHeld hp (fun _ _ h => h)
  refine hK.out _ _ hn (fun hHeld => ?_)
  clear hK K hn hp
  try simp only [Act.put, List.setIfInBounds_toArray, List.set_cons_zero, List.set_cons_succ]
  (refine take_at 28 (some 140) rfl rfl (by kernel_rfl) (by kernel_rfl) (by kernel_rfl) (fun _ _ _ h => h) (v := ?_) (by kernel_rfl) ?_ (by assumption) ?_; rotate_left; (focus (intro wS hSw; skip; go_simp; try with_reducible rfl)); (try simp only [Act.put, List.setIfInBounds_toArray, List.set_cons_zero, List.set_cons_succ]))
  (refine take_at 29 (some 141) rfl rfl (by kernel_rfl) (by kernel_rfl) (by kernel_rfl) (fun _ _ _ h => h) (v := ?_) (by kernel_rfl) ?_ (by assumption) ?_; rotate_left; (focus (intro wS hSw; skip; go_simp; try with_reducible rfl)); (try simp only [Act.put, List.setIfInBounds_toArray, List.set_cons_zero, List.set_cons_succ]))
  (refine take_at 30 (some 142) rfl rfl (by kernel_rfl) (by kernel_rfl) (by kernel_rfl) (fun _ _ _ h => h) (v := ?_) (by kernel_rfl) ?_ (by assumption) ?_; rotate_left; (focus (intro wS hSw; skip; go_simp; try with_reducible rfl)); (try simp only [Act.put, List.setIfInBounds_toArray, List.set_cons_zero, List.set_cons_succ]))
  (refine take_at 31 (some 143) rfl rfl (by kernel_rfl) (by kernel_rfl) (by kernel_rfl) (fun _ _ _ h => h) (v := ?_) (by kernel_rfl) ?_ (by assumption) ?_; rotate_left; (focus (intro wS hSw; skip; go_simp; try with_reducible rfl)); (try simp only [Act.put, List.setIfInBounds_toArray, List.set_cons_zero, List.set_cons_succ]))
  (refine take_at 32 (some 144) rfl rfl (by kernel_rfl) (by kernel_rfl) (by kernel_rfl) (fun _ _ _ h => h) (v := ?_) (by kernel_rfl) ?_ (by assumption) ?_; rotate_left; (focus (intro wS hSw; (have qt7 := (hSw.cell (p := ⟨g3, 7, none⟩) lg3 id).trans fg37); go_simp; try with_reducible rfl)); (try simp only [Act.put, List.setIfInBounds_toArray, List.set_cons_zero, List.set_cons_succ]))
  (refine take_at 33 (some 145) rfl rfl (by kernel_rfl) (by kernel_rfl) (by kernel_rfl) (fun _ _ _ h => h) (v := ?_) (by kernel_rfl) ?_ (by assumption) ?_; rotate_left; (focus (intro wS hSw; skip; go_simp; try with_reducible rfl)); (try simp only [Act.put, List.setIfInBounds_toArray, List.set_cons_zero, List.set_cons_succ]))
  (refine take_at 34 (some 146) rfl rfl (by kernel_rfl) (by kernel_rfl) (by kernel_rfl) (fun _ _ _ h => h) (v := ?_) (by kernel_rfl) ?_ (by assumption) ?_; rotate_left; (focus (intro wS hSw; skip; go_simp; try with_reducible rfl)); (try simp only [Act.put, List.setIfInBounds_toArray, List.set_cons_zero, List.set_cons_succ]))
  (refine take_at 35 (some 147) rfl rfl (by kernel_rfl) (by kernel_rfl) (by kernel_rfl) (fun _ _ _ h => h) (v := ?_) (by kernel_rfl) ?_ (by assumption) ?_; rotate_left; (focus (intro wS hSw; skip; go_simp; try with_reducible rfl)); (try simp only [Act.put, List.setIfInBounds_toArray, List.set_cons_zero, List.set_cons_succ]))
  (refine take_at 36 (some 148) rfl rfl (by kernel_rfl) (by kernel_rfl) (by kernel_rfl) (fun _ _ _ h => h) (v := ?_) (by kernel_rfl) ?_ (by assumption) ?_; rotate_left; (focus (intro wS hSw; (have qt0 := (hSw.cell (p := ⟨g4, 0, none⟩) lg4 id).trans fg40); (have qt1 := (hSw.cell (p := ⟨g4, 1, none⟩) lg4 id).trans fg41); (have qt2 := (hSw.cell (p := ⟨g4, 2, none⟩) lg4 id).trans fg42); (have qt3 := (hSw.cell (p := ⟨g4, 3, none⟩) lg4 id).trans fg43); (have qt4 := (hSw.cell (p := ⟨g4, 4, none⟩) lg4 id).trans fg44); go_simp; try with_reducible rfl)); (try simp only [Act.put, List.setIfInBounds_toArray, List.set_cons_zero, List.set_cons_succ]))
  refine wpAnyH_ready (rs := [37]) (by kernel_rfl) (by simp) ?_
  refine AllReadyH.cons rfl (fun K hK => ?_) AllReadyH.nil
  go_simp
  go_at_call 24
  refine (show Calls _ _ _ _ _ from ex_one4 _).mono ?_
  rintro e v3 ⟨rfl, hp⟩
  have hn : NoW x10d v3 := Fp.trans hHeld hp (fun _ _ h => h)
  refine hK.out _ _ hn (fun hHeld => ?_)
  clear hK K hn hp
  try simp only [Act.put, List.setIfInBounds_toArray, List.set_cons_zero, List.set_cons_succ]
  (refine take_at 38 (some 150) rfl rfl (by kernel_rfl) (by kernel_rfl) (by kernel_rfl) (fun _ _ _ h => h) (v := ?_) (by kernel_rfl) ?_ (by assumption) ?_; rotate_left; (focus (intro wS hSw; skip; go_simp; try with_reducible rfl)); (try simp only [Act.put, List.setIfInBounds_toArray, List.set_cons_zero, List.set_cons_succ]))
  (refine take_at 39 (some 151) rfl rfl (by kernel_rfl) (by kernel_rfl) (by kernel_rfl) (fun _ _ _ h => h) (v := ?_) (by kernel_rfl) ?_ (by assumption) ?_; rotate_left; (focus (intro wS hSw; skip; go_simp; try with_reducible rfl)); (try simp only [Act.put, List.setIfInBounds_toArray, List.set_cons_zero, List.set_cons_succ]))
  (refine take_at 40 (some 152) rfl rfl (by kernel_rfl) (by kernel_rfl) (by kernel_rfl) (fun _ _ _ h => h) (v := ?_) (by kernel_rfl) ?_ (by assumption) ?_; rotate_left; (focus (intro wS hSw; skip; go_simp; try with_reducible rfl)); (try simp only [Act.put, List.setIfInBounds_toArray, List.set_cons_zero, List.set_cons_succ]))
  (refine take_at 41 (some 153) rfl rfl (by kernel_rfl) (by kernel_rfl) (by kernel_rfl) (fun _ _ _ h => h) (v := ?_) (by kernel_rfl) ?_ (by assumption) ?_; rotate_left; (focus (intro wS hSw; skip; go_simp; try with_reducible rfl)); (try simp only [Act.put, List.setIfInBounds_toArray, List.set_cons_zero, List.set_cons_succ]))
  (refine take_at 42 (some 154) rfl rfl (by kernel_rfl) (by kernel_rfl) (by kernel_rfl) (fun _ _ _ h => h) (v := ?_) (by kernel_rfl) ?_ (by assumption) ?_; rotate_left; (focus (intro wS hSw; (have qt7 := (hSw.cell (p := ⟨g4, 7, none⟩) lg4 id).trans fg47); go_simp; try with_reducible rfl)); (try simp only [Act.put, List.setIfInBounds_toArray, List.set_cons_zero, List.set_cons_succ]))
  (refine take_at 43 (some 155) rfl rfl (by kernel_rfl) (by kernel_rfl) (by kernel_rfl) (fun _ _ _ h => h) (v := ?_) (by kernel_rfl) ?_ (by assumption) ?_; rotate_left; (focus (intro wS hSw; skip; go_simp; try with_reducible rfl)); (try simp only [Act.put, List.setIfInBounds_toArray, List.set_cons_zero, List.set_cons_succ]))
  (refine take_at 44 (some 156) rfl rfl (by kernel_rfl) (by kernel_rfl) (by kernel_rfl) (fun _ _ _ h => h) (v := ?_) (by kernel_rfl) ?_ (by assumption) ?_; rotate_left; (focus (intro wS hSw; skip; go_simp; try with_reducible rfl)); (try simp only [Act.put, List.setIfInBounds_toArray, List.set_cons_zero, List.set_cons_succ]))
  (refine take_at 45 (some 157) rfl rfl (by kernel_rfl) (by kernel_rfl) (by kernel_rfl) (fun _ _ _ h => h) (v := ?_) (by kernel_rfl) ?_ (by assumption) ?_; rotate_left; (focus (intro wS hSw; skip; go_simp; try with_reducible rfl)); (try simp only [Act.put, List.setIfInBounds_toArray, List.set_cons_zero, List.set_cons_succ]))
  (refine take_at 46 (some 158) rfl rfl (by kernel_rfl) (by kernel_rfl) (by kernel_rfl) (fun _ _ _ h => h) (v := ?_) (by kernel_rfl) ?_ (by assumption) ?_; rotate_left; (focus (intro wS hSw; skip; go_simp; try with_reducible rfl)); (try simp only [Act.put, List.setIfInBounds_toArray, List.set_cons_zero, List.set_cons_succ]))
  (refine take_at 47 (some 159) rfl rfl (by kernel_rfl) (by kernel_rfl) (by kernel_rfl) (fun _ _ _ h => h) (v := ?_) (by kernel_rfl) ?_ (by assumption) ?_; rotate_left; (focus (intro wS hSw; (have qt8 := (hSw.cell (p := ⟨g4, 8, none⟩) lg4 id).trans fg48); go_simp; try with_reducible rfl)); (try simp only [Act.put, List.setIfInBounds_toArray, List.set_cons_zero, List.set_cons_succ]))
  (refine take_at 48 (some 160) rfl rfl (by kernel_rfl) (by kernel_rfl) (by kernel_rfl) (fun _ _ _ h => h) (v := ?_) (by kernel_rfl) ?_ (by assumption) ?_; rotate_left; (focus (intro wS hSw; skip; go_simp; try with_reducible rfl)); (try simp only [Act.put, List.setIfInBounds_toArray, List.set_cons_zero, List.set_cons_succ]))
  (refine take_at 49 (some 161) rfl rfl (by kernel_rfl) (by kernel_rfl) (by kernel_rfl) (fun _ _ _ h => h) (v := ?_) (by kernel_rfl) ?_ (by assumption) ?_; rotate_left; (focus (intro wS hSw; skip; go_simp; try with_reducible rfl)); (try simp only [Act.put, List.setIfInBounds_toArray, List.set_cons_zero, List.set_cons_succ]))
  (refine take_at 50 (some 0) rfl rfl (by kernel_rfl) (by kernel_rfl) (by kernel_rfl) (fun _ _ _ h => h) (v := ?_) (by kernel_rfl) ?_ (by assumption) ?_; rotate_left; (focus (intro wS hSw; skip; go_simp; try with_reducible rfl)); (try simp only [Act.put, List.setIfInBounds_toArray, List.set_cons_zero, List.set_cons_succ]))
  refine wpAnyH_done (by kernel_rfl) ?_ _
  have hnf := N33.out.trans hHeld (fun _ _ h => h)
  go_wp2_with fail
  go_ret
  exact ⟨rfl, hnf⟩
end Go.Proofs.YtmghjaoodnkjlaaGreatDoor
