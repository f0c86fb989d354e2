/- Chapter 03: AddrsForm's walk (written by genform.py). -/
import Derived.Test.YtgfmeincfeelmaaDoorLpW
namespace Go.Proofs.YtgfmeincfeelmaaDoor
set_option linter.unusedVariables false
set_option linter.unusedSimpArgs false
open Go.RowKit Go.Lib Go.Sort

theorem idx3 (a b c : Bool) (W : World) :
    (Instr.index 46 (.agg #[.bool a, .bool b, .bool c]) (.int .i64 0)).run Tryd.prog W = .ok (.bool a) W ∧
    (Instr.index 46 (.agg #[.bool a, .bool b, .bool c]) (.int .i64 1)).run Tryd.prog W = .ok (.bool b) W ∧
    (Instr.index 46 (.agg #[.bool a, .bool b, .bool c]) (.int .i64 2)).run Tryd.prog W = .ok (.bool c) W := by
  have hs : ∀ W, (sizeOf 4).run Tryd.prog W = .ok 1 W := fun W => by kernel_rfl
  refine ⟨?_, ?_, ?_⟩ <;> simp [Instr.index, run_underlying Tryd.underlying46, asIntOf, go_sem, hs]

set_option maxHeartbeats 2000000 in
set_option maxRecDepth 100000 in
theorem form_a (w : World) (ht : Tb w) (l : List UInt8) (hl : l.length ≤ 100) (a : Nat)
    (k1 : ∀ W, Tb W → Calls Tryd.prog 9 #[str l] W (Ret1 (.tuple #[.int .u32 a, .int .i64 0]) W))
    (k3 : ∀ W, Tb W → Calls Tryd.prog 11 #[str l] W (Ret1 (.tuple #[.agg #[.int .u32 0, .int .i64 0], .int .i64 3]) W))
    (k5 : ∀ W, Tb W → Calls Tryd.prog 13 #[str l] W (Ret1 (.tuple #[.agg #[.int .u32 0, .int .u16 0], .int .i64 3]) W))
    (k7 : ∀ W, Tb W → Calls Tryd.prog 17 #[.int .u32 a] W (Ret1 (str l) W)) : Calls Tryd.prog 5 #[str l] w (Ret1 (.bool true) w) := by
  have Ht := Lib.hid ht
  have hn0 : NoW w w := Fp.refl _ _
  have Hn0 := Lib.hid hn0
  have K1 := Lib.hid k1
  have K3 := Lib.hid k3
  have K5 := Lib.hid k5
  have K7 := Lib.hid k7
  clear k1 k3 k5 ht hn0 k7
  go_enter Tryd.func5, Tryd.ntmps5
  go_wp2_with fail
  refine (K1.out _ (Ht.out.low Hn0.out)).mono ?_
  rintro e v0 ⟨rfl, hp⟩
  have Hm0 := Lib.hid (Hn0.out.trans hp (fun _ _ h => h))
  clear hp Hn0
  go_wp2_with fail
  refine (K3.out _ (Ht.out.low Hm0.out)).mono ?_
  rintro e v1 ⟨rfl, hp⟩
  have hq : NoW v1 (v1.alloc (.cells #[.int .u32 0, .int .i64 0] 29)) := (Fp.refl _ _).alloc _
  have Hm1 := Lib.hid ((Hm0.out.trans hp (fun _ _ h => h)).trans hq (fun _ _ h => h))
  have B2 := Lib.hid (heap_alloc_new v1 (.cells #[.int .u32 0, .int .i64 0] 29))
  clear hp hq Hm0
  go_wp2_with fail
  refine (K5.out _ (Ht.out.low Hm1.out)).mono ?_
  rintro e v2 ⟨rfl, hp⟩
  have Hm2 := Lib.hid (Hm1.out.trans hp (fun _ _ h => h))
  have hb := (hp.block _ (Array.getElem?_eq_some_iff.1 B2.out).1 id).trans B2.out
  clear B2
  have B2 := Lib.hid hb
  clear hb
  clear hp Hm1
  have b0 : v2.cell? ⟨v1.heap.size, 0, none⟩ = some (.int .u32 0) := by simp [World.cell?, B2.out]
  have b1 : v2.cell? ⟨v1.heap.size, 1, none⟩ = some (.int .i64 0) := by simp [World.cell?, B2.out]
  have l1 : v1.heap.size < v2.heap.size := cell_lt b0
  clear B2
  go_wp2_with fail
  have hz : NoW w (v2.alloc (.cells #[.int .u32 0, .int .u16 0] 34)) := Hm2.out.alloc _
  refine (K7.out _ (Ht.out.low hz)).mono ?_
  rintro e v3 ⟨rfl, hp⟩
  have Hm3 := Lib.hid (hz.trans hp (fun _ _ h => h))
  clear hz hp
  go_wp2_with fail
  go_loop [9, 66] (fun c i => ∃ k : Int, (k = 0 ∧ c = .int .i64 0 ∨ k = 1 ∧ c = .int .i64 1 ∨ k = 2 ∧ c = .int .i64 1 ∨ k = 3 ∧ c = .int .i64 1) ∧ i = .int .i64 k) (fun _ i => 3 - (RowKit.intOf i).toNat)
  case atStart => exact ⟨0, by simp, rfl⟩
  case round =>
    obtain ⟨k, hk, rfl⟩ := hrel
    rcases hk with ⟨rfl, rfl⟩ | ⟨rfl, rfl⟩ | ⟨rfl, rfl⟩ | ⟨rfl, rfl⟩
    · have hix := fun W => (idx3 true false false W).1
      go_wp2_with fail
      go_round
      case measure => simp [RowKit.intOf]
      case rel => exact ⟨1, by simp, by simp⟩
    · have hix := fun W => (idx3 true false false W).2.1
      go_wp2_with fail
      go_round
      case measure => simp [RowKit.intOf]
      case rel => exact ⟨2, by simp, by simp⟩
    · have hix := fun W => (idx3 true false false W).2.2
      go_wp2_with fail
      go_round
      case measure => simp [RowKit.intOf]
      case rel => exact ⟨3, by simp, by simp⟩
    · go_wp2_with fail
      refine (named_ok _ (Ht.out.low Hm3.out)).mono ?_
      rintro e u ⟨rfl, hp⟩
      have hz := Hm3.out.trans hp (fun _ _ h => h)
      clear hp
      go_wp2_with fail
      go_ret
      exact ⟨rfl, hz⟩

set_option maxHeartbeats 2000000 in
set_option maxRecDepth 100000 in
theorem form_b (w : World) (ht : Tb w) (l : List UInt8) (hl : l.length ≤ 100) (a n : Nat)
    (k1 : ∀ W, Tb W → Calls Tryd.prog 9 #[str l] W (Ret1 (.tuple #[.int .u32 0, .int .i64 3]) W))
    (k3 : ∀ W, Tb W → Calls Tryd.prog 11 #[str l] W (Ret1 (.tuple #[.agg #[.int .u32 a, .int .i64 n], .int .i64 0]) W))
    (k5 : ∀ W, Tb W → Calls Tryd.prog 13 #[str l] W (Ret1 (.tuple #[.agg #[.int .u32 0, .int .u16 0], .int .i64 3]) W))
    (k7 : ∀ W, Tb W → Calls Tryd.prog 18 #[.agg #[.int .u32 a, .int .i64 n]] W (Ret1 (str l) W)) : Calls Tryd.prog 5 #[str l] w (Ret1 (.bool true) w) := by
  have Ht := Lib.hid ht
  have hn0 : NoW w w := Fp.refl _ _
  have Hn0 := Lib.hid hn0
  have K1 := Lib.hid k1
  have K3 := Lib.hid k3
  have K5 := Lib.hid k5
  have K7 := Lib.hid k7
  clear k1 k3 k5 ht hn0 k7
  go_enter Tryd.func5, Tryd.ntmps5
  go_wp2_with fail
  refine (K1.out _ (Ht.out.low Hn0.out)).mono ?_
  rintro e v0 ⟨rfl, hp⟩
  have Hm0 := Lib.hid (Hn0.out.trans hp (fun _ _ h => h))
  clear hp Hn0
  go_wp2_with fail
  refine (K3.out _ (Ht.out.low Hm0.out)).mono ?_
  rintro e v1 ⟨rfl, hp⟩
  have hq : NoW v1 (v1.alloc (.cells #[.int .u32 a, .int .i64 n] 29)) := (Fp.refl _ _).alloc _
  have Hm1 := Lib.hid ((Hm0.out.trans hp (fun _ _ h => h)).trans hq (fun _ _ h => h))
  have B2 := Lib.hid (heap_alloc_new v1 (.cells #[.int .u32 a, .int .i64 n] 29))
  clear hp hq Hm0
  go_wp2_with fail
  refine (K5.out _ (Ht.out.low Hm1.out)).mono ?_
  rintro e v2 ⟨rfl, hp⟩
  have Hm2 := Lib.hid (Hm1.out.trans hp (fun _ _ h => h))
  have hb := (hp.block _ (Array.getElem?_eq_some_iff.1 B2.out).1 id).trans B2.out
  clear B2
  have B2 := Lib.hid hb
  clear hb
  clear hp Hm1
  have b0 : v2.cell? ⟨v1.heap.size, 0, none⟩ = some (.int .u32 a) := by simp [World.cell?, B2.out]
  have b1 : v2.cell? ⟨v1.heap.size, 1, none⟩ = some (.int .i64 n) := by simp [World.cell?, B2.out]
  have l1 : v1.heap.size < v2.heap.size := cell_lt b0
  clear B2
  go_wp2_with fail
  have hz : NoW w (v2.alloc (.cells #[.int .u32 0, .int .u16 0] 34)) := Hm2.out.alloc _
  refine (K7.out _ (Ht.out.low hz)).mono ?_
  rintro e v3 ⟨rfl, hp⟩
  have Hm3 := Lib.hid (hz.trans hp (fun _ _ h => h))
  clear hz hp
  go_wp2_with fail
  go_loop [9, 66] (fun c i => ∃ k : Int, (k = 0 ∧ c = .int .i64 0 ∨ k = 1 ∧ c = .int .i64 0 ∨ k = 2 ∧ c = .int .i64 1 ∨ k = 3 ∧ c = .int .i64 1) ∧ i = .int .i64 k) (fun _ i => 3 - (RowKit.intOf i).toNat)
  case atStart => exact ⟨0, by simp, rfl⟩
  case round =>
    obtain ⟨k, hk, rfl⟩ := hrel
    rcases hk with ⟨rfl, rfl⟩ | ⟨rfl, rfl⟩ | ⟨rfl, rfl⟩ | ⟨rfl, rfl⟩
    · have hix := fun W => (idx3 false true false W).1
      go_wp2_with fail
      go_round
      case measure => simp [RowKit.intOf]
      case rel => exact ⟨1, by simp, by simp⟩
    · have hix := fun W => (idx3 false true false W).2.1
      go_wp2_with fail
      go_round
      case measure => simp [RowKit.intOf]
      case rel => exact ⟨2, by simp, by simp⟩
    · have hix := fun W => (idx3 false true false W).2.2
      go_wp2_with fail
      go_round
      case measure => simp [RowKit.intOf]
      case rel => exact ⟨3, by simp, by simp⟩
    · go_wp2_with fail
      refine (named_ok _ (Ht.out.low Hm3.out)).mono ?_
      rintro e u ⟨rfl, hp⟩
      have hz := Hm3.out.trans hp (fun _ _ h => h)
      clear hp
      go_wp2_with fail
      go_ret
      exact ⟨rfl, hz⟩

set_option maxHeartbeats 2000000 in
set_option maxRecDepth 100000 in
theorem form_c (w : World) (ht : Tb w) (l : List UInt8) (hl : l.length ≤ 100) (a n : Nat)
    (k1 : ∀ W, Tb W → Calls Tryd.prog 9 #[str l] W (Ret1 (.tuple #[.int .u32 0, .int .i64 3]) W))
    (k3 : ∀ W, Tb W → Calls Tryd.prog 11 #[str l] W (Ret1 (.tuple #[.agg #[.int .u32 0, .int .i64 0], .int .i64 3]) W))
    (k5 : ∀ W, Tb W → Calls Tryd.prog 13 #[str l] W (Ret1 (.tuple #[.agg #[.int .u32 a, .int .u16 n], .int .i64 0]) W))
    (k7 : ∀ W, Tb W → Calls Tryd.prog 19 #[.agg #[.int .u32 a, .int .u16 n]] W (Ret1 (str l) W)) : Calls Tryd.prog 5 #[str l] w (Ret1 (.bool true) w) := by
  have Ht := Lib.hid ht
  have hn0 : NoW w w := Fp.refl _ _
  have Hn0 := Lib.hid hn0
  have K1 := Lib.hid k1
  have K3 := Lib.hid k3
  have K5 := Lib.hid k5
  have K7 := Lib.hid k7
  clear k1 k3 k5 ht hn0 k7
  go_enter Tryd.func5, Tryd.ntmps5
  go_wp2_with fail
  refine (K1.out _ (Ht.out.low Hn0.out)).mono ?_
  rintro e v0 ⟨rfl, hp⟩
  have Hm0 := Lib.hid (Hn0.out.trans hp (fun _ _ h => h))
  clear hp Hn0
  go_wp2_with fail
  refine (K3.out _ (Ht.out.low Hm0.out)).mono ?_
  rintro e v1 ⟨rfl, hp⟩
  have hq : NoW v1 (v1.alloc (.cells #[.int .u32 0, .int .i64 0] 29)) := (Fp.refl _ _).alloc _
  have Hm1 := Lib.hid ((Hm0.out.trans hp (fun _ _ h => h)).trans hq (fun _ _ h => h))
  have B2 := Lib.hid (heap_alloc_new v1 (.cells #[.int .u32 0, .int .i64 0] 29))
  clear hp hq Hm0
  go_wp2_with fail
  refine (K5.out _ (Ht.out.low Hm1.out)).mono ?_
  rintro e v2 ⟨rfl, hp⟩
  have Hm2 := Lib.hid (Hm1.out.trans hp (fun _ _ h => h))
  have hb := (hp.block _ (Array.getElem?_eq_some_iff.1 B2.out).1 id).trans B2.out
  clear B2
  have B2 := Lib.hid hb
  clear hb
  clear hp Hm1
  have b0 : v2.cell? ⟨v1.heap.size, 0, none⟩ = some (.int .u32 0) := by simp [World.cell?, B2.out]
  have b1 : v2.cell? ⟨v1.heap.size, 1, none⟩ = some (.int .i64 0) := by simp [World.cell?, B2.out]
  have l1 : v1.heap.size < v2.heap.size := cell_lt b0
  clear B2
  go_wp2_with fail
  have hz : NoW w (v2.alloc (.cells #[.int .u32 a, .int .u16 n] 34)) := Hm2.out.alloc _
  refine (K7.out _ (Ht.out.low hz)).mono ?_
  rintro e v3 ⟨rfl, hp⟩
  have Hm3 := Lib.hid (hz.trans hp (fun _ _ h => h))
  clear hz hp
  go_wp2_with fail
  go_loop [9, 66] (fun c i => ∃ k : Int, (k = 0 ∧ c = .int .i64 0 ∨ k = 1 ∧ c = .int .i64 0 ∨ k = 2 ∧ c = .int .i64 0 ∨ k = 3 ∧ c = .int .i64 1) ∧ i = .int .i64 k) (fun _ i => 3 - (RowKit.intOf i).toNat)
  case atStart => exact ⟨0, by simp, rfl⟩
  case round =>
    obtain ⟨k, hk, rfl⟩ := hrel
    rcases hk with ⟨rfl, rfl⟩ | ⟨rfl, rfl⟩ | ⟨rfl, rfl⟩ | ⟨rfl, rfl⟩
    · have hix := fun W => (idx3 false false true W).1
      go_wp2_with fail
      go_round
      case measure => simp [RowKit.intOf]
      case rel => exact ⟨1, by simp, by simp⟩
    · have hix := fun W => (idx3 false false true W).2.1
      go_wp2_with fail
      go_round
      case measure => simp [RowKit.intOf]
      case rel => exact ⟨2, by simp, by simp⟩
    · have hix := fun W => (idx3 false false true W).2.2
      go_wp2_with fail
      go_round
      case measure => simp [RowKit.intOf]
      case rel => exact ⟨3, by simp, by simp⟩
    · go_wp2_with fail
      refine (named_ok _ (Ht.out.low Hm3.out)).mono ?_
      rintro e u ⟨rfl, hp⟩
      have hz := Hm3.out.trans hp (fun _ _ h => h)
      clear hp
      go_wp2_with fail
      go_ret
      exact ⟨rfl, hz⟩

set_option maxHeartbeats 2000000 in
set_option maxRecDepth 100000 in
theorem form_d (w : World) (ht : Tb w) (l : List UInt8) (hl : l.length ≤ 100) (x : Int) (hx : x = 2 ∨ x = 3)
    (k1 : ∀ W, Tb W → Calls Tryd.prog 9 #[str l] W (Ret1 (.tuple #[.int .u32 0, .int .i64 3]) W))
    (k3 : ∀ W, Tb W → Calls Tryd.prog 11 #[str l] W (Ret1 (.tuple #[.agg #[.int .u32 0, .int .i64 0], .int .i64 x]) W))
    (k5 : ∀ W, Tb W → Calls Tryd.prog 13 #[str l] W (Ret1 (.tuple #[.agg #[.int .u32 0, .int .u16 0], .int .i64 3]) W))
     : Calls Tryd.prog 5 #[str l] w (Ret1 (.bool true) w) := by
  have Ht := Lib.hid ht
  have hn0 : NoW w w := Fp.refl _ _
  have Hn0 := Lib.hid hn0
  have K1 := Lib.hid k1
  have K3 := Lib.hid k3
  have K5 := Lib.hid k5
  clear k1 k3 k5 ht hn0
  have hx0 : (x == 0) = false := by rcases hx with rfl | rfl <;> rfl
  go_enter Tryd.func5, Tryd.ntmps5
  go_wp2_with fail
  refine (K1.out _ (Ht.out.low Hn0.out)).mono ?_
  rintro e v0 ⟨rfl, hp⟩
  have Hm0 := Lib.hid (Hn0.out.trans hp (fun _ _ h => h))
  clear hp Hn0
  go_wp2_with fail
  refine (K3.out _ (Ht.out.low Hm0.out)).mono ?_
  rintro e v1 ⟨rfl, hp⟩
  have hq : NoW v1 (v1.alloc (.cells #[.int .u32 0, .int .i64 0] 29)) := (Fp.refl _ _).alloc _
  have Hm1 := Lib.hid ((Hm0.out.trans hp (fun _ _ h => h)).trans hq (fun _ _ h => h))
  have B2 := Lib.hid (heap_alloc_new v1 (.cells #[.int .u32 0, .int .i64 0] 29))
  clear hp hq Hm0
  go_wp2_with fail
  refine (K5.out _ (Ht.out.low Hm1.out)).mono ?_
  rintro e v2 ⟨rfl, hp⟩
  have Hm2 := Lib.hid (Hm1.out.trans hp (fun _ _ h => h))
  have hb := (hp.block _ (Array.getElem?_eq_some_iff.1 B2.out).1 id).trans B2.out
  clear B2
  have B2 := Lib.hid hb
  clear hb
  clear hp Hm1
  have b0 : v2.cell? ⟨v1.heap.size, 0, none⟩ = some (.int .u32 0) := by simp [World.cell?, B2.out]
  have b1 : v2.cell? ⟨v1.heap.size, 1, none⟩ = some (.int .i64 0) := by simp [World.cell?, B2.out]
  have l1 : v1.heap.size < v2.heap.size := cell_lt b0
  clear B2
  go_wp2_with fail
  go_loop [9, 66] (fun c i => ∃ k : Int, (k = 0 ∧ c = .int .i64 0 ∨ k = 1 ∧ c = .int .i64 0 ∨ k = 2 ∧ c = .int .i64 0 ∨ k = 3 ∧ c = .int .i64 0) ∧ i = .int .i64 k) (fun _ i => 3 - (RowKit.intOf i).toNat)
  case atStart => exact ⟨0, by simp, rfl⟩
  case round =>
    obtain ⟨k, hk, rfl⟩ := hrel
    rcases hk with ⟨rfl, rfl⟩ | ⟨rfl, rfl⟩ | ⟨rfl, rfl⟩ | ⟨rfl, rfl⟩
    · have hix := fun W => (idx3 false false false W).1
      go_wp2_with fail
      go_round
      case measure => simp [RowKit.intOf]
      case rel => exact ⟨1, by simp, by simp⟩
    · have hix := fun W => (idx3 false false false W).2.1
      go_wp2_with fail
      go_round
      case measure => simp [RowKit.intOf]
      case rel => exact ⟨2, by simp, by simp⟩
    · have hix := fun W => (idx3 false false false W).2.2
      go_wp2_with fail
      go_round
      case measure => simp [RowKit.intOf]
      case rel => exact ⟨3, by simp, by simp⟩
    · go_wp2_with fail
      refine (named_ok _ (Ht.out.low (Hm2.out.alloc (.cells #[.int .u32 0, .int .u16 0] 34)))).mono ?_
      rintro e u ⟨rfl, hp⟩
      have hz := (Hm2.out.alloc (.cells #[.int .u32 0, .int .u16 0] 34)).trans hp (fun _ _ h => h)
      clear hp
      go_wp2_with fail
      go_ret
      exact ⟨rfl, hz⟩

theorem walk_AddrsForm (w : World) (ht : Tb w) (v0 : Value) (g0 : Good Tryd.prog w 9 v0) : Calls Tryd.prog 5 #[v0] w (Ret1 (.bool true) w) := by
  obtain ⟨s, rfl, _⟩ := good_string Tryd.underlying9 g0
  obtain ⟨l, rfl, hs⟩ := str_of s
  clear g0 hs
  by_cases hl : l.length ≤ 100
  · have k1 := fun W hW => ad_parse l (by omega) W hW
    have k3 := fun W hW => ad_prefix l (by omega) W hW
    have k5 := fun W hW => ad_point l (by omega) W hW
    rcases ha : addrOf l with _ | a
    · rcases hb : withOf 47 32 l with _ | ⟨b, n⟩
      · rcases hc : withOf 58 65535 l with _ | ⟨c, p⟩
        · rw [ha] at k1
          rw [hb] at k3
          rw [hc] at k5
          exact form_d w ht l hl 3 (.inr rfl) k1 k3 k5
        · rw [ha] at k1
          rw [hb] at k3
          rw [hc] at k5
          obtain ⟨e1, h1, h2⟩ := (withOf_some (c := 58) (by decide) (fun u => dec_no58)).1 hc
          exact form_c w ht l hl c p k1 k3 k5 (fun W hW => by rw [e1]; exact point_text c h1 p (by omega) W hW)
      · have hc := one_of_of hb
        rw [ha] at k1
        rw [hb] at k3
        rw [hc] at k5
        obtain ⟨e1, h1, h2⟩ := (withOf_some (c := 47) (by decide) (fun u => dec_no47)).1 hb
        rcases hm : mayB b n with _ | _
        · have e : pfV (some (b, n)) = .tuple #[.agg #[.int .u32 0, .int .i64 0], .int .i64 2] := by simp [pfV, hm]
          rw [e] at k3
          exact form_d w ht l hl 2 (.inl rfl) k1 k3 k5
        · have e : pfV (some (b, n)) = .tuple #[.agg #[.int .u32 b, .int .i64 n], .int .i64 0] := by simp [pfV, hm]
          rw [e] at k3
          exact form_b w ht l hl b n k1 k3 k5 (fun W hW => by rw [e1]; exact prefix_text b h1 n hm W hW)
    · have hb := one_addr_of 47 (by decide) (fun u => dec_no47) 32 ha
      have hc := one_addr_of 58 (by decide) (fun u => dec_no58) 65535 ha
      rw [ha] at k1
      rw [hb] at k3
      rw [hc] at k5
      obtain ⟨e1, h1⟩ := addrOf_some.1 ha
      exact form_a w ht l hl a k1 k3 k5 (fun W hW => by rw [e1]; exact ad_text a h1 W hW)
  · have hl2 : 100 < l.length := by omega
    clear hl
    have Ht := Lib.hid ht
    clear ht
    go_enter Tryd.func5, Tryd.ntmps5
    go_wp2_with fail
    refine (named_ok _ Ht.out).mono ?_
    rintro e u ⟨rfl, hp⟩
    have Hz := Lib.hid hp
    clear hp
    go_wp2_with fail
    go_ret
    exact ⟨rfl, Hz.out⟩
end Go.Proofs.YtgfmeincfeelmaaDoor
