/- Chapter 03: named: the chapter's examples (written by gennamed.py). -/
import Derived.Test.YtgfmeincfeelmaaDoorAdZ
import Derived.Test.YtgfmeincfeelmaaDoorAdU
import Derived.Laws.StructEq
namespace Go.Proofs.YtgfmeincfeelmaaDoor
set_option linter.unusedVariables false
set_option linter.unusedSimpArgs false
open Go.RowKit Go.Lib Go.Sort

theorem idx4 (a b c d : ByteArray) (W : World) : 
  (Instr.index 51 (.agg #[.string a, .string b, .string c, .string d]) (.int .i64 0)).run Tryd.prog W = .ok (.string a) W ∧
  (Instr.index 51 (.agg #[.string a, .string b, .string c, .string d]) (.int .i64 1)).run Tryd.prog W = .ok (.string b) W ∧
  (Instr.index 51 (.agg #[.string a, .string b, .string c, .string d]) (.int .i64 2)).run Tryd.prog W = .ok (.string c) W ∧
  (Instr.index 51 (.agg #[.string a, .string b, .string c, .string d]) (.int .i64 3)).run Tryd.prog W = .ok (.string d) W := by
  have hs : ∀ W, (sizeOf 9).run Tryd.prog W = .ok 1 W := fun W => by kernel_rfl
  refine ⟨?_, ?_, ?_, ?_⟩ <;> simp [Instr.index, run_underlying Tryd.underlying51, asIntOf, go_sem, hs]

theorem nm0 (w : World) (ht : Tb w) : Calls Tryd.prog 11 #[.string ⟨#[49, 48, 46, 48, 46, 48, 46, 48, 47, 56]⟩] w (Ret1 (.tuple #[.agg #[.int .u32 167772160, .int .i64 8], .int .i64 0]) w) := by
  have h := ad_prefix [49, 48, 46, 48, 46, 48, 46, 48, 47, 56] (by decide) w ht
  rw [ex6w] at h
  exact h
theorem nm1 (w : World) (ht : Tb w) : Calls Tryd.prog 11 #[.string ⟨#[49, 48, 46, 48, 46, 48, 46, 49, 47, 56]⟩] w (Ret1 (.tuple #[.agg #[.int .u32 0, .int .i64 0], .int .i64 2]) w) := by
  have h := ad_prefix [49, 48, 46, 48, 46, 48, 46, 49, 47, 56] (by decide) w ht
  rw [ex7w] at h
  exact h
theorem nm2 (w : World) (ht : Tb w) : Calls Tryd.prog 11 #[.string ⟨#[49, 48, 46, 48, 46, 48, 46, 48, 47, 51, 51]⟩] w (Ret1 (.tuple #[.agg #[.int .u32 0, .int .i64 0], .int .i64 3]) w) := by
  have h := ad_prefix [49, 48, 46, 48, 46, 48, 46, 48, 47, 51, 51] (by decide) w ht
  rw [ex8w] at h
  exact h
theorem nm3 (w : World) (ht : Tb w) : Calls Tryd.prog 11 #[.string ⟨#[48, 46, 48, 46, 48, 46, 48, 47, 48]⟩] w (Ret1 (.tuple #[.agg #[.int .u32 0, .int .i64 0], .int .i64 0]) w) := by
  have h := ad_prefix [48, 46, 48, 46, 48, 46, 48, 47, 48] (by decide) w ht
  rw [ex9w] at h
  exact h
theorem nm4 (w : World) (ht : Tb w) : Calls Tryd.prog 13 #[.string ⟨#[49, 46, 50, 46, 51, 46, 52, 58, 56, 48]⟩] w (Ret1 (.tuple #[.agg #[.int .u32 16909060, .int .u16 80], .int .i64 0]) w) := by
  have h := ad_point [49, 46, 50, 46, 51, 46, 52, 58, 56, 48] (by decide) w ht
  rw [exAw] at h
  exact h
theorem nm5 (w : World) (ht : Tb w) : Calls Tryd.prog 13 #[.string ⟨#[49, 46, 50, 46, 51, 46, 52, 58, 54, 53, 53, 51, 54]⟩] w (Ret1 (.tuple #[.agg #[.int .u32 0, .int .u16 0], .int .i64 3]) w) := by
  have h := ad_point [49, 46, 50, 46, 51, 46, 52, 58, 54, 53, 53, 51, 54] (by decide) w ht
  rw [exBw] at h
  exact h
theorem nm6 (w : World) (ht : Tb w) : Calls Tryd.prog 13 #[.string ⟨#[49, 46, 50, 46, 51, 46, 52, 58]⟩] w (Ret1 (.tuple #[.agg #[.int .u32 0, .int .u16 0], .int .i64 3]) w) := by
  have h := ad_point [49, 46, 50, 46, 51, 46, 52, 58] (by decide) w ht
  rw [exCw] at h
  exact h
theorem np0 (w : World) (ht : Tb w) : Calls Tryd.prog 9 #[.string ⟨#[49, 46, 50, 46, 51, 46, 52]⟩] w (Ret1 (.tuple #[.int .u32 16909060, .int .i64 0]) w) := by
  have h := ad_parse [49, 46, 50, 46, 51, 46, 52] (by decide) w ht
  rw [ex1] at h
  exact h
theorem np1 (w : World) (ht : Tb w) : Calls Tryd.prog 9 #[.string ⟨#[49, 46, 50, 46, 51]⟩] w (Ret1 (.tuple #[.int .u32 0, .int .i64 3]) w) := by
  have h := ad_parse [49, 46, 50, 46, 51] (by decide) w ht
  rw [ex2] at h
  exact h
theorem np2 (w : World) (ht : Tb w) : Calls Tryd.prog 9 #[.string ⟨#[48, 49, 46, 50, 46, 51, 46, 52]⟩] w (Ret1 (.tuple #[.int .u32 0, .int .i64 3]) w) := by
  have h := ad_parse [48, 49, 46, 50, 46, 51, 46, 52] (by decide) w ht
  rw [ex3] at h
  exact h
theorem np3 (w : World) (ht : Tb w) : Calls Tryd.prog 9 #[.string ⟨#[49, 46, 50, 46, 51, 46, 50, 53, 54]⟩] w (Ret1 (.tuple #[.int .u32 0, .int .i64 3]) w) := by
  have h := ad_parse [49, 46, 50, 46, 51, 46, 50, 53, 54] (by decide) w ht
  rw [ex4] at h
  exact h
theorem np4 (w : World) (ht : Tb w) : Calls Tryd.prog 9 #[.string ⟨#[49, 46, 50, 46, 51, 46, 52, 46]⟩] w (Ret1 (.tuple #[.int .u32 0, .int .i64 3]) w) := by
  have h := ad_parse [49, 46, 50, 46, 51, 46, 52, 46] (by decide) w ht
  rw [ex5] at h
  exact h
theorem nh0 (w : World) : Calls Tryd.prog 16 #[.agg #[.int .u32 167772160, .int .i64 8], .int .u32 184483841] w (Ret1 (.bool true) w) := by
  have h := has_ok 167772160 (by decide) 8 184483841 (by decide) w
  rw [show hasB 167772160 8 184483841 = true from by decide +kernel] at h
  exact h
theorem nh1 (w : World) : Calls Tryd.prog 16 #[.agg #[.int .u32 167772160, .int .i64 8], .int .u32 184549376] w (Ret1 (.bool false) w) := by
  have h := has_ok 167772160 (by decide) 8 184549376 (by decide) w
  rw [show hasB 167772160 8 184549376 = false from by decide +kernel] at h
  exact h

set_option maxHeartbeats 2000000 in
set_option maxRecDepth 100000 in
theorem named_ok (w : World) (ht : Tb w) : Calls Tryd.prog 8 #[] w (Ret1 (.bool true) w) := by
  have Ht := Lib.hid ht
  clear ht
  go_enter Tryd.func8, Tryd.ntmps8
  go_wp2_with fail
  refine (np0 _ Ht.out).mono ?_
  rintro e w0 ⟨rfl, hp0⟩
  have Hn0 := Lib.hid hp0
  clear hp0
  go_wp2_with fail
  go_loopg [3, 27] 5 (fun g c i wx => ∃ k : Int, (k = 0 ∨ k = 1 ∨ k = 2 ∨ k = 3 ∨ k = 4) ∧ g = 5 - k.toNat ∧ c = .int .i64 k ∧ i = .int .i64 k ∧ NoW w wx)
  case atStart => exact ⟨0, by simp, rfl, rfl, rfl, Hn0.out⟩
  case round =>
    obtain ⟨k, hk, hg, rfl, rfl, hn⟩ := hrel
    have Hn1 := Lib.hid hn
    have Hg := Lib.hid hg
    clear hn hg Hn0
    rcases hk with rfl | rfl | rfl | rfl | rfl
    · have hix := fun W => (idx4 ⟨#[49, 46, 50, 46, 51]⟩ ⟨#[48, 49, 46, 50, 46, 51, 46, 52]⟩ ⟨#[49, 46, 50, 46, 51, 46, 50, 53, 54]⟩ ⟨#[49, 46, 50, 46, 51, 46, 52, 46]⟩ W).1
      go_wp2_with fail
      clear hix
      refine (np1 _ (Ht.out.low Hn1.out)).mono ?_
      rintro e w1 ⟨rfl, hp1⟩
      have Hn2 := Lib.hid (Hn1.out.trans hp1 (fun _ _ h => h))
      clear hp1
      go_wp2_with fail
      go_roundg 4
      case measure => have := Hg.out; simp at this; omega
      case rel => exact ⟨1, by simp, rfl, rfl, rfl, Hn2.out⟩
    · have hix := fun W => (idx4 ⟨#[49, 46, 50, 46, 51]⟩ ⟨#[48, 49, 46, 50, 46, 51, 46, 52]⟩ ⟨#[49, 46, 50, 46, 51, 46, 50, 53, 54]⟩ ⟨#[49, 46, 50, 46, 51, 46, 52, 46]⟩ W).2.1
      go_wp2_with fail
      clear hix
      refine (np2 _ (Ht.out.low Hn1.out)).mono ?_
      rintro e w1 ⟨rfl, hp1⟩
      have Hn2 := Lib.hid (Hn1.out.trans hp1 (fun _ _ h => h))
      clear hp1
      go_wp2_with fail
      go_roundg 3
      case measure => have := Hg.out; simp at this; omega
      case rel => exact ⟨2, by simp, rfl, rfl, rfl, Hn2.out⟩
    · have hix := fun W => (idx4 ⟨#[49, 46, 50, 46, 51]⟩ ⟨#[48, 49, 46, 50, 46, 51, 46, 52]⟩ ⟨#[49, 46, 50, 46, 51, 46, 50, 53, 54]⟩ ⟨#[49, 46, 50, 46, 51, 46, 52, 46]⟩ W).2.2.1
      go_wp2_with fail
      clear hix
      refine (np3 _ (Ht.out.low Hn1.out)).mono ?_
      rintro e w1 ⟨rfl, hp1⟩
      have Hn2 := Lib.hid (Hn1.out.trans hp1 (fun _ _ h => h))
      clear hp1
      go_wp2_with fail
      go_roundg 2
      case measure => have := Hg.out; simp at this; omega
      case rel => exact ⟨3, by simp, rfl, rfl, rfl, Hn2.out⟩
    · have hix := fun W => (idx4 ⟨#[49, 46, 50, 46, 51]⟩ ⟨#[48, 49, 46, 50, 46, 51, 46, 52]⟩ ⟨#[49, 46, 50, 46, 51, 46, 50, 53, 54]⟩ ⟨#[49, 46, 50, 46, 51, 46, 52, 46]⟩ W).2.2.2
      go_wp2_with fail
      clear hix
      refine (np4 _ (Ht.out.low Hn1.out)).mono ?_
      rintro e w1 ⟨rfl, hp1⟩
      have Hn2 := Lib.hid (Hn1.out.trans hp1 (fun _ _ h => h))
      clear hp1
      go_wp2_with fail
      go_roundg 1
      case measure => have := Hg.out; simp at this; omega
      case rel => exact ⟨4, by simp, rfl, rfl, rfl, Hn2.out⟩
    · clear Hg
      go_wp2_with fail
      refine (nm0 _ (Ht.out.low Hn1.out)).mono ?_
      rintro e v0 ⟨rfl, hp⟩
      have hq : NoW v0 (v0.alloc (.cells #[.int .u32 167772160, .int .i64 8] 29)) := (Fp.refl _ _).alloc _
      have Hm0 := Lib.hid ((Hn1.out.trans hp (fun _ _ h => h)).trans hq (fun _ _ h => h))
      have Hb0 := Lib.hid (heap_alloc_new v0 (.cells #[.int .u32 167772160, .int .i64 8] 29))
      clear hp hq Hn1
      go_wp2_with fail
      refine (nm1 _ (Ht.out.low Hm0.out)).mono ?_
      rintro e v1 ⟨rfl, hp⟩
      have hq : NoW v1 (v1.alloc (.cells #[.int .u32 0, .int .i64 0] 29)) := (Fp.refl _ _).alloc _
      have Hm1 := Lib.hid ((Hm0.out.trans hp (fun _ _ h => h)).trans hq (fun _ _ h => h))
      have hb0 := (hq.block _ (Nat.lt_of_lt_of_le (Array.getElem?_eq_some_iff.1 Hb0.out).1 hp.size) id).trans ((hp.block _ (Array.getElem?_eq_some_iff.1 Hb0.out).1 id).trans Hb0.out)
      clear Hb0
      have Hb0 := Lib.hid hb0
      clear hb0
      clear hp hq Hm0
      go_wp2_with fail
      refine (nm2 _ (Ht.out.low Hm1.out)).mono ?_
      rintro e v2 ⟨rfl, hp⟩
      have hq : NoW v2 (v2.alloc (.cells #[.int .u32 0, .int .i64 0] 29)) := (Fp.refl _ _).alloc _
      have Hm2 := Lib.hid ((Hm1.out.trans hp (fun _ _ h => h)).trans hq (fun _ _ h => h))
      have hb0 := (hq.block _ (Nat.lt_of_lt_of_le (Array.getElem?_eq_some_iff.1 Hb0.out).1 hp.size) id).trans ((hp.block _ (Array.getElem?_eq_some_iff.1 Hb0.out).1 id).trans Hb0.out)
      clear Hb0
      have Hb0 := Lib.hid hb0
      clear hb0
      clear hp hq Hm1
      go_wp2_with fail
      refine (nm3 _ (Ht.out.low Hm2.out)).mono ?_
      rintro e v3 ⟨rfl, hp⟩
      have hq : NoW v3 (v3.alloc (.cells #[.int .u32 0, .int .i64 0] 29)) := (Fp.refl _ _).alloc _
      have Hm3 := Lib.hid ((Hm2.out.trans hp (fun _ _ h => h)).trans hq (fun _ _ h => h))
      have hb0 := (hq.block _ (Nat.lt_of_lt_of_le (Array.getElem?_eq_some_iff.1 Hb0.out).1 hp.size) id).trans ((hp.block _ (Array.getElem?_eq_some_iff.1 Hb0.out).1 id).trans Hb0.out)
      clear Hb0
      have Hb0 := Lib.hid hb0
      clear hb0
      have Hb3 := Lib.hid (heap_alloc_new v3 (.cells #[.int .u32 0, .int .i64 0] 29))
      clear hp hq Hm2
      go_wp2_with fail
      refine (nm4 _ (Ht.out.low Hm3.out)).mono ?_
      rintro e v4 ⟨rfl, hp⟩
      have hq : NoW v4 (v4.alloc (.cells #[.int .u32 16909060, .int .u16 80] 34)) := (Fp.refl _ _).alloc _
      have Hm4 := Lib.hid ((Hm3.out.trans hp (fun _ _ h => h)).trans hq (fun _ _ h => h))
      have hb0 := (hq.block _ (Nat.lt_of_lt_of_le (Array.getElem?_eq_some_iff.1 Hb0.out).1 hp.size) id).trans ((hp.block _ (Array.getElem?_eq_some_iff.1 Hb0.out).1 id).trans Hb0.out)
      clear Hb0
      have Hb0 := Lib.hid hb0
      clear hb0
      have hb3 := (hq.block _ (Nat.lt_of_lt_of_le (Array.getElem?_eq_some_iff.1 Hb3.out).1 hp.size) id).trans ((hp.block _ (Array.getElem?_eq_some_iff.1 Hb3.out).1 id).trans Hb3.out)
      clear Hb3
      have Hb3 := Lib.hid hb3
      clear hb3
      have Hb4 := Lib.hid (heap_alloc_new v4 (.cells #[.int .u32 16909060, .int .u16 80] 34))
      clear hp hq Hm3
      go_wp2_with fail
      refine (nm5 _ (Ht.out.low Hm4.out)).mono ?_
      rintro e v5 ⟨rfl, hp⟩
      have hq : NoW v5 (v5.alloc (.cells #[.int .u32 0, .int .u16 0] 34)) := (Fp.refl _ _).alloc _
      have Hm5 := Lib.hid ((Hm4.out.trans hp (fun _ _ h => h)).trans hq (fun _ _ h => h))
      have hb0 := (hq.block _ (Nat.lt_of_lt_of_le (Array.getElem?_eq_some_iff.1 Hb0.out).1 hp.size) id).trans ((hp.block _ (Array.getElem?_eq_some_iff.1 Hb0.out).1 id).trans Hb0.out)
      clear Hb0
      have Hb0 := Lib.hid hb0
      clear hb0
      have hb3 := (hq.block _ (Nat.lt_of_lt_of_le (Array.getElem?_eq_some_iff.1 Hb3.out).1 hp.size) id).trans ((hp.block _ (Array.getElem?_eq_some_iff.1 Hb3.out).1 id).trans Hb3.out)
      clear Hb3
      have Hb3 := Lib.hid hb3
      clear hb3
      have hb4 := (hq.block _ (Nat.lt_of_lt_of_le (Array.getElem?_eq_some_iff.1 Hb4.out).1 hp.size) id).trans ((hp.block _ (Array.getElem?_eq_some_iff.1 Hb4.out).1 id).trans Hb4.out)
      clear Hb4
      have Hb4 := Lib.hid hb4
      clear hb4
      clear hp hq Hm4
      go_wp2_with fail
      refine (nm6 _ (Ht.out.low Hm5.out)).mono ?_
      rintro e v6 ⟨rfl, hp⟩
      have Hm6 := Lib.hid (Hm5.out.trans hp (fun _ _ h => h))
      have hq := Fp.refl (fun _ => False) v6
      have hb0 := (hq.block _ (Nat.lt_of_lt_of_le (Array.getElem?_eq_some_iff.1 Hb0.out).1 hp.size) id).trans ((hp.block _ (Array.getElem?_eq_some_iff.1 Hb0.out).1 id).trans Hb0.out)
      clear Hb0
      have Hb0 := Lib.hid hb0
      clear hb0
      have hb3 := (hq.block _ (Nat.lt_of_lt_of_le (Array.getElem?_eq_some_iff.1 Hb3.out).1 hp.size) id).trans ((hp.block _ (Array.getElem?_eq_some_iff.1 Hb3.out).1 id).trans Hb3.out)
      clear Hb3
      have Hb3 := Lib.hid hb3
      clear hb3
      have hb4 := (hq.block _ (Nat.lt_of_lt_of_le (Array.getElem?_eq_some_iff.1 Hb4.out).1 hp.size) id).trans ((hp.block _ (Array.getElem?_eq_some_iff.1 Hb4.out).1 id).trans Hb4.out)
      clear Hb4
      have Hb4 := Lib.hid hb4
      clear hb4
      clear hp hq Hm5
      have c00 : v6.cell? ⟨v0.heap.size, 0, none⟩ = some (.int .u32 167772160) := by simp [World.cell?, Hb0.out]
      have c01 : v6.cell? ⟨v0.heap.size, 1, none⟩ = some (.int .i64 8) := by simp [World.cell?, Hb0.out]
      have c30 : v6.cell? ⟨v3.heap.size, 0, none⟩ = some (.int .u32 0) := by simp [World.cell?, Hb3.out]
      have c31 : v6.cell? ⟨v3.heap.size, 1, none⟩ = some (.int .i64 0) := by simp [World.cell?, Hb3.out]
      have c40 : v6.cell? ⟨v4.heap.size, 0, none⟩ = some (.int .u32 16909060) := by simp [World.cell?, Hb4.out]
      have c41 : v6.cell? ⟨v4.heap.size, 1, none⟩ = some (.int .u16 80) := by simp [World.cell?, Hb4.out]
      have l0 : v0.heap.size < v6.heap.size := cell_lt c00
      have l3 : v3.heap.size < v6.heap.size := cell_lt c30
      have l4 : v4.heap.size < v6.heap.size := cell_lt c40
      clear Hb0 Hb3 Hb4
      go_wp2_with fail
      refine (nh0 _).mono ?_
      rintro e u1 ⟨rfl, hp0⟩
      have hp : NoW v6 u1 := ((Fp.refl _ _).alloc _).trans hp0 (fun _ _ h => h)
      clear hp0
      have d0 := (hp.cell (p := ⟨v0.heap.size, 0, none⟩) (cell_lt c00) id).trans c00
      have d1 := (hp.cell (p := ⟨v0.heap.size, 1, none⟩) (cell_lt c01) id).trans c01
      have Hm7 := Lib.hid (Hm6.out.trans hp (fun _ _ h => h))
      clear hp
      go_wp2_with fail
      refine (nh1 _).mono ?_
      rintro e u2 ⟨rfl, hp⟩
      have Hm8 := Lib.hid (Hm7.out.trans hp (fun _ _ h => h))
      clear hp
      go_wp2_with fail
      go_ret
      exact ⟨rfl, Hm8.out⟩
end Go.Proofs.YtgfmeincfeelmaaDoor
