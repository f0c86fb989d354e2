/- Chapter 18: EntriesBack's walks (written by genback18.py). -/
import Derived.Test.YtdmbjndhdldggaaDoorEpG
import Derived.Test.YtdmbjndhdldggaaDoorEtJ
import Derived.Test.YtdmbjndhdldggaaDoorEnM
import Derived.Test.YtdmbjndhdldggaaDoorEnP
namespace Go.Proofs.YtdmbjndhdldggaaDoor
set_option linter.unusedVariables false
set_option linter.unusedSimpArgs false
open Go.RowKit Go.Lib Go.Sort

set_option maxHeartbeats 8000000 in
set_option maxRecDepth 100000 in
theorem back_long (r a p b q r2 a2 p2 b2 q2 : Nat) (st dl : Int) (ad : Option Addr) (n c : Nat) (l : List UInt8) (hcm : n ≤ maxLen) (hL : longB 1 (fun _ => n) 1 = true) (w : World) (ht : TbQ w)
 : Calls Tryd.prog 7 #[.agg #[.int .u8 r, .int .u32 a, .int .u16 p, .int .u32 b, .int .u16 q, .int .u8 r2, .int .u32 a2, .int .u16 p2, .int .u32 b2, .int .u16 q2, .int .i64 st, .int .i64 dl, .slice ad n c], str l] w (Ret1 (.bool true) w) := by
  have Ht := Lib.hid ht
  have Hcm := Lib.hid hcm
  have kp := fun W (hW : TbQ W) => passes18 W hW.toP.base
  have Kp := Lib.hid kp
  clear ht kp hcm 
  go_enter Tryd.func7, Tryd.ntmps7
  go_wp2_with fail
  have hw0 : NoW w ((w.alloc (.cells #[.int .u8 r, .int .u32 a, .int .u16 p, .int .u32 b, .int .u16 q, .int .u8 r2, .int .u32 a2, .int .u16 p2, .int .u32 b2, .int .u16 q2, .int .i64 st, .int .i64 dl, .slice ad n c] 31)).alloc (.cells #[.int .u8 r, .int .u32 a, .int .u16 p, .int .u32 b, .int .u16 q, .int .u8 r2, .int .u32 a2, .int .u16 p2, .int .u32 b2, .int .u16 q2, .int .i64 st, .int .i64 dl, .slice ad n c] 31)) := ((Fp.refl _ _).alloc _).alloc _
  obtain ⟨hb0, hb1⟩ := box2 w (.cells #[.int .u8 r, .int .u32 a, .int .u16 p, .int .u32 b, .int .u16 q, .int .u8 r2, .int .u32 a2, .int .u16 p2, .int .u32 b2, .int .u16 q2, .int .i64 st, .int .i64 dl, .slice ad n c] 31) (.cells #[.int .u8 r, .int .u32 a, .int .u16 p, .int .u32 b, .int .u16 q, .int .u8 r2, .int .u32 a2, .int .u16 p2, .int .u32 b2, .int .u16 q2, .int .i64 st, .int .i64 dl, .slice ad n c] 31)
  generalize (w.alloc (.cells #[.int .u8 r, .int .u32 a, .int .u16 p, .int .u32 b, .int .u16 q, .int .u8 r2, .int .u32 a2, .int .u16 p2, .int .u32 b2, .int .u16 q2, .int .i64 st, .int .i64 dl, .slice ad n c] 31)).alloc (.cells #[.int .u8 r, .int .u32 a, .int .u16 p, .int .u32 b, .int .u16 q, .int .u8 r2, .int .u32 a2, .int .u16 p2, .int .u32 b2, .int .u16 q2, .int .i64 st, .int .i64 dl, .slice ad n c] 31) = w0 at *
  have BX := Lib.hid hb0
  have BL := Lib.hid hb1
  have Hn0 := Lib.hid hw0
  clear hb0 hb1 hw0
  generalize w.heap.size + 1 = gBL at *
  generalize w.heap.size = gBX at *
  have hlc : ∀ i, i < 1 → ∃ b o, (some ⟨gBL, 0, none⟩ : Option Addr) = some ⟨b, o, none⟩ ∧ w0.cell? ⟨b, o + i * 13 + 12, none⟩ = some (.slice ((fun _ => ad) i) ((fun _ => n) i) ((fun _ => c) i)) ∧ (fun _ => n) i ≤ maxLen := by
    intro i hi
    obtain rfl : i = 0 := by omega
    exact ⟨gBL, 0, rfl, by simp [World.cell?, BL.out], Hcm.out⟩
  have kl := long_ok (some ⟨gBL, 0, none⟩) 1 1 (fun _ => n) (fun _ => c) (fun _ => ad) 1 (by unfold maxLen; omega) (by omega) w0 hlc
  rw [hL] at kl
  clear hlc
  refine (kl).mono ?_
  rintro e v0 ⟨rfl, hp⟩
  have Hm0 := Lib.hid (Hn0.out.trans hp (fun _ _ h => h))
  have hb := (hp.block _ (Array.getElem?_eq_some_iff.1 BX.out).1 id).trans BX.out
  clear BX
  have BX := Lib.hid hb
  clear hb
  have hb := (hp.block _ (Array.getElem?_eq_some_iff.1 BL.out).1 id).trans BL.out
  clear BL
  have BL := Lib.hid hb
  clear hb
  clear hp Hn0
  go_wp2_with fail
  refine (Kp.out _ (Ht.out.low Hm0.out)).mono ?_
  rintro e v1 ⟨rfl, hp⟩
  have Hm1 := Lib.hid (Hm0.out.trans hp (fun _ _ h => h))
  have hb := (hp.block _ (Array.getElem?_eq_some_iff.1 BX.out).1 id).trans BX.out
  clear BX
  have BX := Lib.hid hb
  clear hb
  have hb := (hp.block _ (Array.getElem?_eq_some_iff.1 BL.out).1 id).trans BL.out
  clear BL
  have BL := Lib.hid hb
  clear hb
  clear hp Hm0
  go_wp2_with fail
  go_ret
  exact ⟨rfl, Hm1.out⟩

set_option maxHeartbeats 8000000 in
set_option maxRecDepth 100000 in
theorem back_big (r a p b q r2 a2 p2 b2 q2 : Nat) (st dl : Int) (ad : Option Addr) (n c : Nat) (l : List UInt8) (hcm : n ≤ maxLen) (hL : longB 1 (fun _ => n) 1 = false) (hl : 300 < l.length) (w : World) (ht : TbQ w)
 : Calls Tryd.prog 7 #[.agg #[.int .u8 r, .int .u32 a, .int .u16 p, .int .u32 b, .int .u16 q, .int .u8 r2, .int .u32 a2, .int .u16 p2, .int .u32 b2, .int .u16 q2, .int .i64 st, .int .i64 dl, .slice ad n c], str l] w (Ret1 (.bool true) w) := by
  have Ht := Lib.hid ht
  have Hcm := Lib.hid hcm
  have kp := fun W (hW : TbQ W) => passes18 W hW.toP.base
  have Kp := Lib.hid kp
  clear ht kp hcm 
  go_enter Tryd.func7, Tryd.ntmps7
  go_wp2_with fail
  have hw0 : NoW w ((w.alloc (.cells #[.int .u8 r, .int .u32 a, .int .u16 p, .int .u32 b, .int .u16 q, .int .u8 r2, .int .u32 a2, .int .u16 p2, .int .u32 b2, .int .u16 q2, .int .i64 st, .int .i64 dl, .slice ad n c] 31)).alloc (.cells #[.int .u8 r, .int .u32 a, .int .u16 p, .int .u32 b, .int .u16 q, .int .u8 r2, .int .u32 a2, .int .u16 p2, .int .u32 b2, .int .u16 q2, .int .i64 st, .int .i64 dl, .slice ad n c] 31)) := ((Fp.refl _ _).alloc _).alloc _
  obtain ⟨hb0, hb1⟩ := box2 w (.cells #[.int .u8 r, .int .u32 a, .int .u16 p, .int .u32 b, .int .u16 q, .int .u8 r2, .int .u32 a2, .int .u16 p2, .int .u32 b2, .int .u16 q2, .int .i64 st, .int .i64 dl, .slice ad n c] 31) (.cells #[.int .u8 r, .int .u32 a, .int .u16 p, .int .u32 b, .int .u16 q, .int .u8 r2, .int .u32 a2, .int .u16 p2, .int .u32 b2, .int .u16 q2, .int .i64 st, .int .i64 dl, .slice ad n c] 31)
  generalize (w.alloc (.cells #[.int .u8 r, .int .u32 a, .int .u16 p, .int .u32 b, .int .u16 q, .int .u8 r2, .int .u32 a2, .int .u16 p2, .int .u32 b2, .int .u16 q2, .int .i64 st, .int .i64 dl, .slice ad n c] 31)).alloc (.cells #[.int .u8 r, .int .u32 a, .int .u16 p, .int .u32 b, .int .u16 q, .int .u8 r2, .int .u32 a2, .int .u16 p2, .int .u32 b2, .int .u16 q2, .int .i64 st, .int .i64 dl, .slice ad n c] 31) = w0 at *
  have BX := Lib.hid hb0
  have BL := Lib.hid hb1
  have Hn0 := Lib.hid hw0
  clear hb0 hb1 hw0
  generalize w.heap.size + 1 = gBL at *
  generalize w.heap.size = gBX at *
  have hlc : ∀ i, i < 1 → ∃ b o, (some ⟨gBL, 0, none⟩ : Option Addr) = some ⟨b, o, none⟩ ∧ w0.cell? ⟨b, o + i * 13 + 12, none⟩ = some (.slice ((fun _ => ad) i) ((fun _ => n) i) ((fun _ => c) i)) ∧ (fun _ => n) i ≤ maxLen := by
    intro i hi
    obtain rfl : i = 0 := by omega
    exact ⟨gBL, 0, rfl, by simp [World.cell?, BL.out], Hcm.out⟩
  have kl := long_ok (some ⟨gBL, 0, none⟩) 1 1 (fun _ => n) (fun _ => c) (fun _ => ad) 1 (by unfold maxLen; omega) (by omega) w0 hlc
  rw [hL] at kl
  clear hlc
  refine (kl).mono ?_
  rintro e v0 ⟨rfl, hp⟩
  have Hm0 := Lib.hid (Hn0.out.trans hp (fun _ _ h => h))
  have hb := (hp.block _ (Array.getElem?_eq_some_iff.1 BX.out).1 id).trans BX.out
  clear BX
  have BX := Lib.hid hb
  clear hb
  have hb := (hp.block _ (Array.getElem?_eq_some_iff.1 BL.out).1 id).trans BL.out
  clear BL
  have BL := Lib.hid hb
  clear hb
  clear hp Hn0
  go_wp2_with fail
  refine (Kp.out _ (Ht.out.low Hm0.out)).mono ?_
  rintro e v1 ⟨rfl, hp⟩
  have Hm1 := Lib.hid (Hm0.out.trans hp (fun _ _ h => h))
  have hb := (hp.block _ (Array.getElem?_eq_some_iff.1 BX.out).1 id).trans BX.out
  clear BX
  have BX := Lib.hid hb
  clear hb
  have hb := (hp.block _ (Array.getElem?_eq_some_iff.1 BL.out).1 id).trans BL.out
  clear BL
  have BL := Lib.hid hb
  clear hb
  clear hp Hm0
  go_wp2_with fail
  go_ret
  exact ⟨rfl, Hm1.out⟩

set_option maxHeartbeats 8000000 in
set_option maxRecDepth 100000 in
theorem back_bad (r a p b q r2 a2 p2 b2 q2 : Nat) (st dl : Int) (ad : Option Addr) (n c : Nat) (l : List UInt8) (hcm : n ≤ maxLen) (hL : longB 1 (fun _ => n) 1 = false) (hl : l.length ≤ 300) (w : World) (ht : TbQ w)
    (kte : ∀ W, TbQ W → NoW w W → Calls Tryd.prog 37 #[.agg #[.int .u8 r, .int .u32 a, .int .u16 p, .int .u32 b, .int .u16 q, .int .u8 r2, .int .u32 a2, .int .u16 p2, .int .u32 b2, .int .u16 q2, .int .i64 st, .int .i64 dl, .slice ad n c]] W (Ret1 (str []) W))
    (kpe : ∀ W, TbQ W → Calls Tryd.prog 38 #[str []] W (Ret1 (.tuple #[.agg #[.int .u8 0, .int .u32 0, .int .u16 0, .int .u32 0, .int .u16 0, .int .u8 0, .int .u32 0, .int .u16 0, .int .u32 0, .int .u16 0, .int .i64 0, .int .i64 0, .slice none 0 0], .int .i64 3]) W))
    (kcb : ∀ W, TbQ W → Calls Tryd.prog 19 #[.agg #[.int .u8 r, .int .u32 a, .int .u16 p, .int .u32 b, .int .u16 q, .int .u8 r2, .int .u32 a2, .int .u16 p2, .int .u32 b2, .int .u16 q2, .int .i64 st, .int .i64 dl, .slice ad n c]] W (Ret1 (.int .i64 2) W)) : Calls Tryd.prog 7 #[.agg #[.int .u8 r, .int .u32 a, .int .u16 p, .int .u32 b, .int .u16 q, .int .u8 r2, .int .u32 a2, .int .u16 p2, .int .u32 b2, .int .u16 q2, .int .i64 st, .int .i64 dl, .slice ad n c], str l] w (Ret1 (.bool true) w) := by
  have Kte := Lib.hid kte
  have Kpe := Lib.hid kpe
  have Kcb := Lib.hid kcb
  have Ht := Lib.hid ht
  have Hcm := Lib.hid hcm
  have kp := fun W (hW : TbQ W) => passes18 W hW.toP.base
  have Kp := Lib.hid kp
  clear ht kp hcm kte kpe kcb
  go_enter Tryd.func7, Tryd.ntmps7
  go_wp2_with fail
  have hw0 : NoW w ((w.alloc (.cells #[.int .u8 r, .int .u32 a, .int .u16 p, .int .u32 b, .int .u16 q, .int .u8 r2, .int .u32 a2, .int .u16 p2, .int .u32 b2, .int .u16 q2, .int .i64 st, .int .i64 dl, .slice ad n c] 31)).alloc (.cells #[.int .u8 r, .int .u32 a, .int .u16 p, .int .u32 b, .int .u16 q, .int .u8 r2, .int .u32 a2, .int .u16 p2, .int .u32 b2, .int .u16 q2, .int .i64 st, .int .i64 dl, .slice ad n c] 31)) := ((Fp.refl _ _).alloc _).alloc _
  obtain ⟨hb0, hb1⟩ := box2 w (.cells #[.int .u8 r, .int .u32 a, .int .u16 p, .int .u32 b, .int .u16 q, .int .u8 r2, .int .u32 a2, .int .u16 p2, .int .u32 b2, .int .u16 q2, .int .i64 st, .int .i64 dl, .slice ad n c] 31) (.cells #[.int .u8 r, .int .u32 a, .int .u16 p, .int .u32 b, .int .u16 q, .int .u8 r2, .int .u32 a2, .int .u16 p2, .int .u32 b2, .int .u16 q2, .int .i64 st, .int .i64 dl, .slice ad n c] 31)
  generalize (w.alloc (.cells #[.int .u8 r, .int .u32 a, .int .u16 p, .int .u32 b, .int .u16 q, .int .u8 r2, .int .u32 a2, .int .u16 p2, .int .u32 b2, .int .u16 q2, .int .i64 st, .int .i64 dl, .slice ad n c] 31)).alloc (.cells #[.int .u8 r, .int .u32 a, .int .u16 p, .int .u32 b, .int .u16 q, .int .u8 r2, .int .u32 a2, .int .u16 p2, .int .u32 b2, .int .u16 q2, .int .i64 st, .int .i64 dl, .slice ad n c] 31) = w0 at *
  have BX := Lib.hid hb0
  have BL := Lib.hid hb1
  have Hn0 := Lib.hid hw0
  clear hb0 hb1 hw0
  generalize w.heap.size + 1 = gBL at *
  generalize w.heap.size = gBX at *
  have hlc : ∀ i, i < 1 → ∃ b o, (some ⟨gBL, 0, none⟩ : Option Addr) = some ⟨b, o, none⟩ ∧ w0.cell? ⟨b, o + i * 13 + 12, none⟩ = some (.slice ((fun _ => ad) i) ((fun _ => n) i) ((fun _ => c) i)) ∧ (fun _ => n) i ≤ maxLen := by
    intro i hi
    obtain rfl : i = 0 := by omega
    exact ⟨gBL, 0, rfl, by simp [World.cell?, BL.out], Hcm.out⟩
  have kl := long_ok (some ⟨gBL, 0, none⟩) 1 1 (fun _ => n) (fun _ => c) (fun _ => ad) 1 (by unfold maxLen; omega) (by omega) w0 hlc
  rw [hL] at kl
  clear hlc
  refine (kl).mono ?_
  rintro e v0 ⟨rfl, hp⟩
  have Hm0 := Lib.hid (Hn0.out.trans hp (fun _ _ h => h))
  have hb := (hp.block _ (Array.getElem?_eq_some_iff.1 BX.out).1 id).trans BX.out
  clear BX
  have BX := Lib.hid hb
  clear hb
  have hb := (hp.block _ (Array.getElem?_eq_some_iff.1 BL.out).1 id).trans BL.out
  clear BL
  have BL := Lib.hid hb
  clear hb
  clear hp Hn0
  have cBX0 : v0.cell? ⟨gBX, 0, none⟩ = some (.int .u8 r) := by simp [World.cell?, BX.out]
  have cBX1 : v0.cell? ⟨gBX, 1, none⟩ = some (.int .u32 a) := by simp [World.cell?, BX.out]
  have cBX2 : v0.cell? ⟨gBX, 2, none⟩ = some (.int .u16 p) := by simp [World.cell?, BX.out]
  have cBX3 : v0.cell? ⟨gBX, 3, none⟩ = some (.int .u32 b) := by simp [World.cell?, BX.out]
  have cBX4 : v0.cell? ⟨gBX, 4, none⟩ = some (.int .u16 q) := by simp [World.cell?, BX.out]
  have cBX5 : v0.cell? ⟨gBX, 5, none⟩ = some (.int .u8 r2) := by simp [World.cell?, BX.out]
  have cBX6 : v0.cell? ⟨gBX, 6, none⟩ = some (.int .u32 a2) := by simp [World.cell?, BX.out]
  have cBX7 : v0.cell? ⟨gBX, 7, none⟩ = some (.int .u16 p2) := by simp [World.cell?, BX.out]
  have cBX8 : v0.cell? ⟨gBX, 8, none⟩ = some (.int .u32 b2) := by simp [World.cell?, BX.out]
  have cBX9 : v0.cell? ⟨gBX, 9, none⟩ = some (.int .u16 q2) := by simp [World.cell?, BX.out]
  have cBX10 : v0.cell? ⟨gBX, 10, none⟩ = some (.int .i64 st) := by simp [World.cell?, BX.out]
  have cBX11 : v0.cell? ⟨gBX, 11, none⟩ = some (.int .i64 dl) := by simp [World.cell?, BX.out]
  have cBX12 : v0.cell? ⟨gBX, 12, none⟩ = some (.slice ad n c) := by simp [World.cell?, BX.out]
  have lBX : gBX < v0.heap.size := cell_lt cBX0
  go_wp2_with fail
  clear cBX0 cBX1 cBX2 cBX3 cBX4 cBX5 cBX6 cBX7 cBX8 cBX9 cBX10 cBX11 cBX12 lBX
  refine (Kte.out _ (Ht.out.low Hm0.out) Hm0.out).mono ?_
  rintro e v1 ⟨rfl, hp⟩
  have Hm1 := Lib.hid (Hm0.out.trans hp (fun _ _ h => h))
  have hb := (hp.block _ (Array.getElem?_eq_some_iff.1 BX.out).1 id).trans BX.out
  clear BX
  have BX := Lib.hid hb
  clear hb
  have hb := (hp.block _ (Array.getElem?_eq_some_iff.1 BL.out).1 id).trans BL.out
  clear BL
  have BL := Lib.hid hb
  clear hb
  clear hp Hm0
  go_wp2_with fail
  refine (Kpe.out _ (Ht.out.low Hm1.out)).mono ?_
  rintro e v2 ⟨rfl, hp⟩
  have Hm2 := Lib.hid (Hm1.out.trans hp (fun _ _ h => h))
  have hb := (hp.block _ (Array.getElem?_eq_some_iff.1 BX.out).1 id).trans BX.out
  clear BX
  have BX := Lib.hid hb
  clear hb
  have hb := (hp.block _ (Array.getElem?_eq_some_iff.1 BL.out).1 id).trans BL.out
  clear BL
  have BL := Lib.hid hb
  clear hb
  clear hp Hm1
  have cBX0 : v2.cell? ⟨gBX, 0, none⟩ = some (.int .u8 r) := by simp [World.cell?, BX.out]
  have cBX1 : v2.cell? ⟨gBX, 1, none⟩ = some (.int .u32 a) := by simp [World.cell?, BX.out]
  have cBX2 : v2.cell? ⟨gBX, 2, none⟩ = some (.int .u16 p) := by simp [World.cell?, BX.out]
  have cBX3 : v2.cell? ⟨gBX, 3, none⟩ = some (.int .u32 b) := by simp [World.cell?, BX.out]
  have cBX4 : v2.cell? ⟨gBX, 4, none⟩ = some (.int .u16 q) := by simp [World.cell?, BX.out]
  have cBX5 : v2.cell? ⟨gBX, 5, none⟩ = some (.int .u8 r2) := by simp [World.cell?, BX.out]
  have cBX6 : v2.cell? ⟨gBX, 6, none⟩ = some (.int .u32 a2) := by simp [World.cell?, BX.out]
  have cBX7 : v2.cell? ⟨gBX, 7, none⟩ = some (.int .u16 p2) := by simp [World.cell?, BX.out]
  have cBX8 : v2.cell? ⟨gBX, 8, none⟩ = some (.int .u32 b2) := by simp [World.cell?, BX.out]
  have cBX9 : v2.cell? ⟨gBX, 9, none⟩ = some (.int .u16 q2) := by simp [World.cell?, BX.out]
  have cBX10 : v2.cell? ⟨gBX, 10, none⟩ = some (.int .i64 st) := by simp [World.cell?, BX.out]
  have cBX11 : v2.cell? ⟨gBX, 11, none⟩ = some (.int .i64 dl) := by simp [World.cell?, BX.out]
  have cBX12 : v2.cell? ⟨gBX, 12, none⟩ = some (.slice ad n c) := by simp [World.cell?, BX.out]
  have lBX : gBX < v2.heap.size := cell_lt cBX0
  go_wp2_with fail
  clear cBX0 cBX1 cBX2 cBX3 cBX4 cBX5 cBX6 cBX7 cBX8 cBX9 cBX10 cBX11 cBX12 lBX
  have hq : NoW v2 (v2.alloc (.cells #[.int .u8 0, .int .u32 0, .int .u16 0, .int .u32 0, .int .u16 0, .int .u8 0, .int .u32 0, .int .u16 0, .int .u32 0, .int .u16 0, .int .i64 0, .int .i64 0, .slice none 0 0] 31)) := (Fp.refl _ _).alloc _
  have Hq0 := Lib.hid (Hm2.out.trans hq (fun _ _ h => h))
  have hb := (hq.block _ (Array.getElem?_eq_some_iff.1 BX.out).1 id).trans BX.out
  clear BX
  have BX := Lib.hid hb
  clear hb
  have hb := (hq.block _ (Array.getElem?_eq_some_iff.1 BL.out).1 id).trans BL.out
  clear BL
  have BL := Lib.hid hb
  clear hb
  have hb : (v2.alloc (.cells #[.int .u8 0, .int .u32 0, .int .u16 0, .int .u32 0, .int .u16 0, .int .u8 0, .int .u32 0, .int .u16 0, .int .u32 0, .int .u16 0, .int .i64 0, .int .i64 0, .slice none 0 0] 31)).heap[v2.heap.size]? = some (.cells #[.int .u8 0, .int .u32 0, .int .u16 0, .int .u32 0, .int .u16 0, .int .u8 0, .int .u32 0, .int .u16 0, .int .u32 0, .int .u16 0, .int .i64 0, .int .i64 0, .slice none 0 0] 31) := by simpa using heap_alloc_new v2 (.cells #[.int .u8 0, .int .u32 0, .int .u16 0, .int .u32 0, .int .u16 0, .int .u8 0, .int .u32 0, .int .u16 0, .int .u32 0, .int .u16 0, .int .i64 0, .int .i64 0, .slice none 0 0] 31)
  have B6 := Lib.hid hb
  clear hb hq Hm2
  generalize (v2.alloc (.cells #[.int .u8 0, .int .u32 0, .int .u16 0, .int .u32 0, .int .u16 0, .int .u8 0, .int .u32 0, .int .u16 0, .int .u32 0, .int .u16 0, .int .i64 0, .int .i64 0, .slice none 0 0] 31)) = x0 at *
  generalize v2.heap.size = gB6 at *
  refine (Kcb.out _ (Ht.out.low Hq0.out)).mono ?_
  rintro e v3 ⟨rfl, hp⟩
  have Hm3 := Lib.hid (Hq0.out.trans hp (fun _ _ h => h))
  have hb := (hp.block _ (Array.getElem?_eq_some_iff.1 BX.out).1 id).trans BX.out
  clear BX
  have BX := Lib.hid hb
  clear hb
  have hb := (hp.block _ (Array.getElem?_eq_some_iff.1 BL.out).1 id).trans BL.out
  clear BL
  have BL := Lib.hid hb
  clear hb
  have hb := (hp.block _ (Array.getElem?_eq_some_iff.1 B6.out).1 id).trans B6.out
  clear B6
  have B6 := Lib.hid hb
  clear hb
  clear hp Hq0
  go_wp2_with fail
  refine (Kp.out _ (Ht.out.low Hm3.out)).mono ?_
  rintro e v4 ⟨rfl, hp⟩
  have Hm4 := Lib.hid (Hm3.out.trans hp (fun _ _ h => h))
  have hb := (hp.block _ (Array.getElem?_eq_some_iff.1 BX.out).1 id).trans BX.out
  clear BX
  have BX := Lib.hid hb
  clear hb
  have hb := (hp.block _ (Array.getElem?_eq_some_iff.1 BL.out).1 id).trans BL.out
  clear BL
  have BL := Lib.hid hb
  clear hb
  have hb := (hp.block _ (Array.getElem?_eq_some_iff.1 B6.out).1 id).trans B6.out
  clear B6
  have B6 := Lib.hid hb
  clear hb
  clear hp Hm3
  go_wp2_with fail
  go_ret
  exact ⟨rfl, Hm4.out⟩

set_option maxHeartbeats 8000000 in
set_option maxRecDepth 100000 in
theorem back_np (r a p b q r2 a2 p2 b2 q2 : Nat) (st dl : Int) (ad : Option Addr) (n c : Nat) (oa op ia ip : Nat → Nat) (t l : List UInt8) (hcm : n ≤ maxLen) (hL : longB 1 (fun _ => n) 1 = false) (hl : l.length ≤ 300) (w : World) (ht : TbQ w)
    (ktx : ∀ W, TbQ W → NoW w W → Calls Tryd.prog 37 #[.agg #[.int .u8 r, .int .u32 a, .int .u16 p, .int .u32 b, .int .u16 q, .int .u8 r2, .int .u32 a2, .int .u16 p2, .int .u32 b2, .int .u16 q2, .int .i64 st, .int .i64 dl, .slice ad n c]] W (Ret1 (str t) W))
    (kpt : ∀ W, TbQ W → Calls Tryd.prog 38 #[str t] W fun e w' => ∃ o' c', e = .returned (.tuple #[.agg #[.int .u8 r, .int .u32 a, .int .u16 p, .int .u32 b, .int .u16 q, .int .u8 r2, .int .u32 a2, .int .u16 p2, .int .u32 b2, .int .u16 q2, .int .i64 st, .int .i64 dl, .slice o' n c'], .int .i64 0]) ∧ HoldsIn w' o' n (holdsV oa op ia ip n) ∧ NoW W w')
    (kck : ∀ W, TbQ W → Calls Tryd.prog 19 #[.agg #[.int .u8 r, .int .u32 a, .int .u16 p, .int .u32 b, .int .u16 q, .int .u8 r2, .int .u32 a2, .int .u16 p2, .int .u32 b2, .int .u16 q2, .int .i64 st, .int .i64 dl, .slice ad n c]] W (Ret1 (.int .i64 0) W))
    (ksm : ∀ W o c', NoW w W → HoldsIn W o n (holdsV oa op ia ip n) → Calls Tryd.prog 29 #[.agg #[.int .u8 r, .int .u32 a, .int .u16 p, .int .u32 b, .int .u16 q, .int .u8 r2, .int .u32 a2, .int .u16 p2, .int .u32 b2, .int .u16 q2, .int .i64 st, .int .i64 dl, .slice ad n c], .agg #[.int .u8 r, .int .u32 a, .int .u16 p, .int .u32 b, .int .u16 q, .int .u8 r2, .int .u32 a2, .int .u16 p2, .int .u32 b2, .int .u16 q2, .int .i64 st, .int .i64 dl, .slice o n c']] W (Ret1 (.bool true) W))
    (knp : ∀ W, TbQ W → Calls Tryd.prog 38 #[str l] W (Ret1 (.tuple #[.agg #[.int .u8 0, .int .u32 0, .int .u16 0, .int .u32 0, .int .u16 0, .int .u8 0, .int .u32 0, .int .u16 0, .int .u32 0, .int .u16 0, .int .i64 0, .int .i64 0, .slice none 0 0], .int .i64 3]) W)) : Calls Tryd.prog 7 #[.agg #[.int .u8 r, .int .u32 a, .int .u16 p, .int .u32 b, .int .u16 q, .int .u8 r2, .int .u32 a2, .int .u16 p2, .int .u32 b2, .int .u16 q2, .int .i64 st, .int .i64 dl, .slice ad n c], str l] w (Ret1 (.bool true) w) := by
  have Ktx := Lib.hid ktx
  have Kpt := Lib.hid kpt
  have Kck := Lib.hid kck
  have Ksm := Lib.hid ksm
  have Knp := Lib.hid knp
  have Ht := Lib.hid ht
  have Hcm := Lib.hid hcm
  have kp := fun W (hW : TbQ W) => passes18 W hW.toP.base
  have Kp := Lib.hid kp
  clear ht kp hcm ktx kpt kck ksm knp
  go_enter Tryd.func7, Tryd.ntmps7
  go_wp2_with fail
  have hw0 : NoW w ((w.alloc (.cells #[.int .u8 r, .int .u32 a, .int .u16 p, .int .u32 b, .int .u16 q, .int .u8 r2, .int .u32 a2, .int .u16 p2, .int .u32 b2, .int .u16 q2, .int .i64 st, .int .i64 dl, .slice ad n c] 31)).alloc (.cells #[.int .u8 r, .int .u32 a, .int .u16 p, .int .u32 b, .int .u16 q, .int .u8 r2, .int .u32 a2, .int .u16 p2, .int .u32 b2, .int .u16 q2, .int .i64 st, .int .i64 dl, .slice ad n c] 31)) := ((Fp.refl _ _).alloc _).alloc _
  obtain ⟨hb0, hb1⟩ := box2 w (.cells #[.int .u8 r, .int .u32 a, .int .u16 p, .int .u32 b, .int .u16 q, .int .u8 r2, .int .u32 a2, .int .u16 p2, .int .u32 b2, .int .u16 q2, .int .i64 st, .int .i64 dl, .slice ad n c] 31) (.cells #[.int .u8 r, .int .u32 a, .int .u16 p, .int .u32 b, .int .u16 q, .int .u8 r2, .int .u32 a2, .int .u16 p2, .int .u32 b2, .int .u16 q2, .int .i64 st, .int .i64 dl, .slice ad n c] 31)
  generalize (w.alloc (.cells #[.int .u8 r, .int .u32 a, .int .u16 p, .int .u32 b, .int .u16 q, .int .u8 r2, .int .u32 a2, .int .u16 p2, .int .u32 b2, .int .u16 q2, .int .i64 st, .int .i64 dl, .slice ad n c] 31)).alloc (.cells #[.int .u8 r, .int .u32 a, .int .u16 p, .int .u32 b, .int .u16 q, .int .u8 r2, .int .u32 a2, .int .u16 p2, .int .u32 b2, .int .u16 q2, .int .i64 st, .int .i64 dl, .slice ad n c] 31) = w0 at *
  have BX := Lib.hid hb0
  have BL := Lib.hid hb1
  have Hn0 := Lib.hid hw0
  clear hb0 hb1 hw0
  generalize w.heap.size + 1 = gBL at *
  generalize w.heap.size = gBX at *
  have hlc : ∀ i, i < 1 → ∃ b o, (some ⟨gBL, 0, none⟩ : Option Addr) = some ⟨b, o, none⟩ ∧ w0.cell? ⟨b, o + i * 13 + 12, none⟩ = some (.slice ((fun _ => ad) i) ((fun _ => n) i) ((fun _ => c) i)) ∧ (fun _ => n) i ≤ maxLen := by
    intro i hi
    obtain rfl : i = 0 := by omega
    exact ⟨gBL, 0, rfl, by simp [World.cell?, BL.out], Hcm.out⟩
  have kl := long_ok (some ⟨gBL, 0, none⟩) 1 1 (fun _ => n) (fun _ => c) (fun _ => ad) 1 (by unfold maxLen; omega) (by omega) w0 hlc
  rw [hL] at kl
  clear hlc
  refine (kl).mono ?_
  rintro e v0 ⟨rfl, hp⟩
  have Hm0 := Lib.hid (Hn0.out.trans hp (fun _ _ h => h))
  have hb := (hp.block _ (Array.getElem?_eq_some_iff.1 BX.out).1 id).trans BX.out
  clear BX
  have BX := Lib.hid hb
  clear hb
  have hb := (hp.block _ (Array.getElem?_eq_some_iff.1 BL.out).1 id).trans BL.out
  clear BL
  have BL := Lib.hid hb
  clear hb
  clear hp Hn0
  have cBX0 : v0.cell? ⟨gBX, 0, none⟩ = some (.int .u8 r) := by simp [World.cell?, BX.out]
  have cBX1 : v0.cell? ⟨gBX, 1, none⟩ = some (.int .u32 a) := by simp [World.cell?, BX.out]
  have cBX2 : v0.cell? ⟨gBX, 2, none⟩ = some (.int .u16 p) := by simp [World.cell?, BX.out]
  have cBX3 : v0.cell? ⟨gBX, 3, none⟩ = some (.int .u32 b) := by simp [World.cell?, BX.out]
  have cBX4 : v0.cell? ⟨gBX, 4, none⟩ = some (.int .u16 q) := by simp [World.cell?, BX.out]
  have cBX5 : v0.cell? ⟨gBX, 5, none⟩ = some (.int .u8 r2) := by simp [World.cell?, BX.out]
  have cBX6 : v0.cell? ⟨gBX, 6, none⟩ = some (.int .u32 a2) := by simp [World.cell?, BX.out]
  have cBX7 : v0.cell? ⟨gBX, 7, none⟩ = some (.int .u16 p2) := by simp [World.cell?, BX.out]
  have cBX8 : v0.cell? ⟨gBX, 8, none⟩ = some (.int .u32 b2) := by simp [World.cell?, BX.out]
  have cBX9 : v0.cell? ⟨gBX, 9, none⟩ = some (.int .u16 q2) := by simp [World.cell?, BX.out]
  have cBX10 : v0.cell? ⟨gBX, 10, none⟩ = some (.int .i64 st) := by simp [World.cell?, BX.out]
  have cBX11 : v0.cell? ⟨gBX, 11, none⟩ = some (.int .i64 dl) := by simp [World.cell?, BX.out]
  have cBX12 : v0.cell? ⟨gBX, 12, none⟩ = some (.slice ad n c) := by simp [World.cell?, BX.out]
  have lBX : gBX < v0.heap.size := cell_lt cBX0
  go_wp2_with fail
  clear cBX0 cBX1 cBX2 cBX3 cBX4 cBX5 cBX6 cBX7 cBX8 cBX9 cBX10 cBX11 cBX12 lBX
  refine (Ktx.out _ (Ht.out.low Hm0.out) Hm0.out).mono ?_
  rintro e v1 ⟨rfl, hp⟩
  have Hm1 := Lib.hid (Hm0.out.trans hp (fun _ _ h => h))
  have hb := (hp.block _ (Array.getElem?_eq_some_iff.1 BX.out).1 id).trans BX.out
  clear BX
  have BX := Lib.hid hb
  clear hb
  have hb := (hp.block _ (Array.getElem?_eq_some_iff.1 BL.out).1 id).trans BL.out
  clear BL
  have BL := Lib.hid hb
  clear hb
  clear hp Hm0
  go_wp2_with fail
  refine (Kpt.out _ (Ht.out.low Hm1.out)).mono ?_
  rintro e v2 ⟨o6, c6, rfl, hin, hp⟩
  have Hm2 := Lib.hid (Hm1.out.trans hp (fun _ _ h => h))
  have hb := (hp.block _ (Array.getElem?_eq_some_iff.1 BX.out).1 id).trans BX.out
  clear BX
  have BX := Lib.hid hb
  clear hb
  have hb := (hp.block _ (Array.getElem?_eq_some_iff.1 BL.out).1 id).trans BL.out
  clear BL
  have BL := Lib.hid hb
  clear hb
  have Hin6 := Lib.hid hin
  clear hin
  clear hp Hm1
  have cBX0 : v2.cell? ⟨gBX, 0, none⟩ = some (.int .u8 r) := by simp [World.cell?, BX.out]
  have cBX1 : v2.cell? ⟨gBX, 1, none⟩ = some (.int .u32 a) := by simp [World.cell?, BX.out]
  have cBX2 : v2.cell? ⟨gBX, 2, none⟩ = some (.int .u16 p) := by simp [World.cell?, BX.out]
  have cBX3 : v2.cell? ⟨gBX, 3, none⟩ = some (.int .u32 b) := by simp [World.cell?, BX.out]
  have cBX4 : v2.cell? ⟨gBX, 4, none⟩ = some (.int .u16 q) := by simp [World.cell?, BX.out]
  have cBX5 : v2.cell? ⟨gBX, 5, none⟩ = some (.int .u8 r2) := by simp [World.cell?, BX.out]
  have cBX6 : v2.cell? ⟨gBX, 6, none⟩ = some (.int .u32 a2) := by simp [World.cell?, BX.out]
  have cBX7 : v2.cell? ⟨gBX, 7, none⟩ = some (.int .u16 p2) := by simp [World.cell?, BX.out]
  have cBX8 : v2.cell? ⟨gBX, 8, none⟩ = some (.int .u32 b2) := by simp [World.cell?, BX.out]
  have cBX9 : v2.cell? ⟨gBX, 9, none⟩ = some (.int .u16 q2) := by simp [World.cell?, BX.out]
  have cBX10 : v2.cell? ⟨gBX, 10, none⟩ = some (.int .i64 st) := by simp [World.cell?, BX.out]
  have cBX11 : v2.cell? ⟨gBX, 11, none⟩ = some (.int .i64 dl) := by simp [World.cell?, BX.out]
  have cBX12 : v2.cell? ⟨gBX, 12, none⟩ = some (.slice ad n c) := by simp [World.cell?, BX.out]
  have lBX : gBX < v2.heap.size := cell_lt cBX0
  go_wp2_with fail
  clear cBX0 cBX1 cBX2 cBX3 cBX4 cBX5 cBX6 cBX7 cBX8 cBX9 cBX10 cBX11 cBX12 lBX
  have hq : NoW v2 (v2.alloc (.cells #[.int .u8 r, .int .u32 a, .int .u16 p, .int .u32 b, .int .u16 q, .int .u8 r2, .int .u32 a2, .int .u16 p2, .int .u32 b2, .int .u16 q2, .int .i64 st, .int .i64 dl, .slice o6 n c6] 31)) := (Fp.refl _ _).alloc _
  have Hq0 := Lib.hid (Hm2.out.trans hq (fun _ _ h => h))
  have hb := (hq.block _ (Array.getElem?_eq_some_iff.1 BX.out).1 id).trans BX.out
  clear BX
  have BX := Lib.hid hb
  clear hb
  have hb := (hq.block _ (Array.getElem?_eq_some_iff.1 BL.out).1 id).trans BL.out
  clear BL
  have BL := Lib.hid hb
  clear hb
  have hb := Hin6.out.low hq
  clear Hin6
  have Hin6 := Lib.hid hb
  clear hb
  have hb : (v2.alloc (.cells #[.int .u8 r, .int .u32 a, .int .u16 p, .int .u32 b, .int .u16 q, .int .u8 r2, .int .u32 a2, .int .u16 p2, .int .u32 b2, .int .u16 q2, .int .i64 st, .int .i64 dl, .slice o6 n c6] 31)).heap[v2.heap.size]? = some (.cells #[.int .u8 r, .int .u32 a, .int .u16 p, .int .u32 b, .int .u16 q, .int .u8 r2, .int .u32 a2, .int .u16 p2, .int .u32 b2, .int .u16 q2, .int .i64 st, .int .i64 dl, .slice o6 n c6] 31) := by simpa using heap_alloc_new v2 (.cells #[.int .u8 r, .int .u32 a, .int .u16 p, .int .u32 b, .int .u16 q, .int .u8 r2, .int .u32 a2, .int .u16 p2, .int .u32 b2, .int .u16 q2, .int .i64 st, .int .i64 dl, .slice o6 n c6] 31)
  have B6 := Lib.hid hb
  clear hb hq Hm2
  generalize (v2.alloc (.cells #[.int .u8 r, .int .u32 a, .int .u16 p, .int .u32 b, .int .u16 q, .int .u8 r2, .int .u32 a2, .int .u16 p2, .int .u32 b2, .int .u16 q2, .int .i64 st, .int .i64 dl, .slice o6 n c6] 31)) = x0 at *
  generalize v2.heap.size = gB6 at *
  refine (Kck.out _ (Ht.out.low Hq0.out)).mono ?_
  rintro e v3 ⟨rfl, hp⟩
  have Hm3 := Lib.hid (Hq0.out.trans hp (fun _ _ h => h))
  have hb := (hp.block _ (Array.getElem?_eq_some_iff.1 BX.out).1 id).trans BX.out
  clear BX
  have BX := Lib.hid hb
  clear hb
  have hb := (hp.block _ (Array.getElem?_eq_some_iff.1 BL.out).1 id).trans BL.out
  clear BL
  have BL := Lib.hid hb
  clear hb
  have hb := (hp.block _ (Array.getElem?_eq_some_iff.1 B6.out).1 id).trans B6.out
  clear B6
  have B6 := Lib.hid hb
  clear hb
  have hb := Hin6.out.low hp
  clear Hin6
  have Hin6 := Lib.hid hb
  clear hb
  clear hp Hq0
  go_wp2_with fail
  refine (Knp.out _ (Ht.out.low Hm3.out)).mono ?_
  rintro e v4 ⟨rfl, hp⟩
  have Hm4 := Lib.hid (Hm3.out.trans hp (fun _ _ h => h))
  have hb := (hp.block _ (Array.getElem?_eq_some_iff.1 BX.out).1 id).trans BX.out
  clear BX
  have BX := Lib.hid hb
  clear hb
  have hb := (hp.block _ (Array.getElem?_eq_some_iff.1 BL.out).1 id).trans BL.out
  clear BL
  have BL := Lib.hid hb
  clear hb
  have hb := (hp.block _ (Array.getElem?_eq_some_iff.1 B6.out).1 id).trans B6.out
  clear B6
  have B6 := Lib.hid hb
  clear hb
  have hb := Hin6.out.low hp
  clear Hin6
  have Hin6 := Lib.hid hb
  clear hb
  clear hp Hm3
  have cBX0 : v4.cell? ⟨gBX, 0, none⟩ = some (.int .u8 r) := by simp [World.cell?, BX.out]
  have cBX1 : v4.cell? ⟨gBX, 1, none⟩ = some (.int .u32 a) := by simp [World.cell?, BX.out]
  have cBX2 : v4.cell? ⟨gBX, 2, none⟩ = some (.int .u16 p) := by simp [World.cell?, BX.out]
  have cBX3 : v4.cell? ⟨gBX, 3, none⟩ = some (.int .u32 b) := by simp [World.cell?, BX.out]
  have cBX4 : v4.cell? ⟨gBX, 4, none⟩ = some (.int .u16 q) := by simp [World.cell?, BX.out]
  have cBX5 : v4.cell? ⟨gBX, 5, none⟩ = some (.int .u8 r2) := by simp [World.cell?, BX.out]
  have cBX6 : v4.cell? ⟨gBX, 6, none⟩ = some (.int .u32 a2) := by simp [World.cell?, BX.out]
  have cBX7 : v4.cell? ⟨gBX, 7, none⟩ = some (.int .u16 p2) := by simp [World.cell?, BX.out]
  have cBX8 : v4.cell? ⟨gBX, 8, none⟩ = some (.int .u32 b2) := by simp [World.cell?, BX.out]
  have cBX9 : v4.cell? ⟨gBX, 9, none⟩ = some (.int .u16 q2) := by simp [World.cell?, BX.out]
  have cBX10 : v4.cell? ⟨gBX, 10, none⟩ = some (.int .i64 st) := by simp [World.cell?, BX.out]
  have cBX11 : v4.cell? ⟨gBX, 11, none⟩ = some (.int .i64 dl) := by simp [World.cell?, BX.out]
  have cBX12 : v4.cell? ⟨gBX, 12, none⟩ = some (.slice ad n c) := by simp [World.cell?, BX.out]
  have lBX : gBX < v4.heap.size := cell_lt cBX0
  have cB60 : v4.cell? ⟨gB6, 0, none⟩ = some (.int .u8 r) := by simp [World.cell?, B6.out]
  have cB61 : v4.cell? ⟨gB6, 1, none⟩ = some (.int .u32 a) := by simp [World.cell?, B6.out]
  have cB62 : v4.cell? ⟨gB6, 2, none⟩ = some (.int .u16 p) := by simp [World.cell?, B6.out]
  have cB63 : v4.cell? ⟨gB6, 3, none⟩ = some (.int .u32 b) := by simp [World.cell?, B6.out]
  have cB64 : v4.cell? ⟨gB6, 4, none⟩ = some (.int .u16 q) := by simp [World.cell?, B6.out]
  have cB65 : v4.cell? ⟨gB6, 5, none⟩ = some (.int .u8 r2) := by simp [World.cell?, B6.out]
  have cB66 : v4.cell? ⟨gB6, 6, none⟩ = some (.int .u32 a2) := by simp [World.cell?, B6.out]
  have cB67 : v4.cell? ⟨gB6, 7, none⟩ = some (.int .u16 p2) := by simp [World.cell?, B6.out]
  have cB68 : v4.cell? ⟨gB6, 8, none⟩ = some (.int .u32 b2) := by simp [World.cell?, B6.out]
  have cB69 : v4.cell? ⟨gB6, 9, none⟩ = some (.int .u16 q2) := by simp [World.cell?, B6.out]
  have cB610 : v4.cell? ⟨gB6, 10, none⟩ = some (.int .i64 st) := by simp [World.cell?, B6.out]
  have cB611 : v4.cell? ⟨gB6, 11, none⟩ = some (.int .i64 dl) := by simp [World.cell?, B6.out]
  have cB612 : v4.cell? ⟨gB6, 12, none⟩ = some (.slice o6 n c6) := by simp [World.cell?, B6.out]
  have lB6 : gB6 < v4.heap.size := cell_lt cB60
  go_wp2_with fail
  clear cBX0 cBX1 cBX2 cBX3 cBX4 cBX5 cBX6 cBX7 cBX8 cBX9 cBX10 cBX11 cBX12 lBX cB60 cB61 cB62 cB63 cB64 cB65 cB66 cB67 cB68 cB69 cB610 cB611 cB612 lB6
  have hq : NoW v4 (v4.alloc (.cells #[.int .u8 0, .int .u32 0, .int .u16 0, .int .u32 0, .int .u16 0, .int .u8 0, .int .u32 0, .int .u16 0, .int .u32 0, .int .u16 0, .int .i64 0, .int .i64 0, .slice none 0 0] 31)) := (Fp.refl _ _).alloc _
  have Hq1 := Lib.hid (Hm4.out.trans hq (fun _ _ h => h))
  have hb := (hq.block _ (Array.getElem?_eq_some_iff.1 BX.out).1 id).trans BX.out
  clear BX
  have BX := Lib.hid hb
  clear hb
  have hb := (hq.block _ (Array.getElem?_eq_some_iff.1 BL.out).1 id).trans BL.out
  clear BL
  have BL := Lib.hid hb
  clear hb
  have hb := (hq.block _ (Array.getElem?_eq_some_iff.1 B6.out).1 id).trans B6.out
  clear B6
  have B6 := Lib.hid hb
  clear hb
  have hb := Hin6.out.low hq
  clear Hin6
  have Hin6 := Lib.hid hb
  clear hb
  have hb : (v4.alloc (.cells #[.int .u8 0, .int .u32 0, .int .u16 0, .int .u32 0, .int .u16 0, .int .u8 0, .int .u32 0, .int .u16 0, .int .u32 0, .int .u16 0, .int .i64 0, .int .i64 0, .slice none 0 0] 31)).heap[v4.heap.size]? = some (.cells #[.int .u8 0, .int .u32 0, .int .u16 0, .int .u32 0, .int .u16 0, .int .u8 0, .int .u32 0, .int .u16 0, .int .u32 0, .int .u16 0, .int .i64 0, .int .i64 0, .slice none 0 0] 31) := by simpa using heap_alloc_new v4 (.cells #[.int .u8 0, .int .u32 0, .int .u16 0, .int .u32 0, .int .u16 0, .int .u8 0, .int .u32 0, .int .u16 0, .int .u32 0, .int .u16 0, .int .i64 0, .int .i64 0, .slice none 0 0] 31)
  have B8 := Lib.hid hb
  clear hb hq Hm4
  generalize (v4.alloc (.cells #[.int .u8 0, .int .u32 0, .int .u16 0, .int .u32 0, .int .u16 0, .int .u8 0, .int .u32 0, .int .u16 0, .int .u32 0, .int .u16 0, .int .i64 0, .int .i64 0, .slice none 0 0] 31)) = x1 at *
  generalize v4.heap.size = gB8 at *
  refine (Ksm.out _ o6 c6 Hq1.out Hin6.out).mono ?_
  rintro e v5 ⟨rfl, hp⟩
  have Hm5 := Lib.hid (Hq1.out.trans hp (fun _ _ h => h))
  have hb := (hp.block _ (Array.getElem?_eq_some_iff.1 BX.out).1 id).trans BX.out
  clear BX
  have BX := Lib.hid hb
  clear hb
  have hb := (hp.block _ (Array.getElem?_eq_some_iff.1 BL.out).1 id).trans BL.out
  clear BL
  have BL := Lib.hid hb
  clear hb
  have hb := (hp.block _ (Array.getElem?_eq_some_iff.1 B6.out).1 id).trans B6.out
  clear B6
  have B6 := Lib.hid hb
  clear hb
  have hb := (hp.block _ (Array.getElem?_eq_some_iff.1 B8.out).1 id).trans B8.out
  clear B8
  have B8 := Lib.hid hb
  clear hb
  have hb := Hin6.out.low hp
  clear Hin6
  have Hin6 := Lib.hid hb
  clear hb
  clear hp Hq1
  go_wp2_with fail
  refine (Kp.out _ (Ht.out.low Hm5.out)).mono ?_
  rintro e v6 ⟨rfl, hp⟩
  have Hm6 := Lib.hid (Hm5.out.trans hp (fun _ _ h => h))
  have hb := (hp.block _ (Array.getElem?_eq_some_iff.1 BX.out).1 id).trans BX.out
  clear BX
  have BX := Lib.hid hb
  clear hb
  have hb := (hp.block _ (Array.getElem?_eq_some_iff.1 BL.out).1 id).trans BL.out
  clear BL
  have BL := Lib.hid hb
  clear hb
  have hb := (hp.block _ (Array.getElem?_eq_some_iff.1 B6.out).1 id).trans B6.out
  clear B6
  have B6 := Lib.hid hb
  clear hb
  have hb := (hp.block _ (Array.getElem?_eq_some_iff.1 B8.out).1 id).trans B8.out
  clear B8
  have B8 := Lib.hid hb
  clear hb
  have hb := Hin6.out.low hp
  clear Hin6
  have Hin6 := Lib.hid hb
  clear hb
  clear hp Hm5
  go_wp2_with fail
  go_ret
  exact ⟨rfl, Hm6.out⟩

set_option maxHeartbeats 8000000 in
set_option maxRecDepth 100000 in
theorem back_yes (r a p b q r2 a2 p2 b2 q2 : Nat) (st dl : Int) (ad : Option Addr) (n c : Nat) (oa op ia ip : Nat → Nat) (r5 a5 p5 b5 q5 r6 a6 p6 b6 q6 : Nat) (zst zdl : Int) (zn : Nat) (oa3 op3 ia3 ip3 : Nat → Nat) (t l : List UInt8) (hcm : n ≤ maxLen) (hL : longB 1 (fun _ => n) 1 = false) (hl : l.length ≤ 300) (w : World) (ht : TbQ w)
    (ktx : ∀ W, TbQ W → NoW w W → Calls Tryd.prog 37 #[.agg #[.int .u8 r, .int .u32 a, .int .u16 p, .int .u32 b, .int .u16 q, .int .u8 r2, .int .u32 a2, .int .u16 p2, .int .u32 b2, .int .u16 q2, .int .i64 st, .int .i64 dl, .slice ad n c]] W (Ret1 (str t) W))
    (kpt : ∀ W, TbQ W → Calls Tryd.prog 38 #[str t] W fun e w' => ∃ o' c', e = .returned (.tuple #[.agg #[.int .u8 r, .int .u32 a, .int .u16 p, .int .u32 b, .int .u16 q, .int .u8 r2, .int .u32 a2, .int .u16 p2, .int .u32 b2, .int .u16 q2, .int .i64 st, .int .i64 dl, .slice o' n c'], .int .i64 0]) ∧ HoldsIn w' o' n (holdsV oa op ia ip n) ∧ NoW W w')
    (kck : ∀ W, TbQ W → Calls Tryd.prog 19 #[.agg #[.int .u8 r, .int .u32 a, .int .u16 p, .int .u32 b, .int .u16 q, .int .u8 r2, .int .u32 a2, .int .u16 p2, .int .u32 b2, .int .u16 q2, .int .i64 st, .int .i64 dl, .slice ad n c]] W (Ret1 (.int .i64 0) W))
    (ksm : ∀ W o c', NoW w W → HoldsIn W o n (holdsV oa op ia ip n) → Calls Tryd.prog 29 #[.agg #[.int .u8 r, .int .u32 a, .int .u16 p, .int .u32 b, .int .u16 q, .int .u8 r2, .int .u32 a2, .int .u16 p2, .int .u32 b2, .int .u16 q2, .int .i64 st, .int .i64 dl, .slice ad n c], .agg #[.int .u8 r, .int .u32 a, .int .u16 p, .int .u32 b, .int .u16 q, .int .u8 r2, .int .u32 a2, .int .u16 p2, .int .u32 b2, .int .u16 q2, .int .i64 st, .int .i64 dl, .slice o n c']] W (Ret1 (.bool true) W))
    (kps : ∀ W, TbQ W → Calls Tryd.prog 38 #[str l] W fun e w' => ∃ o' c', e = .returned (.tuple #[.agg #[.int .u8 r5, .int .u32 a5, .int .u16 p5, .int .u32 b5, .int .u16 q5, .int .u8 r6, .int .u32 a6, .int .u16 p6, .int .u32 b6, .int .u16 q6, .int .i64 zst, .int .i64 zdl, .slice o' zn c'], .int .i64 0]) ∧ HoldsIn w' o' zn (holdsV oa3 op3 ia3 ip3 zn) ∧ NoW W w')
    (ktz : ∀ W o c', TbQ W → HoldsIn W o zn (holdsV oa3 op3 ia3 ip3 zn) → Calls Tryd.prog 37 #[.agg #[.int .u8 r5, .int .u32 a5, .int .u16 p5, .int .u32 b5, .int .u16 q5, .int .u8 r6, .int .u32 a6, .int .u16 p6, .int .u32 b6, .int .u16 q6, .int .i64 zst, .int .i64 zdl, .slice o zn c']] W (Ret1 (str l) W))
    (kcz : ∀ W o c', TbQ W → Calls Tryd.prog 19 #[.agg #[.int .u8 r5, .int .u32 a5, .int .u16 p5, .int .u32 b5, .int .u16 q5, .int .u8 r6, .int .u32 a6, .int .u16 p6, .int .u32 b6, .int .u16 q6, .int .i64 zst, .int .i64 zdl, .slice o zn c']] W (Ret1 (.int .i64 0) W)) : Calls Tryd.prog 7 #[.agg #[.int .u8 r, .int .u32 a, .int .u16 p, .int .u32 b, .int .u16 q, .int .u8 r2, .int .u32 a2, .int .u16 p2, .int .u32 b2, .int .u16 q2, .int .i64 st, .int .i64 dl, .slice ad n c], str l] w (Ret1 (.bool true) w) := by
  have Ktx := Lib.hid ktx
  have Kpt := Lib.hid kpt
  have Kck := Lib.hid kck
  have Ksm := Lib.hid ksm
  have Kps := Lib.hid kps
  have Ktz := Lib.hid ktz
  have Kcz := Lib.hid kcz
  have Ht := Lib.hid ht
  have Hcm := Lib.hid hcm
  have kp := fun W (hW : TbQ W) => passes18 W hW.toP.base
  have Kp := Lib.hid kp
  clear ht kp hcm ktx kpt kck ksm kps ktz kcz
  go_enter Tryd.func7, Tryd.ntmps7
  go_wp2_with fail
  have hw0 : NoW w ((w.alloc (.cells #[.int .u8 r, .int .u32 a, .int .u16 p, .int .u32 b, .int .u16 q, .int .u8 r2, .int .u32 a2, .int .u16 p2, .int .u32 b2, .int .u16 q2, .int .i64 st, .int .i64 dl, .slice ad n c] 31)).alloc (.cells #[.int .u8 r, .int .u32 a, .int .u16 p, .int .u32 b, .int .u16 q, .int .u8 r2, .int .u32 a2, .int .u16 p2, .int .u32 b2, .int .u16 q2, .int .i64 st, .int .i64 dl, .slice ad n c] 31)) := ((Fp.refl _ _).alloc _).alloc _
  obtain ⟨hb0, hb1⟩ := box2 w (.cells #[.int .u8 r, .int .u32 a, .int .u16 p, .int .u32 b, .int .u16 q, .int .u8 r2, .int .u32 a2, .int .u16 p2, .int .u32 b2, .int .u16 q2, .int .i64 st, .int .i64 dl, .slice ad n c] 31) (.cells #[.int .u8 r, .int .u32 a, .int .u16 p, .int .u32 b, .int .u16 q, .int .u8 r2, .int .u32 a2, .int .u16 p2, .int .u32 b2, .int .u16 q2, .int .i64 st, .int .i64 dl, .slice ad n c] 31)
  generalize (w.alloc (.cells #[.int .u8 r, .int .u32 a, .int .u16 p, .int .u32 b, .int .u16 q, .int .u8 r2, .int .u32 a2, .int .u16 p2, .int .u32 b2, .int .u16 q2, .int .i64 st, .int .i64 dl, .slice ad n c] 31)).alloc (.cells #[.int .u8 r, .int .u32 a, .int .u16 p, .int .u32 b, .int .u16 q, .int .u8 r2, .int .u32 a2, .int .u16 p2, .int .u32 b2, .int .u16 q2, .int .i64 st, .int .i64 dl, .slice ad n c] 31) = w0 at *
  have BX := Lib.hid hb0
  have BL := Lib.hid hb1
  have Hn0 := Lib.hid hw0
  clear hb0 hb1 hw0
  generalize w.heap.size + 1 = gBL at *
  generalize w.heap.size = gBX at *
  have hlc : ∀ i, i < 1 → ∃ b o, (some ⟨gBL, 0, none⟩ : Option Addr) = some ⟨b, o, none⟩ ∧ w0.cell? ⟨b, o + i * 13 + 12, none⟩ = some (.slice ((fun _ => ad) i) ((fun _ => n) i) ((fun _ => c) i)) ∧ (fun _ => n) i ≤ maxLen := by
    intro i hi
    obtain rfl : i = 0 := by omega
    exact ⟨gBL, 0, rfl, by simp [World.cell?, BL.out], Hcm.out⟩
  have kl := long_ok (some ⟨gBL, 0, none⟩) 1 1 (fun _ => n) (fun _ => c) (fun _ => ad) 1 (by unfold maxLen; omega) (by omega) w0 hlc
  rw [hL] at kl
  clear hlc
  refine (kl).mono ?_
  rintro e v0 ⟨rfl, hp⟩
  have Hm0 := Lib.hid (Hn0.out.trans hp (fun _ _ h => h))
  have hb := (hp.block _ (Array.getElem?_eq_some_iff.1 BX.out).1 id).trans BX.out
  clear BX
  have BX := Lib.hid hb
  clear hb
  have hb := (hp.block _ (Array.getElem?_eq_some_iff.1 BL.out).1 id).trans BL.out
  clear BL
  have BL := Lib.hid hb
  clear hb
  clear hp Hn0
  have cBX0 : v0.cell? ⟨gBX, 0, none⟩ = some (.int .u8 r) := by simp [World.cell?, BX.out]
  have cBX1 : v0.cell? ⟨gBX, 1, none⟩ = some (.int .u32 a) := by simp [World.cell?, BX.out]
  have cBX2 : v0.cell? ⟨gBX, 2, none⟩ = some (.int .u16 p) := by simp [World.cell?, BX.out]
  have cBX3 : v0.cell? ⟨gBX, 3, none⟩ = some (.int .u32 b) := by simp [World.cell?, BX.out]
  have cBX4 : v0.cell? ⟨gBX, 4, none⟩ = some (.int .u16 q) := by simp [World.cell?, BX.out]
  have cBX5 : v0.cell? ⟨gBX, 5, none⟩ = some (.int .u8 r2) := by simp [World.cell?, BX.out]
  have cBX6 : v0.cell? ⟨gBX, 6, none⟩ = some (.int .u32 a2) := by simp [World.cell?, BX.out]
  have cBX7 : v0.cell? ⟨gBX, 7, none⟩ = some (.int .u16 p2) := by simp [World.cell?, BX.out]
  have cBX8 : v0.cell? ⟨gBX, 8, none⟩ = some (.int .u32 b2) := by simp [World.cell?, BX.out]
  have cBX9 : v0.cell? ⟨gBX, 9, none⟩ = some (.int .u16 q2) := by simp [World.cell?, BX.out]
  have cBX10 : v0.cell? ⟨gBX, 10, none⟩ = some (.int .i64 st) := by simp [World.cell?, BX.out]
  have cBX11 : v0.cell? ⟨gBX, 11, none⟩ = some (.int .i64 dl) := by simp [World.cell?, BX.out]
  have cBX12 : v0.cell? ⟨gBX, 12, none⟩ = some (.slice ad n c) := by simp [World.cell?, BX.out]
  have lBX : gBX < v0.heap.size := cell_lt cBX0
  go_wp2_with fail
  clear cBX0 cBX1 cBX2 cBX3 cBX4 cBX5 cBX6 cBX7 cBX8 cBX9 cBX10 cBX11 cBX12 lBX
  refine (Ktx.out _ (Ht.out.low Hm0.out) Hm0.out).mono ?_
  rintro e v1 ⟨rfl, hp⟩
  have Hm1 := Lib.hid (Hm0.out.trans hp (fun _ _ h => h))
  have hb := (hp.block _ (Array.getElem?_eq_some_iff.1 BX.out).1 id).trans BX.out
  clear BX
  have BX := Lib.hid hb
  clear hb
  have hb := (hp.block _ (Array.getElem?_eq_some_iff.1 BL.out).1 id).trans BL.out
  clear BL
  have BL := Lib.hid hb
  clear hb
  clear hp Hm0
  go_wp2_with fail
  refine (Kpt.out _ (Ht.out.low Hm1.out)).mono ?_
  rintro e v2 ⟨o6, c6, rfl, hin, hp⟩
  have Hm2 := Lib.hid (Hm1.out.trans hp (fun _ _ h => h))
  have hb := (hp.block _ (Array.getElem?_eq_some_iff.1 BX.out).1 id).trans BX.out
  clear BX
  have BX := Lib.hid hb
  clear hb
  have hb := (hp.block _ (Array.getElem?_eq_some_iff.1 BL.out).1 id).trans BL.out
  clear BL
  have BL := Lib.hid hb
  clear hb
  have Hin6 := Lib.hid hin
  clear hin
  clear hp Hm1
  have cBX0 : v2.cell? ⟨gBX, 0, none⟩ = some (.int .u8 r) := by simp [World.cell?, BX.out]
  have cBX1 : v2.cell? ⟨gBX, 1, none⟩ = some (.int .u32 a) := by simp [World.cell?, BX.out]
  have cBX2 : v2.cell? ⟨gBX, 2, none⟩ = some (.int .u16 p) := by simp [World.cell?, BX.out]
  have cBX3 : v2.cell? ⟨gBX, 3, none⟩ = some (.int .u32 b) := by simp [World.cell?, BX.out]
  have cBX4 : v2.cell? ⟨gBX, 4, none⟩ = some (.int .u16 q) := by simp [World.cell?, BX.out]
  have cBX5 : v2.cell? ⟨gBX, 5, none⟩ = some (.int .u8 r2) := by simp [World.cell?, BX.out]
  have cBX6 : v2.cell? ⟨gBX, 6, none⟩ = some (.int .u32 a2) := by simp [World.cell?, BX.out]
  have cBX7 : v2.cell? ⟨gBX, 7, none⟩ = some (.int .u16 p2) := by simp [World.cell?, BX.out]
  have cBX8 : v2.cell? ⟨gBX, 8, none⟩ = some (.int .u32 b2) := by simp [World.cell?, BX.out]
  have cBX9 : v2.cell? ⟨gBX, 9, none⟩ = some (.int .u16 q2) := by simp [World.cell?, BX.out]
  have cBX10 : v2.cell? ⟨gBX, 10, none⟩ = some (.int .i64 st) := by simp [World.cell?, BX.out]
  have cBX11 : v2.cell? ⟨gBX, 11, none⟩ = some (.int .i64 dl) := by simp [World.cell?, BX.out]
  have cBX12 : v2.cell? ⟨gBX, 12, none⟩ = some (.slice ad n c) := by simp [World.cell?, BX.out]
  have lBX : gBX < v2.heap.size := cell_lt cBX0
  go_wp2_with fail
  clear cBX0 cBX1 cBX2 cBX3 cBX4 cBX5 cBX6 cBX7 cBX8 cBX9 cBX10 cBX11 cBX12 lBX
  have hq : NoW v2 (v2.alloc (.cells #[.int .u8 r, .int .u32 a, .int .u16 p, .int .u32 b, .int .u16 q, .int .u8 r2, .int .u32 a2, .int .u16 p2, .int .u32 b2, .int .u16 q2, .int .i64 st, .int .i64 dl, .slice o6 n c6] 31)) := (Fp.refl _ _).alloc _
  have Hq0 := Lib.hid (Hm2.out.trans hq (fun _ _ h => h))
  have hb := (hq.block _ (Array.getElem?_eq_some_iff.1 BX.out).1 id).trans BX.out
  clear BX
  have BX := Lib.hid hb
  clear hb
  have hb := (hq.block _ (Array.getElem?_eq_some_iff.1 BL.out).1 id).trans BL.out
  clear BL
  have BL := Lib.hid hb
  clear hb
  have hb := Hin6.out.low hq
  clear Hin6
  have Hin6 := Lib.hid hb
  clear hb
  have hb : (v2.alloc (.cells #[.int .u8 r, .int .u32 a, .int .u16 p, .int .u32 b, .int .u16 q, .int .u8 r2, .int .u32 a2, .int .u16 p2, .int .u32 b2, .int .u16 q2, .int .i64 st, .int .i64 dl, .slice o6 n c6] 31)).heap[v2.heap.size]? = some (.cells #[.int .u8 r, .int .u32 a, .int .u16 p, .int .u32 b, .int .u16 q, .int .u8 r2, .int .u32 a2, .int .u16 p2, .int .u32 b2, .int .u16 q2, .int .i64 st, .int .i64 dl, .slice o6 n c6] 31) := by simpa using heap_alloc_new v2 (.cells #[.int .u8 r, .int .u32 a, .int .u16 p, .int .u32 b, .int .u16 q, .int .u8 r2, .int .u32 a2, .int .u16 p2, .int .u32 b2, .int .u16 q2, .int .i64 st, .int .i64 dl, .slice o6 n c6] 31)
  have B6 := Lib.hid hb
  clear hb hq Hm2
  generalize (v2.alloc (.cells #[.int .u8 r, .int .u32 a, .int .u16 p, .int .u32 b, .int .u16 q, .int .u8 r2, .int .u32 a2, .int .u16 p2, .int .u32 b2, .int .u16 q2, .int .i64 st, .int .i64 dl, .slice o6 n c6] 31)) = x0 at *
  generalize v2.heap.size = gB6 at *
  refine (Kck.out _ (Ht.out.low Hq0.out)).mono ?_
  rintro e v3 ⟨rfl, hp⟩
  have Hm3 := Lib.hid (Hq0.out.trans hp (fun _ _ h => h))
  have hb := (hp.block _ (Array.getElem?_eq_some_iff.1 BX.out).1 id).trans BX.out
  clear BX
  have BX := Lib.hid hb
  clear hb
  have hb := (hp.block _ (Array.getElem?_eq_some_iff.1 BL.out).1 id).trans BL.out
  clear BL
  have BL := Lib.hid hb
  clear hb
  have hb := (hp.block _ (Array.getElem?_eq_some_iff.1 B6.out).1 id).trans B6.out
  clear B6
  have B6 := Lib.hid hb
  clear hb
  have hb := Hin6.out.low hp
  clear Hin6
  have Hin6 := Lib.hid hb
  clear hb
  clear hp Hq0
  go_wp2_with fail
  refine (Kps.out _ (Ht.out.low Hm3.out)).mono ?_
  rintro e v4 ⟨o8, c8, rfl, hin, hp⟩
  have Hm4 := Lib.hid (Hm3.out.trans hp (fun _ _ h => h))
  have hb := (hp.block _ (Array.getElem?_eq_some_iff.1 BX.out).1 id).trans BX.out
  clear BX
  have BX := Lib.hid hb
  clear hb
  have hb := (hp.block _ (Array.getElem?_eq_some_iff.1 BL.out).1 id).trans BL.out
  clear BL
  have BL := Lib.hid hb
  clear hb
  have hb := (hp.block _ (Array.getElem?_eq_some_iff.1 B6.out).1 id).trans B6.out
  clear B6
  have B6 := Lib.hid hb
  clear hb
  have hb := Hin6.out.low hp
  clear Hin6
  have Hin6 := Lib.hid hb
  clear hb
  have Hin8 := Lib.hid hin
  clear hin
  clear hp Hm3
  have cBX0 : v4.cell? ⟨gBX, 0, none⟩ = some (.int .u8 r) := by simp [World.cell?, BX.out]
  have cBX1 : v4.cell? ⟨gBX, 1, none⟩ = some (.int .u32 a) := by simp [World.cell?, BX.out]
  have cBX2 : v4.cell? ⟨gBX, 2, none⟩ = some (.int .u16 p) := by simp [World.cell?, BX.out]
  have cBX3 : v4.cell? ⟨gBX, 3, none⟩ = some (.int .u32 b) := by simp [World.cell?, BX.out]
  have cBX4 : v4.cell? ⟨gBX, 4, none⟩ = some (.int .u16 q) := by simp [World.cell?, BX.out]
  have cBX5 : v4.cell? ⟨gBX, 5, none⟩ = some (.int .u8 r2) := by simp [World.cell?, BX.out]
  have cBX6 : v4.cell? ⟨gBX, 6, none⟩ = some (.int .u32 a2) := by simp [World.cell?, BX.out]
  have cBX7 : v4.cell? ⟨gBX, 7, none⟩ = some (.int .u16 p2) := by simp [World.cell?, BX.out]
  have cBX8 : v4.cell? ⟨gBX, 8, none⟩ = some (.int .u32 b2) := by simp [World.cell?, BX.out]
  have cBX9 : v4.cell? ⟨gBX, 9, none⟩ = some (.int .u16 q2) := by simp [World.cell?, BX.out]
  have cBX10 : v4.cell? ⟨gBX, 10, none⟩ = some (.int .i64 st) := by simp [World.cell?, BX.out]
  have cBX11 : v4.cell? ⟨gBX, 11, none⟩ = some (.int .i64 dl) := by simp [World.cell?, BX.out]
  have cBX12 : v4.cell? ⟨gBX, 12, none⟩ = some (.slice ad n c) := by simp [World.cell?, BX.out]
  have lBX : gBX < v4.heap.size := cell_lt cBX0
  have cB60 : v4.cell? ⟨gB6, 0, none⟩ = some (.int .u8 r) := by simp [World.cell?, B6.out]
  have cB61 : v4.cell? ⟨gB6, 1, none⟩ = some (.int .u32 a) := by simp [World.cell?, B6.out]
  have cB62 : v4.cell? ⟨gB6, 2, none⟩ = some (.int .u16 p) := by simp [World.cell?, B6.out]
  have cB63 : v4.cell? ⟨gB6, 3, none⟩ = some (.int .u32 b) := by simp [World.cell?, B6.out]
  have cB64 : v4.cell? ⟨gB6, 4, none⟩ = some (.int .u16 q) := by simp [World.cell?, B6.out]
  have cB65 : v4.cell? ⟨gB6, 5, none⟩ = some (.int .u8 r2) := by simp [World.cell?, B6.out]
  have cB66 : v4.cell? ⟨gB6, 6, none⟩ = some (.int .u32 a2) := by simp [World.cell?, B6.out]
  have cB67 : v4.cell? ⟨gB6, 7, none⟩ = some (.int .u16 p2) := by simp [World.cell?, B6.out]
  have cB68 : v4.cell? ⟨gB6, 8, none⟩ = some (.int .u32 b2) := by simp [World.cell?, B6.out]
  have cB69 : v4.cell? ⟨gB6, 9, none⟩ = some (.int .u16 q2) := by simp [World.cell?, B6.out]
  have cB610 : v4.cell? ⟨gB6, 10, none⟩ = some (.int .i64 st) := by simp [World.cell?, B6.out]
  have cB611 : v4.cell? ⟨gB6, 11, none⟩ = some (.int .i64 dl) := by simp [World.cell?, B6.out]
  have cB612 : v4.cell? ⟨gB6, 12, none⟩ = some (.slice o6 n c6) := by simp [World.cell?, B6.out]
  have lB6 : gB6 < v4.heap.size := cell_lt cB60
  go_wp2_with fail
  clear cBX0 cBX1 cBX2 cBX3 cBX4 cBX5 cBX6 cBX7 cBX8 cBX9 cBX10 cBX11 cBX12 lBX cB60 cB61 cB62 cB63 cB64 cB65 cB66 cB67 cB68 cB69 cB610 cB611 cB612 lB6
  have hq : NoW v4 (v4.alloc (.cells #[.int .u8 r5, .int .u32 a5, .int .u16 p5, .int .u32 b5, .int .u16 q5, .int .u8 r6, .int .u32 a6, .int .u16 p6, .int .u32 b6, .int .u16 q6, .int .i64 zst, .int .i64 zdl, .slice o8 zn c8] 31)) := (Fp.refl _ _).alloc _
  have Hq1 := Lib.hid (Hm4.out.trans hq (fun _ _ h => h))
  have hb := (hq.block _ (Array.getElem?_eq_some_iff.1 BX.out).1 id).trans BX.out
  clear BX
  have BX := Lib.hid hb
  clear hb
  have hb := (hq.block _ (Array.getElem?_eq_some_iff.1 BL.out).1 id).trans BL.out
  clear BL
  have BL := Lib.hid hb
  clear hb
  have hb := (hq.block _ (Array.getElem?_eq_some_iff.1 B6.out).1 id).trans B6.out
  clear B6
  have B6 := Lib.hid hb
  clear hb
  have hb := Hin6.out.low hq
  clear Hin6
  have Hin6 := Lib.hid hb
  clear hb
  have hb := Hin8.out.low hq
  clear Hin8
  have Hin8 := Lib.hid hb
  clear hb
  have hb : (v4.alloc (.cells #[.int .u8 r5, .int .u32 a5, .int .u16 p5, .int .u32 b5, .int .u16 q5, .int .u8 r6, .int .u32 a6, .int .u16 p6, .int .u32 b6, .int .u16 q6, .int .i64 zst, .int .i64 zdl, .slice o8 zn c8] 31)).heap[v4.heap.size]? = some (.cells #[.int .u8 r5, .int .u32 a5, .int .u16 p5, .int .u32 b5, .int .u16 q5, .int .u8 r6, .int .u32 a6, .int .u16 p6, .int .u32 b6, .int .u16 q6, .int .i64 zst, .int .i64 zdl, .slice o8 zn c8] 31) := by simpa using heap_alloc_new v4 (.cells #[.int .u8 r5, .int .u32 a5, .int .u16 p5, .int .u32 b5, .int .u16 q5, .int .u8 r6, .int .u32 a6, .int .u16 p6, .int .u32 b6, .int .u16 q6, .int .i64 zst, .int .i64 zdl, .slice o8 zn c8] 31)
  have B8 := Lib.hid hb
  clear hb hq Hm4
  generalize (v4.alloc (.cells #[.int .u8 r5, .int .u32 a5, .int .u16 p5, .int .u32 b5, .int .u16 q5, .int .u8 r6, .int .u32 a6, .int .u16 p6, .int .u32 b6, .int .u16 q6, .int .i64 zst, .int .i64 zdl, .slice o8 zn c8] 31)) = x1 at *
  generalize v4.heap.size = gB8 at *
  refine (Ksm.out _ o6 c6 Hq1.out Hin6.out).mono ?_
  rintro e v5 ⟨rfl, hp⟩
  have Hm5 := Lib.hid (Hq1.out.trans hp (fun _ _ h => h))
  have hb := (hp.block _ (Array.getElem?_eq_some_iff.1 BX.out).1 id).trans BX.out
  clear BX
  have BX := Lib.hid hb
  clear hb
  have hb := (hp.block _ (Array.getElem?_eq_some_iff.1 BL.out).1 id).trans BL.out
  clear BL
  have BL := Lib.hid hb
  clear hb
  have hb := (hp.block _ (Array.getElem?_eq_some_iff.1 B6.out).1 id).trans B6.out
  clear B6
  have B6 := Lib.hid hb
  clear hb
  have hb := (hp.block _ (Array.getElem?_eq_some_iff.1 B8.out).1 id).trans B8.out
  clear B8
  have B8 := Lib.hid hb
  clear hb
  have hb := Hin6.out.low hp
  clear Hin6
  have Hin6 := Lib.hid hb
  clear hb
  have hb := Hin8.out.low hp
  clear Hin8
  have Hin8 := Lib.hid hb
  clear hb
  clear hp Hq1
  have cB80 : v5.cell? ⟨gB8, 0, none⟩ = some (.int .u8 r5) := by simp [World.cell?, B8.out]
  have cB81 : v5.cell? ⟨gB8, 1, none⟩ = some (.int .u32 a5) := by simp [World.cell?, B8.out]
  have cB82 : v5.cell? ⟨gB8, 2, none⟩ = some (.int .u16 p5) := by simp [World.cell?, B8.out]
  have cB83 : v5.cell? ⟨gB8, 3, none⟩ = some (.int .u32 b5) := by simp [World.cell?, B8.out]
  have cB84 : v5.cell? ⟨gB8, 4, none⟩ = some (.int .u16 q5) := by simp [World.cell?, B8.out]
  have cB85 : v5.cell? ⟨gB8, 5, none⟩ = some (.int .u8 r6) := by simp [World.cell?, B8.out]
  have cB86 : v5.cell? ⟨gB8, 6, none⟩ = some (.int .u32 a6) := by simp [World.cell?, B8.out]
  have cB87 : v5.cell? ⟨gB8, 7, none⟩ = some (.int .u16 p6) := by simp [World.cell?, B8.out]
  have cB88 : v5.cell? ⟨gB8, 8, none⟩ = some (.int .u32 b6) := by simp [World.cell?, B8.out]
  have cB89 : v5.cell? ⟨gB8, 9, none⟩ = some (.int .u16 q6) := by simp [World.cell?, B8.out]
  have cB810 : v5.cell? ⟨gB8, 10, none⟩ = some (.int .i64 zst) := by simp [World.cell?, B8.out]
  have cB811 : v5.cell? ⟨gB8, 11, none⟩ = some (.int .i64 zdl) := by simp [World.cell?, B8.out]
  have cB812 : v5.cell? ⟨gB8, 12, none⟩ = some (.slice o8 zn c8) := by simp [World.cell?, B8.out]
  have lB8 : gB8 < v5.heap.size := cell_lt cB80
  go_wp2_with fail
  clear cB80 cB81 cB82 cB83 cB84 cB85 cB86 cB87 cB88 cB89 cB810 cB811 cB812 lB8
  refine (Ktz.out _ o8 c8 (Ht.out.low Hm5.out) Hin8.out).mono ?_
  rintro e v6 ⟨rfl, hp⟩
  have Hm6 := Lib.hid (Hm5.out.trans hp (fun _ _ h => h))
  have hb := (hp.block _ (Array.getElem?_eq_some_iff.1 BX.out).1 id).trans BX.out
  clear BX
  have BX := Lib.hid hb
  clear hb
  have hb := (hp.block _ (Array.getElem?_eq_some_iff.1 BL.out).1 id).trans BL.out
  clear BL
  have BL := Lib.hid hb
  clear hb
  have hb := (hp.block _ (Array.getElem?_eq_some_iff.1 B6.out).1 id).trans B6.out
  clear B6
  have B6 := Lib.hid hb
  clear hb
  have hb := (hp.block _ (Array.getElem?_eq_some_iff.1 B8.out).1 id).trans B8.out
  clear B8
  have B8 := Lib.hid hb
  clear hb
  have hb := Hin6.out.low hp
  clear Hin6
  have Hin6 := Lib.hid hb
  clear hb
  have hb := Hin8.out.low hp
  clear Hin8
  have Hin8 := Lib.hid hb
  clear hb
  clear hp Hm5
  have cB80 : v6.cell? ⟨gB8, 0, none⟩ = some (.int .u8 r5) := by simp [World.cell?, B8.out]
  have cB81 : v6.cell? ⟨gB8, 1, none⟩ = some (.int .u32 a5) := by simp [World.cell?, B8.out]
  have cB82 : v6.cell? ⟨gB8, 2, none⟩ = some (.int .u16 p5) := by simp [World.cell?, B8.out]
  have cB83 : v6.cell? ⟨gB8, 3, none⟩ = some (.int .u32 b5) := by simp [World.cell?, B8.out]
  have cB84 : v6.cell? ⟨gB8, 4, none⟩ = some (.int .u16 q5) := by simp [World.cell?, B8.out]
  have cB85 : v6.cell? ⟨gB8, 5, none⟩ = some (.int .u8 r6) := by simp [World.cell?, B8.out]
  have cB86 : v6.cell? ⟨gB8, 6, none⟩ = some (.int .u32 a6) := by simp [World.cell?, B8.out]
  have cB87 : v6.cell? ⟨gB8, 7, none⟩ = some (.int .u16 p6) := by simp [World.cell?, B8.out]
  have cB88 : v6.cell? ⟨gB8, 8, none⟩ = some (.int .u32 b6) := by simp [World.cell?, B8.out]
  have cB89 : v6.cell? ⟨gB8, 9, none⟩ = some (.int .u16 q6) := by simp [World.cell?, B8.out]
  have cB810 : v6.cell? ⟨gB8, 10, none⟩ = some (.int .i64 zst) := by simp [World.cell?, B8.out]
  have cB811 : v6.cell? ⟨gB8, 11, none⟩ = some (.int .i64 zdl) := by simp [World.cell?, B8.out]
  have cB812 : v6.cell? ⟨gB8, 12, none⟩ = some (.slice o8 zn c8) := by simp [World.cell?, B8.out]
  have lB8 : gB8 < v6.heap.size := cell_lt cB80
  go_wp2_with fail
  clear cB80 cB81 cB82 cB83 cB84 cB85 cB86 cB87 cB88 cB89 cB810 cB811 cB812 lB8
  refine (Kcz.out _ o8 c8 (Ht.out.low Hm6.out)).mono ?_
  rintro e v7 ⟨rfl, hp⟩
  have Hm7 := Lib.hid (Hm6.out.trans hp (fun _ _ h => h))
  have hb := (hp.block _ (Array.getElem?_eq_some_iff.1 BX.out).1 id).trans BX.out
  clear BX
  have BX := Lib.hid hb
  clear hb
  have hb := (hp.block _ (Array.getElem?_eq_some_iff.1 BL.out).1 id).trans BL.out
  clear BL
  have BL := Lib.hid hb
  clear hb
  have hb := (hp.block _ (Array.getElem?_eq_some_iff.1 B6.out).1 id).trans B6.out
  clear B6
  have B6 := Lib.hid hb
  clear hb
  have hb := (hp.block _ (Array.getElem?_eq_some_iff.1 B8.out).1 id).trans B8.out
  clear B8
  have B8 := Lib.hid hb
  clear hb
  have hb := Hin6.out.low hp
  clear Hin6
  have Hin6 := Lib.hid hb
  clear hb
  have hb := Hin8.out.low hp
  clear Hin8
  have Hin8 := Lib.hid hb
  clear hb
  clear hp Hm6
  go_wp2_with fail
  refine (Kp.out _ (Ht.out.low Hm7.out)).mono ?_
  rintro e v8 ⟨rfl, hp⟩
  have Hm8 := Lib.hid (Hm7.out.trans hp (fun _ _ h => h))
  have hb := (hp.block _ (Array.getElem?_eq_some_iff.1 BX.out).1 id).trans BX.out
  clear BX
  have BX := Lib.hid hb
  clear hb
  have hb := (hp.block _ (Array.getElem?_eq_some_iff.1 BL.out).1 id).trans BL.out
  clear BL
  have BL := Lib.hid hb
  clear hb
  have hb := (hp.block _ (Array.getElem?_eq_some_iff.1 B6.out).1 id).trans B6.out
  clear B6
  have B6 := Lib.hid hb
  clear hb
  have hb := (hp.block _ (Array.getElem?_eq_some_iff.1 B8.out).1 id).trans B8.out
  clear B8
  have B8 := Lib.hid hb
  clear hb
  have hb := Hin6.out.low hp
  clear Hin6
  have Hin6 := Lib.hid hb
  clear hb
  have hb := Hin8.out.low hp
  clear Hin8
  have Hin8 := Lib.hid hb
  clear hb
  clear hp Hm7
  go_wp2_with fail
  go_ret
  exact ⟨rfl, Hm8.out⟩
end Go.Proofs.YtdmbjndhdldggaaDoor
