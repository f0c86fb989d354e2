/- Chapter 18: EntriesAnswer's walk (written by genans.py). -/
import Derived.Test.YtdmbjndhdldggaaDoorEaM
import Derived.Test.YtdmbjndhdldggaaDoorEnM
import Derived.Test.YtdmbjndhdldggaaDoorEnP
import Derived.Test.YtdmbjndhdldggaaDoorSeeE
namespace Go.Proofs.YtdmbjndhdldggaaDoor
set_option linter.unusedVariables false
set_option linter.unusedSimpArgs false
open Go.RowKit Go.Lib Go.Sort

set_option maxHeartbeats 4000000 in
set_option maxRecDepth 100000 in
theorem ans_long (r a p b q r2 a2 p2 b2 q2 : Nat) (st dl : Int) (ad : Option Addr) (n c : Nat) (bk : Bool) (hcm : n ≤ maxLen) (hL : longB 1 (fun _ => n) 1 = true) (w : World) (ht : Tb w) : Calls Tryd.prog 3 #[.agg #[.int .u8 r, .int .u32 a, .int .u16 p, .int .u32 b, .int .u16 q, .int .u8 r2, .int .u32 a2, .int .u16 p2, .int .u32 b2, .int .u16 q2, .int .i64 st, .int .i64 dl, (.slice ad n c)], .bool bk] w (Ret1 (.bool true) w) := by
  have Ht := Lib.hid ht
  have Hcm := Lib.hid hcm
  have kp := fun W (hW : Tb W) => passes18 W hW
  have Kp := Lib.hid kp
  clear ht kp hcm
  go_enter Tryd.func3, Tryd.ntmps3
  go_wp2_with fail
  have hw0 : NoW w ((w.alloc (.cells #[.int .u8 r, .int .u32 a, .int .u16 p, .int .u32 b, .int .u16 q, .int .u8 r2, .int .u32 a2, .int .u16 p2, .int .u32 b2, .int .u16 q2, .int .i64 st, .int .i64 dl, (.slice ad n c)] 31)).alloc (.cells #[.int .u8 r, .int .u32 a, .int .u16 p, .int .u32 b, .int .u16 q, .int .u8 r2, .int .u32 a2, .int .u16 p2, .int .u32 b2, .int .u16 q2, .int .i64 st, .int .i64 dl, (.slice ad n c)] 31)) := ((Fp.refl _ _).alloc _).alloc _
  obtain ⟨hb0, hb1⟩ := box2 w (.cells #[.int .u8 r, .int .u32 a, .int .u16 p, .int .u32 b, .int .u16 q, .int .u8 r2, .int .u32 a2, .int .u16 p2, .int .u32 b2, .int .u16 q2, .int .i64 st, .int .i64 dl, (.slice ad n c)] 31) (.cells #[.int .u8 r, .int .u32 a, .int .u16 p, .int .u32 b, .int .u16 q, .int .u8 r2, .int .u32 a2, .int .u16 p2, .int .u32 b2, .int .u16 q2, .int .i64 st, .int .i64 dl, (.slice ad n c)] 31)
  generalize (w.alloc (.cells #[.int .u8 r, .int .u32 a, .int .u16 p, .int .u32 b, .int .u16 q, .int .u8 r2, .int .u32 a2, .int .u16 p2, .int .u32 b2, .int .u16 q2, .int .i64 st, .int .i64 dl, (.slice ad n c)] 31)).alloc (.cells #[.int .u8 r, .int .u32 a, .int .u16 p, .int .u32 b, .int .u16 q, .int .u8 r2, .int .u32 a2, .int .u16 p2, .int .u32 b2, .int .u16 q2, .int .i64 st, .int .i64 dl, (.slice ad n c)] 31) = w0 at *
  have BX := Lib.hid hb0
  have BL := Lib.hid hb1
  have Hn0 := Lib.hid hw0
  clear hb0 hb1 hw0
  generalize w.heap.size + 1 = gBL at *
  generalize w.heap.size = gBX at *
  have hlc : ∀ i, i < 1 → ∃ b o, (some ⟨gBL, 0, none⟩ : Option Addr) = some ⟨b, o, none⟩ ∧ w0.cell? ⟨b, o + i * 13 + 12, none⟩ = some (.slice ((fun _ => ad) i) ((fun _ => n) i) ((fun _ => c) i)) ∧ (fun _ => n) i ≤ maxLen := by
    intro i hi
    obtain rfl : i = 0 := by omega
    exact ⟨gBL, 0, rfl, by simp [World.cell?, BL.out], Hcm.out⟩
  have kl := long_ok (some ⟨gBL, 0, none⟩) 1 1 (fun _ => n) (fun _ => c) (fun _ => ad) 1 (by unfold maxLen; omega) (by omega) w0 hlc
  rw [hL] at kl
  clear hlc
  refine (kl).mono ?_
  rintro e v0 ⟨rfl, hp⟩
  have Hm0 := Lib.hid (Hn0.out.trans hp (fun _ _ h => h))
  have hb := (hp.block _ (Array.getElem?_eq_some_iff.1 BX.out).1 id).trans BX.out
  clear BX
  have BX := Lib.hid hb
  clear hb
  have hb := (hp.block _ (Array.getElem?_eq_some_iff.1 BL.out).1 id).trans BL.out
  clear BL
  have BL := Lib.hid hb
  clear hb
  clear hp Hn0
  go_wp2_with fail
  refine (Kp.out _ (Ht.out.low Hm0.out)).mono ?_
  rintro e v1 ⟨rfl, hp⟩
  have Hm1 := Lib.hid (Hm0.out.trans hp (fun _ _ h => h))
  have hb := (hp.block _ (Array.getElem?_eq_some_iff.1 BX.out).1 id).trans BX.out
  clear BX
  have BX := Lib.hid hb
  clear hb
  have hb := (hp.block _ (Array.getElem?_eq_some_iff.1 BL.out).1 id).trans BL.out
  clear BL
  have BL := Lib.hid hb
  clear hb
  clear hp Hm0
  go_wp2_with fail
  go_ret
  exact ⟨rfl, Hm1.out⟩

set_option maxHeartbeats 4000000 in
set_option maxRecDepth 100000 in
theorem ans_same (r a p b q r2 a2 p2 b2 q2 : Nat) (st dl : Int) (ad : Option Addr) (n c : Nat) (bk : Bool) (hcm : n ≤ maxLen) (hL : longB 1 (fun _ => n) 1 = false) (e1 : ∀ W, (binOp .eql 28 (.agg #[.int .u8 r, .int .u32 a, .int .u16 p, .int .u32 b, .int .u16 q]) (.agg #[.int .u8 r2, .int .u32 a2, .int .u16 p2, .int .u32 b2, .int .u16 q2])).run Tryd.prog W = .ok (.bool true) W) (w : World) (ht : Tb w) : Calls Tryd.prog 3 #[.agg #[.int .u8 r, .int .u32 a, .int .u16 p, .int .u32 b, .int .u16 q, .int .u8 r2, .int .u32 a2, .int .u16 p2, .int .u32 b2, .int .u16 q2, .int .i64 st, .int .i64 dl, (.slice ad n c)], .bool bk] w (Ret1 (.bool true) w) := by
  have Ht := Lib.hid ht
  have Hcm := Lib.hid hcm
  have kp := fun W (hW : Tb W) => passes18 W hW
  have Kp := Lib.hid kp
  clear ht kp hcm
  go_enter Tryd.func3, Tryd.ntmps3
  go_wp2_with fail
  have hw0 : NoW w ((w.alloc (.cells #[.int .u8 r, .int .u32 a, .int .u16 p, .int .u32 b, .int .u16 q, .int .u8 r2, .int .u32 a2, .int .u16 p2, .int .u32 b2, .int .u16 q2, .int .i64 st, .int .i64 dl, (.slice ad n c)] 31)).alloc (.cells #[.int .u8 r, .int .u32 a, .int .u16 p, .int .u32 b, .int .u16 q, .int .u8 r2, .int .u32 a2, .int .u16 p2, .int .u32 b2, .int .u16 q2, .int .i64 st, .int .i64 dl, (.slice ad n c)] 31)) := ((Fp.refl _ _).alloc _).alloc _
  obtain ⟨hb0, hb1⟩ := box2 w (.cells #[.int .u8 r, .int .u32 a, .int .u16 p, .int .u32 b, .int .u16 q, .int .u8 r2, .int .u32 a2, .int .u16 p2, .int .u32 b2, .int .u16 q2, .int .i64 st, .int .i64 dl, (.slice ad n c)] 31) (.cells #[.int .u8 r, .int .u32 a, .int .u16 p, .int .u32 b, .int .u16 q, .int .u8 r2, .int .u32 a2, .int .u16 p2, .int .u32 b2, .int .u16 q2, .int .i64 st, .int .i64 dl, (.slice ad n c)] 31)
  generalize (w.alloc (.cells #[.int .u8 r, .int .u32 a, .int .u16 p, .int .u32 b, .int .u16 q, .int .u8 r2, .int .u32 a2, .int .u16 p2, .int .u32 b2, .int .u16 q2, .int .i64 st, .int .i64 dl, (.slice ad n c)] 31)).alloc (.cells #[.int .u8 r, .int .u32 a, .int .u16 p, .int .u32 b, .int .u16 q, .int .u8 r2, .int .u32 a2, .int .u16 p2, .int .u32 b2, .int .u16 q2, .int .i64 st, .int .i64 dl, (.slice ad n c)] 31) = w0 at *
  have BX := Lib.hid hb0
  have BL := Lib.hid hb1
  have Hn0 := Lib.hid hw0
  clear hb0 hb1 hw0
  generalize w.heap.size + 1 = gBL at *
  generalize w.heap.size = gBX at *
  have hlc : ∀ i, i < 1 → ∃ b o, (some ⟨gBL, 0, none⟩ : Option Addr) = some ⟨b, o, none⟩ ∧ w0.cell? ⟨b, o + i * 13 + 12, none⟩ = some (.slice ((fun _ => ad) i) ((fun _ => n) i) ((fun _ => c) i)) ∧ (fun _ => n) i ≤ maxLen := by
    intro i hi
    obtain rfl : i = 0 := by omega
    exact ⟨gBL, 0, rfl, by simp [World.cell?, BL.out], Hcm.out⟩
  have kl := long_ok (some ⟨gBL, 0, none⟩) 1 1 (fun _ => n) (fun _ => c) (fun _ => ad) 1 (by unfold maxLen; omega) (by omega) w0 hlc
  rw [hL] at kl
  clear hlc
  refine (kl).mono ?_
  rintro e v0 ⟨rfl, hp⟩
  have Hm0 := Lib.hid (Hn0.out.trans hp (fun _ _ h => h))
  have hb := (hp.block _ (Array.getElem?_eq_some_iff.1 BX.out).1 id).trans BX.out
  clear BX
  have BX := Lib.hid hb
  clear hb
  have hb := (hp.block _ (Array.getElem?_eq_some_iff.1 BL.out).1 id).trans BL.out
  clear BL
  have BL := Lib.hid hb
  clear hb
  clear hp Hn0
  have cBX0 : v0.cell? ⟨gBX, 0, none⟩ = some (.int .u8 r) := by simp [World.cell?, BX.out]
  have cBX1 : v0.cell? ⟨gBX, 1, none⟩ = some (.int .u32 a) := by simp [World.cell?, BX.out]
  have cBX2 : v0.cell? ⟨gBX, 2, none⟩ = some (.int .u16 p) := by simp [World.cell?, BX.out]
  have cBX3 : v0.cell? ⟨gBX, 3, none⟩ = some (.int .u32 b) := by simp [World.cell?, BX.out]
  have cBX4 : v0.cell? ⟨gBX, 4, none⟩ = some (.int .u16 q) := by simp [World.cell?, BX.out]
  have cBX5 : v0.cell? ⟨gBX, 5, none⟩ = some (.int .u8 r2) := by simp [World.cell?, BX.out]
  have cBX6 : v0.cell? ⟨gBX, 6, none⟩ = some (.int .u32 a2) := by simp [World.cell?, BX.out]
  have cBX7 : v0.cell? ⟨gBX, 7, none⟩ = some (.int .u16 p2) := by simp [World.cell?, BX.out]
  have cBX8 : v0.cell? ⟨gBX, 8, none⟩ = some (.int .u32 b2) := by simp [World.cell?, BX.out]
  have cBX9 : v0.cell? ⟨gBX, 9, none⟩ = some (.int .u16 q2) := by simp [World.cell?, BX.out]
  have cBX10 : v0.cell? ⟨gBX, 10, none⟩ = some (.int .i64 st) := by simp [World.cell?, BX.out]
  have cBX11 : v0.cell? ⟨gBX, 11, none⟩ = some (.int .i64 dl) := by simp [World.cell?, BX.out]
  have cBX12 : v0.cell? ⟨gBX, 12, none⟩ = some ((.slice ad n c)) := by simp [World.cell?, BX.out]
  have lBX : gBX < v0.heap.size := cell_lt cBX0
  go_wp2_with fail
  clear cBX0 cBX1 cBX2 cBX3 cBX4 cBX5 cBX6 cBX7 cBX8 cBX9 cBX10 cBX11 cBX12 lBX
  refine (Kp.out _ (Ht.out.low Hm0.out)).mono ?_
  rintro e v1 ⟨rfl, hp⟩
  have Hm1 := Lib.hid (Hm0.out.trans hp (fun _ _ h => h))
  have hb := (hp.block _ (Array.getElem?_eq_some_iff.1 BX.out).1 id).trans BX.out
  clear BX
  have BX := Lib.hid hb
  clear hb
  have hb := (hp.block _ (Array.getElem?_eq_some_iff.1 BL.out).1 id).trans BL.out
  clear BL
  have BL := Lib.hid hb
  clear hb
  clear hp Hm0
  go_wp2_with fail
  go_ret
  exact ⟨rfl, Hm1.out⟩

set_option maxHeartbeats 4000000 in
set_option maxRecDepth 100000 in
theorem ans_proto (r a p b q r2 a2 p2 b2 q2 : Nat) (st dl : Int) (ad : Option Addr) (n c : Nat) (bk : Bool) (hcm : n ≤ maxLen) (hL : longB 1 (fun _ => n) 1 = false) (e1 : ∀ W, (binOp .eql 28 (.agg #[.int .u8 r, .int .u32 a, .int .u16 p, .int .u32 b, .int .u16 q]) (.agg #[.int .u8 r2, .int .u32 a2, .int .u16 p2, .int .u32 b2, .int .u16 q2])).run Tryd.prog W = .ok (.bool false) W) (hr : ((r : Int) != (r2 : Int)) = true) (w : World) (ht : Tb w) : Calls Tryd.prog 3 #[.agg #[.int .u8 r, .int .u32 a, .int .u16 p, .int .u32 b, .int .u16 q, .int .u8 r2, .int .u32 a2, .int .u16 p2, .int .u32 b2, .int .u16 q2, .int .i64 st, .int .i64 dl, (.slice ad n c)], .bool bk] w (Ret1 (.bool true) w) := by
  have Ht := Lib.hid ht
  have Hcm := Lib.hid hcm
  have kp := fun W (hW : Tb W) => passes18 W hW
  have Kp := Lib.hid kp
  clear ht kp hcm
  go_enter Tryd.func3, Tryd.ntmps3
  go_wp2_with fail
  have hw0 : NoW w ((w.alloc (.cells #[.int .u8 r, .int .u32 a, .int .u16 p, .int .u32 b, .int .u16 q, .int .u8 r2, .int .u32 a2, .int .u16 p2, .int .u32 b2, .int .u16 q2, .int .i64 st, .int .i64 dl, (.slice ad n c)] 31)).alloc (.cells #[.int .u8 r, .int .u32 a, .int .u16 p, .int .u32 b, .int .u16 q, .int .u8 r2, .int .u32 a2, .int .u16 p2, .int .u32 b2, .int .u16 q2, .int .i64 st, .int .i64 dl, (.slice ad n c)] 31)) := ((Fp.refl _ _).alloc _).alloc _
  obtain ⟨hb0, hb1⟩ := box2 w (.cells #[.int .u8 r, .int .u32 a, .int .u16 p, .int .u32 b, .int .u16 q, .int .u8 r2, .int .u32 a2, .int .u16 p2, .int .u32 b2, .int .u16 q2, .int .i64 st, .int .i64 dl, (.slice ad n c)] 31) (.cells #[.int .u8 r, .int .u32 a, .int .u16 p, .int .u32 b, .int .u16 q, .int .u8 r2, .int .u32 a2, .int .u16 p2, .int .u32 b2, .int .u16 q2, .int .i64 st, .int .i64 dl, (.slice ad n c)] 31)
  generalize (w.alloc (.cells #[.int .u8 r, .int .u32 a, .int .u16 p, .int .u32 b, .int .u16 q, .int .u8 r2, .int .u32 a2, .int .u16 p2, .int .u32 b2, .int .u16 q2, .int .i64 st, .int .i64 dl, (.slice ad n c)] 31)).alloc (.cells #[.int .u8 r, .int .u32 a, .int .u16 p, .int .u32 b, .int .u16 q, .int .u8 r2, .int .u32 a2, .int .u16 p2, .int .u32 b2, .int .u16 q2, .int .i64 st, .int .i64 dl, (.slice ad n c)] 31) = w0 at *
  have BX := Lib.hid hb0
  have BL := Lib.hid hb1
  have Hn0 := Lib.hid hw0
  clear hb0 hb1 hw0
  generalize w.heap.size + 1 = gBL at *
  generalize w.heap.size = gBX at *
  have hlc : ∀ i, i < 1 → ∃ b o, (some ⟨gBL, 0, none⟩ : Option Addr) = some ⟨b, o, none⟩ ∧ w0.cell? ⟨b, o + i * 13 + 12, none⟩ = some (.slice ((fun _ => ad) i) ((fun _ => n) i) ((fun _ => c) i)) ∧ (fun _ => n) i ≤ maxLen := by
    intro i hi
    obtain rfl : i = 0 := by omega
    exact ⟨gBL, 0, rfl, by simp [World.cell?, BL.out], Hcm.out⟩
  have kl := long_ok (some ⟨gBL, 0, none⟩) 1 1 (fun _ => n) (fun _ => c) (fun _ => ad) 1 (by unfold maxLen; omega) (by omega) w0 hlc
  rw [hL] at kl
  clear hlc
  refine (kl).mono ?_
  rintro e v0 ⟨rfl, hp⟩
  have Hm0 := Lib.hid (Hn0.out.trans hp (fun _ _ h => h))
  have hb := (hp.block _ (Array.getElem?_eq_some_iff.1 BX.out).1 id).trans BX.out
  clear BX
  have BX := Lib.hid hb
  clear hb
  have hb := (hp.block _ (Array.getElem?_eq_some_iff.1 BL.out).1 id).trans BL.out
  clear BL
  have BL := Lib.hid hb
  clear hb
  clear hp Hn0
  have cBX0 : v0.cell? ⟨gBX, 0, none⟩ = some (.int .u8 r) := by simp [World.cell?, BX.out]
  have cBX1 : v0.cell? ⟨gBX, 1, none⟩ = some (.int .u32 a) := by simp [World.cell?, BX.out]
  have cBX2 : v0.cell? ⟨gBX, 2, none⟩ = some (.int .u16 p) := by simp [World.cell?, BX.out]
  have cBX3 : v0.cell? ⟨gBX, 3, none⟩ = some (.int .u32 b) := by simp [World.cell?, BX.out]
  have cBX4 : v0.cell? ⟨gBX, 4, none⟩ = some (.int .u16 q) := by simp [World.cell?, BX.out]
  have cBX5 : v0.cell? ⟨gBX, 5, none⟩ = some (.int .u8 r2) := by simp [World.cell?, BX.out]
  have cBX6 : v0.cell? ⟨gBX, 6, none⟩ = some (.int .u32 a2) := by simp [World.cell?, BX.out]
  have cBX7 : v0.cell? ⟨gBX, 7, none⟩ = some (.int .u16 p2) := by simp [World.cell?, BX.out]
  have cBX8 : v0.cell? ⟨gBX, 8, none⟩ = some (.int .u32 b2) := by simp [World.cell?, BX.out]
  have cBX9 : v0.cell? ⟨gBX, 9, none⟩ = some (.int .u16 q2) := by simp [World.cell?, BX.out]
  have cBX10 : v0.cell? ⟨gBX, 10, none⟩ = some (.int .i64 st) := by simp [World.cell?, BX.out]
  have cBX11 : v0.cell? ⟨gBX, 11, none⟩ = some (.int .i64 dl) := by simp [World.cell?, BX.out]
  have cBX12 : v0.cell? ⟨gBX, 12, none⟩ = some ((.slice ad n c)) := by simp [World.cell?, BX.out]
  have lBX : gBX < v0.heap.size := cell_lt cBX0
  go_wp2_with fail
  clear cBX0 cBX1 cBX2 cBX3 cBX4 cBX5 cBX6 cBX7 cBX8 cBX9 cBX10 cBX11 cBX12 lBX
  refine (Kp.out _ (Ht.out.low Hm0.out)).mono ?_
  rintro e v1 ⟨rfl, hp⟩
  have Hm1 := Lib.hid (Hm0.out.trans hp (fun _ _ h => h))
  have hb := (hp.block _ (Array.getElem?_eq_some_iff.1 BX.out).1 id).trans BX.out
  clear BX
  have BX := Lib.hid hb
  clear hb
  have hb := (hp.block _ (Array.getElem?_eq_some_iff.1 BL.out).1 id).trans BL.out
  clear BL
  have BL := Lib.hid hb
  clear hb
  clear hp Hm0
  go_wp2_with fail
  go_ret
  exact ⟨rfl, Hm1.out⟩

set_option maxHeartbeats 4000000 in
set_option maxRecDepth 100000 in
theorem ans_false (r a p b q a2 p2 b2 q2 : Nat) (st dl : Int) (ad : Option Addr) (n c : Nat) (hcm : n ≤ maxLen) (hL : longB 1 (fun _ => n) 1 = false) (e1 : ∀ W, (binOp .eql 28 (.agg #[.int .u8 r, .int .u32 a, .int .u16 p, .int .u32 b, .int .u16 q]) (.agg #[.int .u8 r, .int .u32 a2, .int .u16 p2, .int .u32 b2, .int .u16 q2])).run Tryd.prog W = .ok (.bool false) W)
    (mr : ∀ W, Calls Tryd.prog 11 #[.agg #[.int .u8 r, .int .u32 a, .int .u16 p, .int .u32 b, .int .u16 q, .int .u8 r, .int .u32 a2, .int .u16 p2, .int .u32 b2, .int .u16 q2, .int .i64 st, .int .i64 dl, (.slice ad n c)], .agg #[.int .u8 r, .int .u32 a2, .int .u16 p2, .int .u32 b2, .int .u16 q2]] W (Ret1 (.tuple #[.bool true, .bool true]) W)) (w : World) (ht : Tb w) : Calls Tryd.prog 3 #[.agg #[.int .u8 r, .int .u32 a, .int .u16 p, .int .u32 b, .int .u16 q, .int .u8 r, .int .u32 a2, .int .u16 p2, .int .u32 b2, .int .u16 q2, .int .i64 st, .int .i64 dl, (.slice ad n c)], .bool false] w (Ret1 (.bool true) w) := by
  have Mr := Lib.hid mr
  clear mr
  have Ht := Lib.hid ht
  have Hcm := Lib.hid hcm
  have kp := fun W (hW : Tb W) => passes18 W hW
  have Kp := Lib.hid kp
  clear ht kp hcm
  go_enter Tryd.func3, Tryd.ntmps3
  go_wp2_with fail
  have hw0 : NoW w ((w.alloc (.cells #[.int .u8 r, .int .u32 a, .int .u16 p, .int .u32 b, .int .u16 q, .int .u8 r, .int .u32 a2, .int .u16 p2, .int .u32 b2, .int .u16 q2, .int .i64 st, .int .i64 dl, (.slice ad n c)] 31)).alloc (.cells #[.int .u8 r, .int .u32 a, .int .u16 p, .int .u32 b, .int .u16 q, .int .u8 r, .int .u32 a2, .int .u16 p2, .int .u32 b2, .int .u16 q2, .int .i64 st, .int .i64 dl, (.slice ad n c)] 31)) := ((Fp.refl _ _).alloc _).alloc _
  obtain ⟨hb0, hb1⟩ := box2 w (.cells #[.int .u8 r, .int .u32 a, .int .u16 p, .int .u32 b, .int .u16 q, .int .u8 r, .int .u32 a2, .int .u16 p2, .int .u32 b2, .int .u16 q2, .int .i64 st, .int .i64 dl, (.slice ad n c)] 31) (.cells #[.int .u8 r, .int .u32 a, .int .u16 p, .int .u32 b, .int .u16 q, .int .u8 r, .int .u32 a2, .int .u16 p2, .int .u32 b2, .int .u16 q2, .int .i64 st, .int .i64 dl, (.slice ad n c)] 31)
  generalize (w.alloc (.cells #[.int .u8 r, .int .u32 a, .int .u16 p, .int .u32 b, .int .u16 q, .int .u8 r, .int .u32 a2, .int .u16 p2, .int .u32 b2, .int .u16 q2, .int .i64 st, .int .i64 dl, (.slice ad n c)] 31)).alloc (.cells #[.int .u8 r, .int .u32 a, .int .u16 p, .int .u32 b, .int .u16 q, .int .u8 r, .int .u32 a2, .int .u16 p2, .int .u32 b2, .int .u16 q2, .int .i64 st, .int .i64 dl, (.slice ad n c)] 31) = w0 at *
  have BX := Lib.hid hb0
  have BL := Lib.hid hb1
  have Hn0 := Lib.hid hw0
  clear hb0 hb1 hw0
  generalize w.heap.size + 1 = gBL at *
  generalize w.heap.size = gBX at *
  have hlc : ∀ i, i < 1 → ∃ b o, (some ⟨gBL, 0, none⟩ : Option Addr) = some ⟨b, o, none⟩ ∧ w0.cell? ⟨b, o + i * 13 + 12, none⟩ = some (.slice ((fun _ => ad) i) ((fun _ => n) i) ((fun _ => c) i)) ∧ (fun _ => n) i ≤ maxLen := by
    intro i hi
    obtain rfl : i = 0 := by omega
    exact ⟨gBL, 0, rfl, by simp [World.cell?, BL.out], Hcm.out⟩
  have kl := long_ok (some ⟨gBL, 0, none⟩) 1 1 (fun _ => n) (fun _ => c) (fun _ => ad) 1 (by unfold maxLen; omega) (by omega) w0 hlc
  rw [hL] at kl
  clear hlc
  refine (kl).mono ?_
  rintro e v0 ⟨rfl, hp⟩
  have Hm0 := Lib.hid (Hn0.out.trans hp (fun _ _ h => h))
  have hb := (hp.block _ (Array.getElem?_eq_some_iff.1 BX.out).1 id).trans BX.out
  clear BX
  have BX := Lib.hid hb
  clear hb
  have hb := (hp.block _ (Array.getElem?_eq_some_iff.1 BL.out).1 id).trans BL.out
  clear BL
  have BL := Lib.hid hb
  clear hb
  clear hp Hn0
  have cBX0 : v0.cell? ⟨gBX, 0, none⟩ = some (.int .u8 r) := by simp [World.cell?, BX.out]
  have cBX1 : v0.cell? ⟨gBX, 1, none⟩ = some (.int .u32 a) := by simp [World.cell?, BX.out]
  have cBX2 : v0.cell? ⟨gBX, 2, none⟩ = some (.int .u16 p) := by simp [World.cell?, BX.out]
  have cBX3 : v0.cell? ⟨gBX, 3, none⟩ = some (.int .u32 b) := by simp [World.cell?, BX.out]
  have cBX4 : v0.cell? ⟨gBX, 4, none⟩ = some (.int .u16 q) := by simp [World.cell?, BX.out]
  have cBX5 : v0.cell? ⟨gBX, 5, none⟩ = some (.int .u8 r) := by simp [World.cell?, BX.out]
  have cBX6 : v0.cell? ⟨gBX, 6, none⟩ = some (.int .u32 a2) := by simp [World.cell?, BX.out]
  have cBX7 : v0.cell? ⟨gBX, 7, none⟩ = some (.int .u16 p2) := by simp [World.cell?, BX.out]
  have cBX8 : v0.cell? ⟨gBX, 8, none⟩ = some (.int .u32 b2) := by simp [World.cell?, BX.out]
  have cBX9 : v0.cell? ⟨gBX, 9, none⟩ = some (.int .u16 q2) := by simp [World.cell?, BX.out]
  have cBX10 : v0.cell? ⟨gBX, 10, none⟩ = some (.int .i64 st) := by simp [World.cell?, BX.out]
  have cBX11 : v0.cell? ⟨gBX, 11, none⟩ = some (.int .i64 dl) := by simp [World.cell?, BX.out]
  have cBX12 : v0.cell? ⟨gBX, 12, none⟩ = some ((.slice ad n c)) := by simp [World.cell?, BX.out]
  have lBX : gBX < v0.heap.size := cell_lt cBX0
  go_wp2_with fail
  clear cBX0 cBX1 cBX2 cBX3 cBX4 cBX5 cBX6 cBX7 cBX8 cBX9 cBX10 cBX11 cBX12 lBX
  have hq : NoW v0 (v0.alloc (.cells #[.int .u8 r, .int .u32 a, .int .u16 p, .int .u32 b, .int .u16 q] 28)) := (Fp.refl _ _).alloc _
  have Hq0 := Lib.hid (Hm0.out.trans hq (fun _ _ h => h))
  have hb := (hq.block _ (Array.getElem?_eq_some_iff.1 BX.out).1 id).trans BX.out
  clear BX
  have BX := Lib.hid hb
  clear hb
  have hb := (hq.block _ (Array.getElem?_eq_some_iff.1 BL.out).1 id).trans BL.out
  clear BL
  have BL := Lib.hid hb
  clear hb
  have hb : (v0.alloc (.cells #[.int .u8 r, .int .u32 a, .int .u16 p, .int .u32 b, .int .u16 q] 28)).heap[v0.heap.size]? = some (.cells #[.int .u8 r, .int .u32 a, .int .u16 p, .int .u32 b, .int .u16 q] 28) := by simpa using heap_alloc_new v0 (.cells #[.int .u8 r, .int .u32 a, .int .u16 p, .int .u32 b, .int .u16 q] 28)
  have B5 := Lib.hid hb
  clear hb hq Hm0
  generalize (v0.alloc (.cells #[.int .u8 r, .int .u32 a, .int .u16 p, .int .u32 b, .int .u16 q] 28)) = x0 at *
  generalize v0.heap.size = gB5 at *
  refine (turn_f r a p b q r a2 p2 b2 q2 st dl _ _).mono ?_
  rintro e v1 ⟨rfl, hp⟩
  have Hm1 := Lib.hid (Hq0.out.trans hp (fun _ _ h => h))
  have hb := (hp.block _ (Array.getElem?_eq_some_iff.1 BX.out).1 id).trans BX.out
  clear BX
  have BX := Lib.hid hb
  clear hb
  have hb := (hp.block _ (Array.getElem?_eq_some_iff.1 BL.out).1 id).trans BL.out
  clear BL
  have BL := Lib.hid hb
  clear hb
  have hb := (hp.block _ (Array.getElem?_eq_some_iff.1 B5.out).1 id).trans B5.out
  clear B5
  have B5 := Lib.hid hb
  clear hb
  clear hp Hq0
  have cBX0 : v1.cell? ⟨gBX, 0, none⟩ = some (.int .u8 r) := by simp [World.cell?, BX.out]
  have cBX1 : v1.cell? ⟨gBX, 1, none⟩ = some (.int .u32 a) := by simp [World.cell?, BX.out]
  have cBX2 : v1.cell? ⟨gBX, 2, none⟩ = some (.int .u16 p) := by simp [World.cell?, BX.out]
  have cBX3 : v1.cell? ⟨gBX, 3, none⟩ = some (.int .u32 b) := by simp [World.cell?, BX.out]
  have cBX4 : v1.cell? ⟨gBX, 4, none⟩ = some (.int .u16 q) := by simp [World.cell?, BX.out]
  have cBX5 : v1.cell? ⟨gBX, 5, none⟩ = some (.int .u8 r) := by simp [World.cell?, BX.out]
  have cBX6 : v1.cell? ⟨gBX, 6, none⟩ = some (.int .u32 a2) := by simp [World.cell?, BX.out]
  have cBX7 : v1.cell? ⟨gBX, 7, none⟩ = some (.int .u16 p2) := by simp [World.cell?, BX.out]
  have cBX8 : v1.cell? ⟨gBX, 8, none⟩ = some (.int .u32 b2) := by simp [World.cell?, BX.out]
  have cBX9 : v1.cell? ⟨gBX, 9, none⟩ = some (.int .u16 q2) := by simp [World.cell?, BX.out]
  have cBX10 : v1.cell? ⟨gBX, 10, none⟩ = some (.int .i64 st) := by simp [World.cell?, BX.out]
  have cBX11 : v1.cell? ⟨gBX, 11, none⟩ = some (.int .i64 dl) := by simp [World.cell?, BX.out]
  have cBX12 : v1.cell? ⟨gBX, 12, none⟩ = some ((.slice ad n c)) := by simp [World.cell?, BX.out]
  have lBX : gBX < v1.heap.size := cell_lt cBX0
  have cB50 : v1.cell? ⟨gB5, 0, none⟩ = some (.int .u8 r) := by simp [World.cell?, B5.out]
  have cB51 : v1.cell? ⟨gB5, 1, none⟩ = some (.int .u32 a) := by simp [World.cell?, B5.out]
  have cB52 : v1.cell? ⟨gB5, 2, none⟩ = some (.int .u16 p) := by simp [World.cell?, B5.out]
  have cB53 : v1.cell? ⟨gB5, 3, none⟩ = some (.int .u32 b) := by simp [World.cell?, B5.out]
  have cB54 : v1.cell? ⟨gB5, 4, none⟩ = some (.int .u16 q) := by simp [World.cell?, B5.out]
  have lB5 : gB5 < v1.heap.size := cell_lt cB50
  go_wp2_with fail
  clear cBX0 cBX1 cBX2 cBX3 cBX4 cBX5 cBX6 cBX7 cBX8 cBX9 cBX10 cBX11 cBX12 lBX cB50 cB51 cB52 cB53 cB54 lB5
  have hq : NoW v1 (v1.alloc (.cells #[.int .u32 b2, .int .u16 q2, .int .u32 a2, .int .u16 p2] 36)) := (Fp.refl _ _).alloc _
  have Hq1 := Lib.hid (Hm1.out.trans hq (fun _ _ h => h))
  have hb := (hq.block _ (Array.getElem?_eq_some_iff.1 BX.out).1 id).trans BX.out
  clear BX
  have BX := Lib.hid hb
  clear hb
  have hb := (hq.block _ (Array.getElem?_eq_some_iff.1 BL.out).1 id).trans BL.out
  clear BL
  have BL := Lib.hid hb
  clear hb
  have hb := (hq.block _ (Array.getElem?_eq_some_iff.1 B5.out).1 id).trans B5.out
  clear B5
  have B5 := Lib.hid hb
  clear hb
  have hb : (v1.alloc (.cells #[.int .u32 b2, .int .u16 q2, .int .u32 a2, .int .u16 p2] 36)).heap[v1.heap.size]? = some (.cells #[.int .u32 b2, .int .u16 q2, .int .u32 a2, .int .u16 p2] 36) := by simpa using heap_alloc_new v1 (.cells #[.int .u32 b2, .int .u16 q2, .int .u32 a2, .int .u16 p2] 36)
  have B6 := Lib.hid hb
  clear hb hq Hm1
  have hq : NoW (v1.alloc (.cells #[.int .u32 b2, .int .u16 q2, .int .u32 a2, .int .u16 p2] 36)) ((v1.alloc (.cells #[.int .u32 b2, .int .u16 q2, .int .u32 a2, .int .u16 p2] 36)).alloc (.cells #[.int .u8 r, .int .u32 a2, .int .u16 p2, .int .u32 b2, .int .u16 q2] 28)) := (Fp.refl _ _).alloc _
  have Hq2 := Lib.hid (Hq1.out.trans hq (fun _ _ h => h))
  have hb := (hq.block _ (Array.getElem?_eq_some_iff.1 BX.out).1 id).trans BX.out
  clear BX
  have BX := Lib.hid hb
  clear hb
  have hb := (hq.block _ (Array.getElem?_eq_some_iff.1 BL.out).1 id).trans BL.out
  clear BL
  have BL := Lib.hid hb
  clear hb
  have hb := (hq.block _ (Array.getElem?_eq_some_iff.1 B5.out).1 id).trans B5.out
  clear B5
  have B5 := Lib.hid hb
  clear hb
  have hb := (hq.block _ (Array.getElem?_eq_some_iff.1 B6.out).1 id).trans B6.out
  clear B6
  have B6 := Lib.hid hb
  clear hb
  have hb : ((v1.alloc (.cells #[.int .u32 b2, .int .u16 q2, .int .u32 a2, .int .u16 p2] 36)).alloc (.cells #[.int .u8 r, .int .u32 a2, .int .u16 p2, .int .u32 b2, .int .u16 q2] 28)).heap[v1.heap.size + 1]? = some (.cells #[.int .u8 r, .int .u32 a2, .int .u16 p2, .int .u32 b2, .int .u16 q2] 28) := by simpa using heap_alloc_new (v1.alloc (.cells #[.int .u32 b2, .int .u16 q2, .int .u32 a2, .int .u16 p2] 36)) (.cells #[.int .u8 r, .int .u32 a2, .int .u16 p2, .int .u32 b2, .int .u16 q2] 28)
  have B7 := Lib.hid hb
  clear hb hq Hq1
  generalize ((v1.alloc (.cells #[.int .u32 b2, .int .u16 q2, .int .u32 a2, .int .u16 p2] 36)).alloc (.cells #[.int .u8 r, .int .u32 a2, .int .u16 p2, .int .u32 b2, .int .u16 q2] 28)) = x1 at *
  generalize v1.heap.size + 1 = gB7 at *
  generalize v1.heap.size = gB6 at *
  refine (match_orig r a p b q r a2 p2 b2 q2 st dl _ _).mono ?_
  rintro e v2 ⟨rfl, hp⟩
  have Hm2 := Lib.hid (Hq2.out.trans hp (fun _ _ h => h))
  have hb := (hp.block _ (Array.getElem?_eq_some_iff.1 BX.out).1 id).trans BX.out
  clear BX
  have BX := Lib.hid hb
  clear hb
  have hb := (hp.block _ (Array.getElem?_eq_some_iff.1 BL.out).1 id).trans BL.out
  clear BL
  have BL := Lib.hid hb
  clear hb
  have hb := (hp.block _ (Array.getElem?_eq_some_iff.1 B5.out).1 id).trans B5.out
  clear B5
  have B5 := Lib.hid hb
  clear hb
  have hb := (hp.block _ (Array.getElem?_eq_some_iff.1 B6.out).1 id).trans B6.out
  clear B6
  have B6 := Lib.hid hb
  clear hb
  have hb := (hp.block _ (Array.getElem?_eq_some_iff.1 B7.out).1 id).trans B7.out
  clear B7
  have B7 := Lib.hid hb
  clear hb
  clear hp Hq2
  have cBX0 : v2.cell? ⟨gBX, 0, none⟩ = some (.int .u8 r) := by simp [World.cell?, BX.out]
  have cBX1 : v2.cell? ⟨gBX, 1, none⟩ = some (.int .u32 a) := by simp [World.cell?, BX.out]
  have cBX2 : v2.cell? ⟨gBX, 2, none⟩ = some (.int .u16 p) := by simp [World.cell?, BX.out]
  have cBX3 : v2.cell? ⟨gBX, 3, none⟩ = some (.int .u32 b) := by simp [World.cell?, BX.out]
  have cBX4 : v2.cell? ⟨gBX, 4, none⟩ = some (.int .u16 q) := by simp [World.cell?, BX.out]
  have cBX5 : v2.cell? ⟨gBX, 5, none⟩ = some (.int .u8 r) := by simp [World.cell?, BX.out]
  have cBX6 : v2.cell? ⟨gBX, 6, none⟩ = some (.int .u32 a2) := by simp [World.cell?, BX.out]
  have cBX7 : v2.cell? ⟨gBX, 7, none⟩ = some (.int .u16 p2) := by simp [World.cell?, BX.out]
  have cBX8 : v2.cell? ⟨gBX, 8, none⟩ = some (.int .u32 b2) := by simp [World.cell?, BX.out]
  have cBX9 : v2.cell? ⟨gBX, 9, none⟩ = some (.int .u16 q2) := by simp [World.cell?, BX.out]
  have cBX10 : v2.cell? ⟨gBX, 10, none⟩ = some (.int .i64 st) := by simp [World.cell?, BX.out]
  have cBX11 : v2.cell? ⟨gBX, 11, none⟩ = some (.int .i64 dl) := by simp [World.cell?, BX.out]
  have cBX12 : v2.cell? ⟨gBX, 12, none⟩ = some ((.slice ad n c)) := by simp [World.cell?, BX.out]
  have lBX : gBX < v2.heap.size := cell_lt cBX0
  have cB70 : v2.cell? ⟨gB7, 0, none⟩ = some (.int .u8 r) := by simp [World.cell?, B7.out]
  have cB71 : v2.cell? ⟨gB7, 1, none⟩ = some (.int .u32 a2) := by simp [World.cell?, B7.out]
  have cB72 : v2.cell? ⟨gB7, 2, none⟩ = some (.int .u16 p2) := by simp [World.cell?, B7.out]
  have cB73 : v2.cell? ⟨gB7, 3, none⟩ = some (.int .u32 b2) := by simp [World.cell?, B7.out]
  have cB74 : v2.cell? ⟨gB7, 4, none⟩ = some (.int .u16 q2) := by simp [World.cell?, B7.out]
  have lB7 : gB7 < v2.heap.size := cell_lt cB70
  go_wp2_with fail
  clear cBX0 cBX1 cBX2 cBX3 cBX4 cBX5 cBX6 cBX7 cBX8 cBX9 cBX10 cBX11 cBX12 lBX cB70 cB71 cB72 cB73 cB74 lB7
  refine (Mr.out _).mono ?_
  rintro e v3 ⟨rfl, hp⟩
  have Hm3 := Lib.hid (Hm2.out.trans hp (fun _ _ h => h))
  have hb := (hp.block _ (Array.getElem?_eq_some_iff.1 BX.out).1 id).trans BX.out
  clear BX
  have BX := Lib.hid hb
  clear hb
  have hb := (hp.block _ (Array.getElem?_eq_some_iff.1 BL.out).1 id).trans BL.out
  clear BL
  have BL := Lib.hid hb
  clear hb
  have hb := (hp.block _ (Array.getElem?_eq_some_iff.1 B5.out).1 id).trans B5.out
  clear B5
  have B5 := Lib.hid hb
  clear hb
  have hb := (hp.block _ (Array.getElem?_eq_some_iff.1 B6.out).1 id).trans B6.out
  clear B6
  have B6 := Lib.hid hb
  clear hb
  have hb := (hp.block _ (Array.getElem?_eq_some_iff.1 B7.out).1 id).trans B7.out
  clear B7
  have B7 := Lib.hid hb
  clear hb
  clear hp Hm2
  have cBX0 : v3.cell? ⟨gBX, 0, none⟩ = some (.int .u8 r) := by simp [World.cell?, BX.out]
  have cBX1 : v3.cell? ⟨gBX, 1, none⟩ = some (.int .u32 a) := by simp [World.cell?, BX.out]
  have cBX2 : v3.cell? ⟨gBX, 2, none⟩ = some (.int .u16 p) := by simp [World.cell?, BX.out]
  have cBX3 : v3.cell? ⟨gBX, 3, none⟩ = some (.int .u32 b) := by simp [World.cell?, BX.out]
  have cBX4 : v3.cell? ⟨gBX, 4, none⟩ = some (.int .u16 q) := by simp [World.cell?, BX.out]
  have cBX5 : v3.cell? ⟨gBX, 5, none⟩ = some (.int .u8 r) := by simp [World.cell?, BX.out]
  have cBX6 : v3.cell? ⟨gBX, 6, none⟩ = some (.int .u32 a2) := by simp [World.cell?, BX.out]
  have cBX7 : v3.cell? ⟨gBX, 7, none⟩ = some (.int .u16 p2) := by simp [World.cell?, BX.out]
  have cBX8 : v3.cell? ⟨gBX, 8, none⟩ = some (.int .u32 b2) := by simp [World.cell?, BX.out]
  have cBX9 : v3.cell? ⟨gBX, 9, none⟩ = some (.int .u16 q2) := by simp [World.cell?, BX.out]
  have cBX10 : v3.cell? ⟨gBX, 10, none⟩ = some (.int .i64 st) := by simp [World.cell?, BX.out]
  have cBX11 : v3.cell? ⟨gBX, 11, none⟩ = some (.int .i64 dl) := by simp [World.cell?, BX.out]
  have cBX12 : v3.cell? ⟨gBX, 12, none⟩ = some ((.slice ad n c)) := by simp [World.cell?, BX.out]
  have lBX : gBX < v3.heap.size := cell_lt cBX0
  go_wp2_with fail
  clear cBX0 cBX1 cBX2 cBX3 cBX4 cBX5 cBX6 cBX7 cBX8 cBX9 cBX10 cBX11 cBX12 lBX
  refine (turn_t r a p b q r a2 p2 b2 q2 st dl _ _).mono ?_
  rintro e v4 ⟨rfl, hp⟩
  have Hm4 := Lib.hid (Hm3.out.trans hp (fun _ _ h => h))
  have hb := (hp.block _ (Array.getElem?_eq_some_iff.1 BX.out).1 id).trans BX.out
  clear BX
  have BX := Lib.hid hb
  clear hb
  have hb := (hp.block _ (Array.getElem?_eq_some_iff.1 BL.out).1 id).trans BL.out
  clear BL
  have BL := Lib.hid hb
  clear hb
  have hb := (hp.block _ (Array.getElem?_eq_some_iff.1 B5.out).1 id).trans B5.out
  clear B5
  have B5 := Lib.hid hb
  clear hb
  have hb := (hp.block _ (Array.getElem?_eq_some_iff.1 B6.out).1 id).trans B6.out
  clear B6
  have B6 := Lib.hid hb
  clear hb
  have hb := (hp.block _ (Array.getElem?_eq_some_iff.1 B7.out).1 id).trans B7.out
  clear B7
  have B7 := Lib.hid hb
  clear hb
  clear hp Hm3
  have cBX0 : v4.cell? ⟨gBX, 0, none⟩ = some (.int .u8 r) := by simp [World.cell?, BX.out]
  have cBX1 : v4.cell? ⟨gBX, 1, none⟩ = some (.int .u32 a) := by simp [World.cell?, BX.out]
  have cBX2 : v4.cell? ⟨gBX, 2, none⟩ = some (.int .u16 p) := by simp [World.cell?, BX.out]
  have cBX3 : v4.cell? ⟨gBX, 3, none⟩ = some (.int .u32 b) := by simp [World.cell?, BX.out]
  have cBX4 : v4.cell? ⟨gBX, 4, none⟩ = some (.int .u16 q) := by simp [World.cell?, BX.out]
  have cBX5 : v4.cell? ⟨gBX, 5, none⟩ = some (.int .u8 r) := by simp [World.cell?, BX.out]
  have cBX6 : v4.cell? ⟨gBX, 6, none⟩ = some (.int .u32 a2) := by simp [World.cell?, BX.out]
  have cBX7 : v4.cell? ⟨gBX, 7, none⟩ = some (.int .u16 p2) := by simp [World.cell?, BX.out]
  have cBX8 : v4.cell? ⟨gBX, 8, none⟩ = some (.int .u32 b2) := by simp [World.cell?, BX.out]
  have cBX9 : v4.cell? ⟨gBX, 9, none⟩ = some (.int .u16 q2) := by simp [World.cell?, BX.out]
  have cBX10 : v4.cell? ⟨gBX, 10, none⟩ = some (.int .i64 st) := by simp [World.cell?, BX.out]
  have cBX11 : v4.cell? ⟨gBX, 11, none⟩ = some (.int .i64 dl) := by simp [World.cell?, BX.out]
  have cBX12 : v4.cell? ⟨gBX, 12, none⟩ = some ((.slice ad n c)) := by simp [World.cell?, BX.out]
  have lBX : gBX < v4.heap.size := cell_lt cBX0
  go_wp2_with fail
  clear cBX0 cBX1 cBX2 cBX3 cBX4 cBX5 cBX6 cBX7 cBX8 cBX9 cBX10 cBX11 cBX12 lBX
  have hq : NoW v4 (v4.alloc (.cells #[.int .u32 b, .int .u16 q, .int .u32 a, .int .u16 p] 36)) := (Fp.refl _ _).alloc _
  have Hq3 := Lib.hid (Hm4.out.trans hq (fun _ _ h => h))
  have hb := (hq.block _ (Array.getElem?_eq_some_iff.1 BX.out).1 id).trans BX.out
  clear BX
  have BX := Lib.hid hb
  clear hb
  have hb := (hq.block _ (Array.getElem?_eq_some_iff.1 BL.out).1 id).trans BL.out
  clear BL
  have BL := Lib.hid hb
  clear hb
  have hb := (hq.block _ (Array.getElem?_eq_some_iff.1 B5.out).1 id).trans B5.out
  clear B5
  have B5 := Lib.hid hb
  clear hb
  have hb := (hq.block _ (Array.getElem?_eq_some_iff.1 B6.out).1 id).trans B6.out
  clear B6
  have B6 := Lib.hid hb
  clear hb
  have hb := (hq.block _ (Array.getElem?_eq_some_iff.1 B7.out).1 id).trans B7.out
  clear B7
  have B7 := Lib.hid hb
  clear hb
  have hb : (v4.alloc (.cells #[.int .u32 b, .int .u16 q, .int .u32 a, .int .u16 p] 36)).heap[v4.heap.size]? = some (.cells #[.int .u32 b, .int .u16 q, .int .u32 a, .int .u16 p] 36) := by simpa using heap_alloc_new v4 (.cells #[.int .u32 b, .int .u16 q, .int .u32 a, .int .u16 p] 36)
  have B12 := Lib.hid hb
  clear hb hq Hm4
  generalize (v4.alloc (.cells #[.int .u32 b, .int .u16 q, .int .u32 a, .int .u16 p] 36)) = x3 at *
  generalize v4.heap.size = gB12 at *
  refine (inside_t r a p b q r a2 p2 b2 q2 st dl _ _).mono ?_
  rintro e v5 ⟨rfl, hp⟩
  have Hm5 := Lib.hid (Hq3.out.trans hp (fun _ _ h => h))
  have hb := (hp.block _ (Array.getElem?_eq_some_iff.1 BX.out).1 id).trans BX.out
  clear BX
  have BX := Lib.hid hb
  clear hb
  have hb := (hp.block _ (Array.getElem?_eq_some_iff.1 BL.out).1 id).trans BL.out
  clear BL
  have BL := Lib.hid hb
  clear hb
  have hb := (hp.block _ (Array.getElem?_eq_some_iff.1 B5.out).1 id).trans B5.out
  clear B5
  have B5 := Lib.hid hb
  clear hb
  have hb := (hp.block _ (Array.getElem?_eq_some_iff.1 B6.out).1 id).trans B6.out
  clear B6
  have B6 := Lib.hid hb
  clear hb
  have hb := (hp.block _ (Array.getElem?_eq_some_iff.1 B7.out).1 id).trans B7.out
  clear B7
  have B7 := Lib.hid hb
  clear hb
  have hb := (hp.block _ (Array.getElem?_eq_some_iff.1 B12.out).1 id).trans B12.out
  clear B12
  have B12 := Lib.hid hb
  clear hb
  clear hp Hq3
  have cB50 : v5.cell? ⟨gB5, 0, none⟩ = some (.int .u8 r) := by simp [World.cell?, B5.out]
  have cB51 : v5.cell? ⟨gB5, 1, none⟩ = some (.int .u32 a) := by simp [World.cell?, B5.out]
  have cB52 : v5.cell? ⟨gB5, 2, none⟩ = some (.int .u16 p) := by simp [World.cell?, B5.out]
  have cB53 : v5.cell? ⟨gB5, 3, none⟩ = some (.int .u32 b) := by simp [World.cell?, B5.out]
  have cB54 : v5.cell? ⟨gB5, 4, none⟩ = some (.int .u16 q) := by simp [World.cell?, B5.out]
  have lB5 : gB5 < v5.heap.size := cell_lt cB50
  have cB120 : v5.cell? ⟨gB12, 0, none⟩ = some (.int .u32 b) := by simp [World.cell?, B12.out]
  have cB121 : v5.cell? ⟨gB12, 1, none⟩ = some (.int .u16 q) := by simp [World.cell?, B12.out]
  have cB122 : v5.cell? ⟨gB12, 2, none⟩ = some (.int .u32 a) := by simp [World.cell?, B12.out]
  have cB123 : v5.cell? ⟨gB12, 3, none⟩ = some (.int .u16 p) := by simp [World.cell?, B12.out]
  have lB12 : gB12 < v5.heap.size := cell_lt cB120
  go_wp2_with fail
  clear cB50 cB51 cB52 cB53 cB54 lB5 cB120 cB121 cB122 cB123 lB12
  have hq : NoW v5 (v5.alloc (.cells #[.int .u32 a, .int .u16 p, .int .u32 b, .int .u16 q] 36)) := (Fp.refl _ _).alloc _
  have Hq4 := Lib.hid (Hm5.out.trans hq (fun _ _ h => h))
  have hb := (hq.block _ (Array.getElem?_eq_some_iff.1 BX.out).1 id).trans BX.out
  clear BX
  have BX := Lib.hid hb
  clear hb
  have hb := (hq.block _ (Array.getElem?_eq_some_iff.1 BL.out).1 id).trans BL.out
  clear BL
  have BL := Lib.hid hb
  clear hb
  have hb := (hq.block _ (Array.getElem?_eq_some_iff.1 B5.out).1 id).trans B5.out
  clear B5
  have B5 := Lib.hid hb
  clear hb
  have hb := (hq.block _ (Array.getElem?_eq_some_iff.1 B6.out).1 id).trans B6.out
  clear B6
  have B6 := Lib.hid hb
  clear hb
  have hb := (hq.block _ (Array.getElem?_eq_some_iff.1 B7.out).1 id).trans B7.out
  clear B7
  have B7 := Lib.hid hb
  clear hb
  have hb := (hq.block _ (Array.getElem?_eq_some_iff.1 B12.out).1 id).trans B12.out
  clear B12
  have B12 := Lib.hid hb
  clear hb
  have hb : (v5.alloc (.cells #[.int .u32 a, .int .u16 p, .int .u32 b, .int .u16 q] 36)).heap[v5.heap.size]? = some (.cells #[.int .u32 a, .int .u16 p, .int .u32 b, .int .u16 q] 36) := by simpa using heap_alloc_new v5 (.cells #[.int .u32 a, .int .u16 p, .int .u32 b, .int .u16 q] 36)
  have B13 := Lib.hid hb
  clear hb hq Hm5
  generalize (v5.alloc (.cells #[.int .u32 a, .int .u16 p, .int .u32 b, .int .u16 q] 36)) = x4 at *
  generalize v5.heap.size = gB13 at *
  refine (Kp.out _ (Ht.out.low Hq4.out)).mono ?_
  rintro e v6 ⟨rfl, hp⟩
  have Hm6 := Lib.hid (Hq4.out.trans hp (fun _ _ h => h))
  have hb := (hp.block _ (Array.getElem?_eq_some_iff.1 BX.out).1 id).trans BX.out
  clear BX
  have BX := Lib.hid hb
  clear hb
  have hb := (hp.block _ (Array.getElem?_eq_some_iff.1 BL.out).1 id).trans BL.out
  clear BL
  have BL := Lib.hid hb
  clear hb
  have hb := (hp.block _ (Array.getElem?_eq_some_iff.1 B5.out).1 id).trans B5.out
  clear B5
  have B5 := Lib.hid hb
  clear hb
  have hb := (hp.block _ (Array.getElem?_eq_some_iff.1 B6.out).1 id).trans B6.out
  clear B6
  have B6 := Lib.hid hb
  clear hb
  have hb := (hp.block _ (Array.getElem?_eq_some_iff.1 B7.out).1 id).trans B7.out
  clear B7
  have B7 := Lib.hid hb
  clear hb
  have hb := (hp.block _ (Array.getElem?_eq_some_iff.1 B12.out).1 id).trans B12.out
  clear B12
  have B12 := Lib.hid hb
  clear hb
  have hb := (hp.block _ (Array.getElem?_eq_some_iff.1 B13.out).1 id).trans B13.out
  clear B13
  have B13 := Lib.hid hb
  clear hb
  clear hp Hq4
  go_wp2_with fail
  go_ret
  exact ⟨rfl, Hm6.out⟩

set_option maxHeartbeats 4000000 in
set_option maxRecDepth 100000 in
theorem ans_true (r a p b q a2 p2 b2 q2 : Nat) (st dl : Int) (ad : Option Addr) (n c : Nat) (hcm : n ≤ maxLen) (hL : longB 1 (fun _ => n) 1 = false) (e1 : ∀ W, (binOp .eql 28 (.agg #[.int .u8 r, .int .u32 a, .int .u16 p, .int .u32 b, .int .u16 q]) (.agg #[.int .u8 r, .int .u32 a2, .int .u16 p2, .int .u32 b2, .int .u16 q2])).run Tryd.prog W = .ok (.bool false) W)
    (mr : ∀ W, Calls Tryd.prog 11 #[.agg #[.int .u8 r, .int .u32 a, .int .u16 p, .int .u32 b, .int .u16 q, .int .u8 r, .int .u32 a2, .int .u16 p2, .int .u32 b2, .int .u16 q2, .int .i64 st, .int .i64 dl, (.slice ad n c)], .agg #[.int .u8 r, .int .u32 a2, .int .u16 p2, .int .u32 b2, .int .u16 q2]] W (Ret1 (.tuple #[.bool true, .bool true]) W)) (w : World) (ht : Tb w) : Calls Tryd.prog 3 #[.agg #[.int .u8 r, .int .u32 a, .int .u16 p, .int .u32 b, .int .u16 q, .int .u8 r, .int .u32 a2, .int .u16 p2, .int .u32 b2, .int .u16 q2, .int .i64 st, .int .i64 dl, (.slice ad n c)], .bool true] w (Ret1 (.bool true) w) := by
  have Mr := Lib.hid mr
  clear mr
  have Ht := Lib.hid ht
  have Hcm := Lib.hid hcm
  have kp := fun W (hW : Tb W) => passes18 W hW
  have Kp := Lib.hid kp
  clear ht kp hcm
  go_enter Tryd.func3, Tryd.ntmps3
  go_wp2_with fail
  have hw0 : NoW w ((w.alloc (.cells #[.int .u8 r, .int .u32 a, .int .u16 p, .int .u32 b, .int .u16 q, .int .u8 r, .int .u32 a2, .int .u16 p2, .int .u32 b2, .int .u16 q2, .int .i64 st, .int .i64 dl, (.slice ad n c)] 31)).alloc (.cells #[.int .u8 r, .int .u32 a, .int .u16 p, .int .u32 b, .int .u16 q, .int .u8 r, .int .u32 a2, .int .u16 p2, .int .u32 b2, .int .u16 q2, .int .i64 st, .int .i64 dl, (.slice ad n c)] 31)) := ((Fp.refl _ _).alloc _).alloc _
  obtain ⟨hb0, hb1⟩ := box2 w (.cells #[.int .u8 r, .int .u32 a, .int .u16 p, .int .u32 b, .int .u16 q, .int .u8 r, .int .u32 a2, .int .u16 p2, .int .u32 b2, .int .u16 q2, .int .i64 st, .int .i64 dl, (.slice ad n c)] 31) (.cells #[.int .u8 r, .int .u32 a, .int .u16 p, .int .u32 b, .int .u16 q, .int .u8 r, .int .u32 a2, .int .u16 p2, .int .u32 b2, .int .u16 q2, .int .i64 st, .int .i64 dl, (.slice ad n c)] 31)
  generalize (w.alloc (.cells #[.int .u8 r, .int .u32 a, .int .u16 p, .int .u32 b, .int .u16 q, .int .u8 r, .int .u32 a2, .int .u16 p2, .int .u32 b2, .int .u16 q2, .int .i64 st, .int .i64 dl, (.slice ad n c)] 31)).alloc (.cells #[.int .u8 r, .int .u32 a, .int .u16 p, .int .u32 b, .int .u16 q, .int .u8 r, .int .u32 a2, .int .u16 p2, .int .u32 b2, .int .u16 q2, .int .i64 st, .int .i64 dl, (.slice ad n c)] 31) = w0 at *
  have BX := Lib.hid hb0
  have BL := Lib.hid hb1
  have Hn0 := Lib.hid hw0
  clear hb0 hb1 hw0
  generalize w.heap.size + 1 = gBL at *
  generalize w.heap.size = gBX at *
  have hlc : ∀ i, i < 1 → ∃ b o, (some ⟨gBL, 0, none⟩ : Option Addr) = some ⟨b, o, none⟩ ∧ w0.cell? ⟨b, o + i * 13 + 12, none⟩ = some (.slice ((fun _ => ad) i) ((fun _ => n) i) ((fun _ => c) i)) ∧ (fun _ => n) i ≤ maxLen := by
    intro i hi
    obtain rfl : i = 0 := by omega
    exact ⟨gBL, 0, rfl, by simp [World.cell?, BL.out], Hcm.out⟩
  have kl := long_ok (some ⟨gBL, 0, none⟩) 1 1 (fun _ => n) (fun _ => c) (fun _ => ad) 1 (by unfold maxLen; omega) (by omega) w0 hlc
  rw [hL] at kl
  clear hlc
  refine (kl).mono ?_
  rintro e v0 ⟨rfl, hp⟩
  have Hm0 := Lib.hid (Hn0.out.trans hp (fun _ _ h => h))
  have hb := (hp.block _ (Array.getElem?_eq_some_iff.1 BX.out).1 id).trans BX.out
  clear BX
  have BX := Lib.hid hb
  clear hb
  have hb := (hp.block _ (Array.getElem?_eq_some_iff.1 BL.out).1 id).trans BL.out
  clear BL
  have BL := Lib.hid hb
  clear hb
  clear hp Hn0
  have cBX0 : v0.cell? ⟨gBX, 0, none⟩ = some (.int .u8 r) := by simp [World.cell?, BX.out]
  have cBX1 : v0.cell? ⟨gBX, 1, none⟩ = some (.int .u32 a) := by simp [World.cell?, BX.out]
  have cBX2 : v0.cell? ⟨gBX, 2, none⟩ = some (.int .u16 p) := by simp [World.cell?, BX.out]
  have cBX3 : v0.cell? ⟨gBX, 3, none⟩ = some (.int .u32 b) := by simp [World.cell?, BX.out]
  have cBX4 : v0.cell? ⟨gBX, 4, none⟩ = some (.int .u16 q) := by simp [World.cell?, BX.out]
  have cBX5 : v0.cell? ⟨gBX, 5, none⟩ = some (.int .u8 r) := by simp [World.cell?, BX.out]
  have cBX6 : v0.cell? ⟨gBX, 6, none⟩ = some (.int .u32 a2) := by simp [World.cell?, BX.out]
  have cBX7 : v0.cell? ⟨gBX, 7, none⟩ = some (.int .u16 p2) := by simp [World.cell?, BX.out]
  have cBX8 : v0.cell? ⟨gBX, 8, none⟩ = some (.int .u32 b2) := by simp [World.cell?, BX.out]
  have cBX9 : v0.cell? ⟨gBX, 9, none⟩ = some (.int .u16 q2) := by simp [World.cell?, BX.out]
  have cBX10 : v0.cell? ⟨gBX, 10, none⟩ = some (.int .i64 st) := by simp [World.cell?, BX.out]
  have cBX11 : v0.cell? ⟨gBX, 11, none⟩ = some (.int .i64 dl) := by simp [World.cell?, BX.out]
  have cBX12 : v0.cell? ⟨gBX, 12, none⟩ = some ((.slice ad n c)) := by simp [World.cell?, BX.out]
  have lBX : gBX < v0.heap.size := cell_lt cBX0
  go_wp2_with fail
  clear cBX0 cBX1 cBX2 cBX3 cBX4 cBX5 cBX6 cBX7 cBX8 cBX9 cBX10 cBX11 cBX12 lBX
  have hq : NoW v0 (v0.alloc (.cells #[.int .u8 r, .int .u32 a2, .int .u16 p2, .int .u32 b2, .int .u16 q2] 28)) := (Fp.refl _ _).alloc _
  have Hq0 := Lib.hid (Hm0.out.trans hq (fun _ _ h => h))
  have hb := (hq.block _ (Array.getElem?_eq_some_iff.1 BX.out).1 id).trans BX.out
  clear BX
  have BX := Lib.hid hb
  clear hb
  have hb := (hq.block _ (Array.getElem?_eq_some_iff.1 BL.out).1 id).trans BL.out
  clear BL
  have BL := Lib.hid hb
  clear hb
  have hb : (v0.alloc (.cells #[.int .u8 r, .int .u32 a2, .int .u16 p2, .int .u32 b2, .int .u16 q2] 28)).heap[v0.heap.size]? = some (.cells #[.int .u8 r, .int .u32 a2, .int .u16 p2, .int .u32 b2, .int .u16 q2] 28) := by simpa using heap_alloc_new v0 (.cells #[.int .u8 r, .int .u32 a2, .int .u16 p2, .int .u32 b2, .int .u16 q2] 28)
  have B5 := Lib.hid hb
  clear hb hq Hm0
  generalize (v0.alloc (.cells #[.int .u8 r, .int .u32 a2, .int .u16 p2, .int .u32 b2, .int .u16 q2] 28)) = x0 at *
  generalize v0.heap.size = gB5 at *
  refine (turn_t r a p b q r a2 p2 b2 q2 st dl _ _).mono ?_
  rintro e v1 ⟨rfl, hp⟩
  have Hm1 := Lib.hid (Hq0.out.trans hp (fun _ _ h => h))
  have hb := (hp.block _ (Array.getElem?_eq_some_iff.1 BX.out).1 id).trans BX.out
  clear BX
  have BX := Lib.hid hb
  clear hb
  have hb := (hp.block _ (Array.getElem?_eq_some_iff.1 BL.out).1 id).trans BL.out
  clear BL
  have BL := Lib.hid hb
  clear hb
  have hb := (hp.block _ (Array.getElem?_eq_some_iff.1 B5.out).1 id).trans B5.out
  clear B5
  have B5 := Lib.hid hb
  clear hb
  clear hp Hq0
  have cBX0 : v1.cell? ⟨gBX, 0, none⟩ = some (.int .u8 r) := by simp [World.cell?, BX.out]
  have cBX1 : v1.cell? ⟨gBX, 1, none⟩ = some (.int .u32 a) := by simp [World.cell?, BX.out]
  have cBX2 : v1.cell? ⟨gBX, 2, none⟩ = some (.int .u16 p) := by simp [World.cell?, BX.out]
  have cBX3 : v1.cell? ⟨gBX, 3, none⟩ = some (.int .u32 b) := by simp [World.cell?, BX.out]
  have cBX4 : v1.cell? ⟨gBX, 4, none⟩ = some (.int .u16 q) := by simp [World.cell?, BX.out]
  have cBX5 : v1.cell? ⟨gBX, 5, none⟩ = some (.int .u8 r) := by simp [World.cell?, BX.out]
  have cBX6 : v1.cell? ⟨gBX, 6, none⟩ = some (.int .u32 a2) := by simp [World.cell?, BX.out]
  have cBX7 : v1.cell? ⟨gBX, 7, none⟩ = some (.int .u16 p2) := by simp [World.cell?, BX.out]
  have cBX8 : v1.cell? ⟨gBX, 8, none⟩ = some (.int .u32 b2) := by simp [World.cell?, BX.out]
  have cBX9 : v1.cell? ⟨gBX, 9, none⟩ = some (.int .u16 q2) := by simp [World.cell?, BX.out]
  have cBX10 : v1.cell? ⟨gBX, 10, none⟩ = some (.int .i64 st) := by simp [World.cell?, BX.out]
  have cBX11 : v1.cell? ⟨gBX, 11, none⟩ = some (.int .i64 dl) := by simp [World.cell?, BX.out]
  have cBX12 : v1.cell? ⟨gBX, 12, none⟩ = some ((.slice ad n c)) := by simp [World.cell?, BX.out]
  have lBX : gBX < v1.heap.size := cell_lt cBX0
  have cB50 : v1.cell? ⟨gB5, 0, none⟩ = some (.int .u8 r) := by simp [World.cell?, B5.out]
  have cB51 : v1.cell? ⟨gB5, 1, none⟩ = some (.int .u32 a2) := by simp [World.cell?, B5.out]
  have cB52 : v1.cell? ⟨gB5, 2, none⟩ = some (.int .u16 p2) := by simp [World.cell?, B5.out]
  have cB53 : v1.cell? ⟨gB5, 3, none⟩ = some (.int .u32 b2) := by simp [World.cell?, B5.out]
  have cB54 : v1.cell? ⟨gB5, 4, none⟩ = some (.int .u16 q2) := by simp [World.cell?, B5.out]
  have lB5 : gB5 < v1.heap.size := cell_lt cB50
  go_wp2_with fail
  clear cBX0 cBX1 cBX2 cBX3 cBX4 cBX5 cBX6 cBX7 cBX8 cBX9 cBX10 cBX11 cBX12 lBX cB50 cB51 cB52 cB53 cB54 lB5
  have hq : NoW v1 (v1.alloc (.cells #[.int .u32 b, .int .u16 q, .int .u32 a, .int .u16 p] 36)) := (Fp.refl _ _).alloc _
  have Hq1 := Lib.hid (Hm1.out.trans hq (fun _ _ h => h))
  have hb := (hq.block _ (Array.getElem?_eq_some_iff.1 BX.out).1 id).trans BX.out
  clear BX
  have BX := Lib.hid hb
  clear hb
  have hb := (hq.block _ (Array.getElem?_eq_some_iff.1 BL.out).1 id).trans BL.out
  clear BL
  have BL := Lib.hid hb
  clear hb
  have hb := (hq.block _ (Array.getElem?_eq_some_iff.1 B5.out).1 id).trans B5.out
  clear B5
  have B5 := Lib.hid hb
  clear hb
  have hb : (v1.alloc (.cells #[.int .u32 b, .int .u16 q, .int .u32 a, .int .u16 p] 36)).heap[v1.heap.size]? = some (.cells #[.int .u32 b, .int .u16 q, .int .u32 a, .int .u16 p] 36) := by simpa using heap_alloc_new v1 (.cells #[.int .u32 b, .int .u16 q, .int .u32 a, .int .u16 p] 36)
  have B6 := Lib.hid hb
  clear hb hq Hm1
  have hq : NoW (v1.alloc (.cells #[.int .u32 b, .int .u16 q, .int .u32 a, .int .u16 p] 36)) ((v1.alloc (.cells #[.int .u32 b, .int .u16 q, .int .u32 a, .int .u16 p] 36)).alloc (.cells #[.int .u8 r, .int .u32 a, .int .u16 p, .int .u32 b, .int .u16 q] 28)) := (Fp.refl _ _).alloc _
  have Hq2 := Lib.hid (Hq1.out.trans hq (fun _ _ h => h))
  have hb := (hq.block _ (Array.getElem?_eq_some_iff.1 BX.out).1 id).trans BX.out
  clear BX
  have BX := Lib.hid hb
  clear hb
  have hb := (hq.block _ (Array.getElem?_eq_some_iff.1 BL.out).1 id).trans BL.out
  clear BL
  have BL := Lib.hid hb
  clear hb
  have hb := (hq.block _ (Array.getElem?_eq_some_iff.1 B5.out).1 id).trans B5.out
  clear B5
  have B5 := Lib.hid hb
  clear hb
  have hb := (hq.block _ (Array.getElem?_eq_some_iff.1 B6.out).1 id).trans B6.out
  clear B6
  have B6 := Lib.hid hb
  clear hb
  have hb : ((v1.alloc (.cells #[.int .u32 b, .int .u16 q, .int .u32 a, .int .u16 p] 36)).alloc (.cells #[.int .u8 r, .int .u32 a, .int .u16 p, .int .u32 b, .int .u16 q] 28)).heap[v1.heap.size + 1]? = some (.cells #[.int .u8 r, .int .u32 a, .int .u16 p, .int .u32 b, .int .u16 q] 28) := by simpa using heap_alloc_new (v1.alloc (.cells #[.int .u32 b, .int .u16 q, .int .u32 a, .int .u16 p] 36)) (.cells #[.int .u8 r, .int .u32 a, .int .u16 p, .int .u32 b, .int .u16 q] 28)
  have B7 := Lib.hid hb
  clear hb hq Hq1
  generalize ((v1.alloc (.cells #[.int .u32 b, .int .u16 q, .int .u32 a, .int .u16 p] 36)).alloc (.cells #[.int .u8 r, .int .u32 a, .int .u16 p, .int .u32 b, .int .u16 q] 28)) = x1 at *
  generalize v1.heap.size + 1 = gB7 at *
  generalize v1.heap.size = gB6 at *
  refine (Mr.out _).mono ?_
  rintro e v2 ⟨rfl, hp⟩
  have Hm2 := Lib.hid (Hq2.out.trans hp (fun _ _ h => h))
  have hb := (hp.block _ (Array.getElem?_eq_some_iff.1 BX.out).1 id).trans BX.out
  clear BX
  have BX := Lib.hid hb
  clear hb
  have hb := (hp.block _ (Array.getElem?_eq_some_iff.1 BL.out).1 id).trans BL.out
  clear BL
  have BL := Lib.hid hb
  clear hb
  have hb := (hp.block _ (Array.getElem?_eq_some_iff.1 B5.out).1 id).trans B5.out
  clear B5
  have B5 := Lib.hid hb
  clear hb
  have hb := (hp.block _ (Array.getElem?_eq_some_iff.1 B6.out).1 id).trans B6.out
  clear B6
  have B6 := Lib.hid hb
  clear hb
  have hb := (hp.block _ (Array.getElem?_eq_some_iff.1 B7.out).1 id).trans B7.out
  clear B7
  have B7 := Lib.hid hb
  clear hb
  clear hp Hq2
  have cBX0 : v2.cell? ⟨gBX, 0, none⟩ = some (.int .u8 r) := by simp [World.cell?, BX.out]
  have cBX1 : v2.cell? ⟨gBX, 1, none⟩ = some (.int .u32 a) := by simp [World.cell?, BX.out]
  have cBX2 : v2.cell? ⟨gBX, 2, none⟩ = some (.int .u16 p) := by simp [World.cell?, BX.out]
  have cBX3 : v2.cell? ⟨gBX, 3, none⟩ = some (.int .u32 b) := by simp [World.cell?, BX.out]
  have cBX4 : v2.cell? ⟨gBX, 4, none⟩ = some (.int .u16 q) := by simp [World.cell?, BX.out]
  have cBX5 : v2.cell? ⟨gBX, 5, none⟩ = some (.int .u8 r) := by simp [World.cell?, BX.out]
  have cBX6 : v2.cell? ⟨gBX, 6, none⟩ = some (.int .u32 a2) := by simp [World.cell?, BX.out]
  have cBX7 : v2.cell? ⟨gBX, 7, none⟩ = some (.int .u16 p2) := by simp [World.cell?, BX.out]
  have cBX8 : v2.cell? ⟨gBX, 8, none⟩ = some (.int .u32 b2) := by simp [World.cell?, BX.out]
  have cBX9 : v2.cell? ⟨gBX, 9, none⟩ = some (.int .u16 q2) := by simp [World.cell?, BX.out]
  have cBX10 : v2.cell? ⟨gBX, 10, none⟩ = some (.int .i64 st) := by simp [World.cell?, BX.out]
  have cBX11 : v2.cell? ⟨gBX, 11, none⟩ = some (.int .i64 dl) := by simp [World.cell?, BX.out]
  have cBX12 : v2.cell? ⟨gBX, 12, none⟩ = some ((.slice ad n c)) := by simp [World.cell?, BX.out]
  have lBX : gBX < v2.heap.size := cell_lt cBX0
  have cB70 : v2.cell? ⟨gB7, 0, none⟩ = some (.int .u8 r) := by simp [World.cell?, B7.out]
  have cB71 : v2.cell? ⟨gB7, 1, none⟩ = some (.int .u32 a) := by simp [World.cell?, B7.out]
  have cB72 : v2.cell? ⟨gB7, 2, none⟩ = some (.int .u16 p) := by simp [World.cell?, B7.out]
  have cB73 : v2.cell? ⟨gB7, 3, none⟩ = some (.int .u32 b) := by simp [World.cell?, B7.out]
  have cB74 : v2.cell? ⟨gB7, 4, none⟩ = some (.int .u16 q) := by simp [World.cell?, B7.out]
  have lB7 : gB7 < v2.heap.size := cell_lt cB70
  go_wp2_with fail
  clear cBX0 cBX1 cBX2 cBX3 cBX4 cBX5 cBX6 cBX7 cBX8 cBX9 cBX10 cBX11 cBX12 lBX cB70 cB71 cB72 cB73 cB74 lB7
  refine (match_orig r a p b q r a2 p2 b2 q2 st dl _ _).mono ?_
  rintro e v3 ⟨rfl, hp⟩
  have Hm3 := Lib.hid (Hm2.out.trans hp (fun _ _ h => h))
  have hb := (hp.block _ (Array.getElem?_eq_some_iff.1 BX.out).1 id).trans BX.out
  clear BX
  have BX := Lib.hid hb
  clear hb
  have hb := (hp.block _ (Array.getElem?_eq_some_iff.1 BL.out).1 id).trans BL.out
  clear BL
  have BL := Lib.hid hb
  clear hb
  have hb := (hp.block _ (Array.getElem?_eq_some_iff.1 B5.out).1 id).trans B5.out
  clear B5
  have B5 := Lib.hid hb
  clear hb
  have hb := (hp.block _ (Array.getElem?_eq_some_iff.1 B6.out).1 id).trans B6.out
  clear B6
  have B6 := Lib.hid hb
  clear hb
  have hb := (hp.block _ (Array.getElem?_eq_some_iff.1 B7.out).1 id).trans B7.out
  clear B7
  have B7 := Lib.hid hb
  clear hb
  clear hp Hm2
  have cBX0 : v3.cell? ⟨gBX, 0, none⟩ = some (.int .u8 r) := by simp [World.cell?, BX.out]
  have cBX1 : v3.cell? ⟨gBX, 1, none⟩ = some (.int .u32 a) := by simp [World.cell?, BX.out]
  have cBX2 : v3.cell? ⟨gBX, 2, none⟩ = some (.int .u16 p) := by simp [World.cell?, BX.out]
  have cBX3 : v3.cell? ⟨gBX, 3, none⟩ = some (.int .u32 b) := by simp [World.cell?, BX.out]
  have cBX4 : v3.cell? ⟨gBX, 4, none⟩ = some (.int .u16 q) := by simp [World.cell?, BX.out]
  have cBX5 : v3.cell? ⟨gBX, 5, none⟩ = some (.int .u8 r) := by simp [World.cell?, BX.out]
  have cBX6 : v3.cell? ⟨gBX, 6, none⟩ = some (.int .u32 a2) := by simp [World.cell?, BX.out]
  have cBX7 : v3.cell? ⟨gBX, 7, none⟩ = some (.int .u16 p2) := by simp [World.cell?, BX.out]
  have cBX8 : v3.cell? ⟨gBX, 8, none⟩ = some (.int .u32 b2) := by simp [World.cell?, BX.out]
  have cBX9 : v3.cell? ⟨gBX, 9, none⟩ = some (.int .u16 q2) := by simp [World.cell?, BX.out]
  have cBX10 : v3.cell? ⟨gBX, 10, none⟩ = some (.int .i64 st) := by simp [World.cell?, BX.out]
  have cBX11 : v3.cell? ⟨gBX, 11, none⟩ = some (.int .i64 dl) := by simp [World.cell?, BX.out]
  have cBX12 : v3.cell? ⟨gBX, 12, none⟩ = some ((.slice ad n c)) := by simp [World.cell?, BX.out]
  have lBX : gBX < v3.heap.size := cell_lt cBX0
  go_wp2_with fail
  clear cBX0 cBX1 cBX2 cBX3 cBX4 cBX5 cBX6 cBX7 cBX8 cBX9 cBX10 cBX11 cBX12 lBX
  refine (turn_f r a p b q r a2 p2 b2 q2 st dl _ _).mono ?_
  rintro e v4 ⟨rfl, hp⟩
  have Hm4 := Lib.hid (Hm3.out.trans hp (fun _ _ h => h))
  have hb := (hp.block _ (Array.getElem?_eq_some_iff.1 BX.out).1 id).trans BX.out
  clear BX
  have BX := Lib.hid hb
  clear hb
  have hb := (hp.block _ (Array.getElem?_eq_some_iff.1 BL.out).1 id).trans BL.out
  clear BL
  have BL := Lib.hid hb
  clear hb
  have hb := (hp.block _ (Array.getElem?_eq_some_iff.1 B5.out).1 id).trans B5.out
  clear B5
  have B5 := Lib.hid hb
  clear hb
  have hb := (hp.block _ (Array.getElem?_eq_some_iff.1 B6.out).1 id).trans B6.out
  clear B6
  have B6 := Lib.hid hb
  clear hb
  have hb := (hp.block _ (Array.getElem?_eq_some_iff.1 B7.out).1 id).trans B7.out
  clear B7
  have B7 := Lib.hid hb
  clear hb
  clear hp Hm3
  have cBX0 : v4.cell? ⟨gBX, 0, none⟩ = some (.int .u8 r) := by simp [World.cell?, BX.out]
  have cBX1 : v4.cell? ⟨gBX, 1, none⟩ = some (.int .u32 a) := by simp [World.cell?, BX.out]
  have cBX2 : v4.cell? ⟨gBX, 2, none⟩ = some (.int .u16 p) := by simp [World.cell?, BX.out]
  have cBX3 : v4.cell? ⟨gBX, 3, none⟩ = some (.int .u32 b) := by simp [World.cell?, BX.out]
  have cBX4 : v4.cell? ⟨gBX, 4, none⟩ = some (.int .u16 q) := by simp [World.cell?, BX.out]
  have cBX5 : v4.cell? ⟨gBX, 5, none⟩ = some (.int .u8 r) := by simp [World.cell?, BX.out]
  have cBX6 : v4.cell? ⟨gBX, 6, none⟩ = some (.int .u32 a2) := by simp [World.cell?, BX.out]
  have cBX7 : v4.cell? ⟨gBX, 7, none⟩ = some (.int .u16 p2) := by simp [World.cell?, BX.out]
  have cBX8 : v4.cell? ⟨gBX, 8, none⟩ = some (.int .u32 b2) := by simp [World.cell?, BX.out]
  have cBX9 : v4.cell? ⟨gBX, 9, none⟩ = some (.int .u16 q2) := by simp [World.cell?, BX.out]
  have cBX10 : v4.cell? ⟨gBX, 10, none⟩ = some (.int .i64 st) := by simp [World.cell?, BX.out]
  have cBX11 : v4.cell? ⟨gBX, 11, none⟩ = some (.int .i64 dl) := by simp [World.cell?, BX.out]
  have cBX12 : v4.cell? ⟨gBX, 12, none⟩ = some ((.slice ad n c)) := by simp [World.cell?, BX.out]
  have lBX : gBX < v4.heap.size := cell_lt cBX0
  go_wp2_with fail
  clear cBX0 cBX1 cBX2 cBX3 cBX4 cBX5 cBX6 cBX7 cBX8 cBX9 cBX10 cBX11 cBX12 lBX
  have hq : NoW v4 (v4.alloc (.cells #[.int .u32 b2, .int .u16 q2, .int .u32 a2, .int .u16 p2] 36)) := (Fp.refl _ _).alloc _
  have Hq3 := Lib.hid (Hm4.out.trans hq (fun _ _ h => h))
  have hb := (hq.block _ (Array.getElem?_eq_some_iff.1 BX.out).1 id).trans BX.out
  clear BX
  have BX := Lib.hid hb
  clear hb
  have hb := (hq.block _ (Array.getElem?_eq_some_iff.1 BL.out).1 id).trans BL.out
  clear BL
  have BL := Lib.hid hb
  clear hb
  have hb := (hq.block _ (Array.getElem?_eq_some_iff.1 B5.out).1 id).trans B5.out
  clear B5
  have B5 := Lib.hid hb
  clear hb
  have hb := (hq.block _ (Array.getElem?_eq_some_iff.1 B6.out).1 id).trans B6.out
  clear B6
  have B6 := Lib.hid hb
  clear hb
  have hb := (hq.block _ (Array.getElem?_eq_some_iff.1 B7.out).1 id).trans B7.out
  clear B7
  have B7 := Lib.hid hb
  clear hb
  have hb : (v4.alloc (.cells #[.int .u32 b2, .int .u16 q2, .int .u32 a2, .int .u16 p2] 36)).heap[v4.heap.size]? = some (.cells #[.int .u32 b2, .int .u16 q2, .int .u32 a2, .int .u16 p2] 36) := by simpa using heap_alloc_new v4 (.cells #[.int .u32 b2, .int .u16 q2, .int .u32 a2, .int .u16 p2] 36)
  have B12 := Lib.hid hb
  clear hb hq Hm4
  generalize (v4.alloc (.cells #[.int .u32 b2, .int .u16 q2, .int .u32 a2, .int .u16 p2] 36)) = x3 at *
  generalize v4.heap.size = gB12 at *
  refine (inside_f r a p b q r a2 p2 b2 q2 st dl _ _).mono ?_
  rintro e v5 ⟨rfl, hp⟩
  have Hm5 := Lib.hid (Hq3.out.trans hp (fun _ _ h => h))
  have hb := (hp.block _ (Array.getElem?_eq_some_iff.1 BX.out).1 id).trans BX.out
  clear BX
  have BX := Lib.hid hb
  clear hb
  have hb := (hp.block _ (Array.getElem?_eq_some_iff.1 BL.out).1 id).trans BL.out
  clear BL
  have BL := Lib.hid hb
  clear hb
  have hb := (hp.block _ (Array.getElem?_eq_some_iff.1 B5.out).1 id).trans B5.out
  clear B5
  have B5 := Lib.hid hb
  clear hb
  have hb := (hp.block _ (Array.getElem?_eq_some_iff.1 B6.out).1 id).trans B6.out
  clear B6
  have B6 := Lib.hid hb
  clear hb
  have hb := (hp.block _ (Array.getElem?_eq_some_iff.1 B7.out).1 id).trans B7.out
  clear B7
  have B7 := Lib.hid hb
  clear hb
  have hb := (hp.block _ (Array.getElem?_eq_some_iff.1 B12.out).1 id).trans B12.out
  clear B12
  have B12 := Lib.hid hb
  clear hb
  clear hp Hq3
  have cB50 : v5.cell? ⟨gB5, 0, none⟩ = some (.int .u8 r) := by simp [World.cell?, B5.out]
  have cB51 : v5.cell? ⟨gB5, 1, none⟩ = some (.int .u32 a2) := by simp [World.cell?, B5.out]
  have cB52 : v5.cell? ⟨gB5, 2, none⟩ = some (.int .u16 p2) := by simp [World.cell?, B5.out]
  have cB53 : v5.cell? ⟨gB5, 3, none⟩ = some (.int .u32 b2) := by simp [World.cell?, B5.out]
  have cB54 : v5.cell? ⟨gB5, 4, none⟩ = some (.int .u16 q2) := by simp [World.cell?, B5.out]
  have lB5 : gB5 < v5.heap.size := cell_lt cB50
  have cB120 : v5.cell? ⟨gB12, 0, none⟩ = some (.int .u32 b2) := by simp [World.cell?, B12.out]
  have cB121 : v5.cell? ⟨gB12, 1, none⟩ = some (.int .u16 q2) := by simp [World.cell?, B12.out]
  have cB122 : v5.cell? ⟨gB12, 2, none⟩ = some (.int .u32 a2) := by simp [World.cell?, B12.out]
  have cB123 : v5.cell? ⟨gB12, 3, none⟩ = some (.int .u16 p2) := by simp [World.cell?, B12.out]
  have lB12 : gB12 < v5.heap.size := cell_lt cB120
  go_wp2_with fail
  clear cB50 cB51 cB52 cB53 cB54 lB5 cB120 cB121 cB122 cB123 lB12
  have hq : NoW v5 (v5.alloc (.cells #[.int .u32 a2, .int .u16 p2, .int .u32 b2, .int .u16 q2] 36)) := (Fp.refl _ _).alloc _
  have Hq4 := Lib.hid (Hm5.out.trans hq (fun _ _ h => h))
  have hb := (hq.block _ (Array.getElem?_eq_some_iff.1 BX.out).1 id).trans BX.out
  clear BX
  have BX := Lib.hid hb
  clear hb
  have hb := (hq.block _ (Array.getElem?_eq_some_iff.1 BL.out).1 id).trans BL.out
  clear BL
  have BL := Lib.hid hb
  clear hb
  have hb := (hq.block _ (Array.getElem?_eq_some_iff.1 B5.out).1 id).trans B5.out
  clear B5
  have B5 := Lib.hid hb
  clear hb
  have hb := (hq.block _ (Array.getElem?_eq_some_iff.1 B6.out).1 id).trans B6.out
  clear B6
  have B6 := Lib.hid hb
  clear hb
  have hb := (hq.block _ (Array.getElem?_eq_some_iff.1 B7.out).1 id).trans B7.out
  clear B7
  have B7 := Lib.hid hb
  clear hb
  have hb := (hq.block _ (Array.getElem?_eq_some_iff.1 B12.out).1 id).trans B12.out
  clear B12
  have B12 := Lib.hid hb
  clear hb
  have hb : (v5.alloc (.cells #[.int .u32 a2, .int .u16 p2, .int .u32 b2, .int .u16 q2] 36)).heap[v5.heap.size]? = some (.cells #[.int .u32 a2, .int .u16 p2, .int .u32 b2, .int .u16 q2] 36) := by simpa using heap_alloc_new v5 (.cells #[.int .u32 a2, .int .u16 p2, .int .u32 b2, .int .u16 q2] 36)
  have B13 := Lib.hid hb
  clear hb hq Hm5
  generalize (v5.alloc (.cells #[.int .u32 a2, .int .u16 p2, .int .u32 b2, .int .u16 q2] 36)) = x4 at *
  generalize v5.heap.size = gB13 at *
  refine (Kp.out _ (Ht.out.low Hq4.out)).mono ?_
  rintro e v6 ⟨rfl, hp⟩
  have Hm6 := Lib.hid (Hq4.out.trans hp (fun _ _ h => h))
  have hb := (hp.block _ (Array.getElem?_eq_some_iff.1 BX.out).1 id).trans BX.out
  clear BX
  have BX := Lib.hid hb
  clear hb
  have hb := (hp.block _ (Array.getElem?_eq_some_iff.1 BL.out).1 id).trans BL.out
  clear BL
  have BL := Lib.hid hb
  clear hb
  have hb := (hp.block _ (Array.getElem?_eq_some_iff.1 B5.out).1 id).trans B5.out
  clear B5
  have B5 := Lib.hid hb
  clear hb
  have hb := (hp.block _ (Array.getElem?_eq_some_iff.1 B6.out).1 id).trans B6.out
  clear B6
  have B6 := Lib.hid hb
  clear hb
  have hb := (hp.block _ (Array.getElem?_eq_some_iff.1 B7.out).1 id).trans B7.out
  clear B7
  have B7 := Lib.hid hb
  clear hb
  have hb := (hp.block _ (Array.getElem?_eq_some_iff.1 B12.out).1 id).trans B12.out
  clear B12
  have B12 := Lib.hid hb
  clear hb
  have hb := (hp.block _ (Array.getElem?_eq_some_iff.1 B13.out).1 id).trans B13.out
  clear B13
  have B13 := Lib.hid hb
  clear hb
  clear hp Hq4
  go_wp2_with fail
  go_ret
  exact ⟨rfl, Hm6.out⟩
end Go.Proofs.YtdmbjndhdldggaaDoor
