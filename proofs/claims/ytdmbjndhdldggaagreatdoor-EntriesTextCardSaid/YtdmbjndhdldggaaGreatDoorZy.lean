/- Chapter 18: EntriesText's walks (written by gentext18.py). -/
import Derived.Test.YtdmbjndhdldggaaGreatDoorZc
import Derived.Test.YtdmbjndhdldggaaGreatDoorEpT
import Derived.Test.YtdmbjndhdldggaaGreatDoorEnM
import Derived.Test.YtdmbjndhdldggaaGreatDoorEnP
import Derived.Test.YtdmbjndhdldggaaGreatDoorTake
namespace Go.Proofs.YtdmbjndhdldggaaGreatDoor
set_option linter.unusedVariables false
set_option linter.unusedSimpArgs false
open Go.RowKit Go.Lib Go.Sort

set_option maxHeartbeats 8000000 in
set_option maxRecDepth 100000 in
theorem text_long (r a p b q r2 a2 p2 b2 q2 : Nat) (st dl : Int) (ad : Option Addr) (n c : Nat) (l : List UInt8) (hcm : n ≤ maxLen) (hL : longB 1 (fun _ => n) 1 = true) (w : World) (ht : TbQ w)
 : Calls Tryz.prog 3 #[.agg #[.int .u8 r, .int .u32 a, .int .u16 p, .int .u32 b, .int .u16 q, .int .u8 r2, .int .u32 a2, .int .u16 p2, .int .u32 b2, .int .u16 q2, .int .i64 st, .int .i64 dl, .slice ad n c], str l] w (Ret1 (.bool true) w) := by
  have Ht := Lib.hid ht
  have Hcm := Lib.hid hcm
  have kp := fun W (hW : TbQ W) => passes18 W hW.toP.base
  have Kp := Lib.hid kp
  clear ht kp hcm 
  go_enter Tryz.func3, Tryz.ntmps3
  go_wp2_with fail
  have hw0 : NoW w ((w.alloc (.cells #[.int .u8 r, .int .u32 a, .int .u16 p, .int .u32 b, .int .u16 q, .int .u8 r2, .int .u32 a2, .int .u16 p2, .int .u32 b2, .int .u16 q2, .int .i64 st, .int .i64 dl, .slice ad n c] 31)).alloc (.cells #[.int .u8 r, .int .u32 a, .int .u16 p, .int .u32 b, .int .u16 q, .int .u8 r2, .int .u32 a2, .int .u16 p2, .int .u32 b2, .int .u16 q2, .int .i64 st, .int .i64 dl, .slice ad n c] 31)) := ((Fp.refl _ _).alloc _).alloc _
  obtain ⟨hb0, hb1⟩ := box2 w (.cells #[.int .u8 r, .int .u32 a, .int .u16 p, .int .u32 b, .int .u16 q, .int .u8 r2, .int .u32 a2, .int .u16 p2, .int .u32 b2, .int .u16 q2, .int .i64 st, .int .i64 dl, .slice ad n c] 31) (.cells #[.int .u8 r, .int .u32 a, .int .u16 p, .int .u32 b, .int .u16 q, .int .u8 r2, .int .u32 a2, .int .u16 p2, .int .u32 b2, .int .u16 q2, .int .i64 st, .int .i64 dl, .slice ad n c] 31)
  generalize (w.alloc (.cells #[.int .u8 r, .int .u32 a, .int .u16 p, .int .u32 b, .int .u16 q, .int .u8 r2, .int .u32 a2, .int .u16 p2, .int .u32 b2, .int .u16 q2, .int .i64 st, .int .i64 dl, .slice ad n c] 31)).alloc (.cells #[.int .u8 r, .int .u32 a, .int .u16 p, .int .u32 b, .int .u16 q, .int .u8 r2, .int .u32 a2, .int .u16 p2, .int .u32 b2, .int .u16 q2, .int .i64 st, .int .i64 dl, .slice ad n c] 31) = w0 at *
  have BX := Lib.hid hb0
  have BL := Lib.hid hb1
  have Hn0 := Lib.hid hw0
  clear hb0 hb1 hw0
  generalize w.heap.size + 1 = gBL at *
  generalize w.heap.size = gBX at *
  have hlc : ∀ i, i < 1 → ∃ b o, (some ⟨gBL, 0, none⟩ : Option Addr) = some ⟨b, o, none⟩ ∧ w0.cell? ⟨b, o + i * 13 + 12, none⟩ = some (.slice ((fun _ => ad) i) ((fun _ => n) i) ((fun _ => c) i)) ∧ (fun _ => n) i ≤ maxLen := by
    intro i hi
    obtain rfl : i = 0 := by omega
    exact ⟨gBL, 0, rfl, by simp [World.cell?, BL.out], Hcm.out⟩
  have kl := long_ok (some ⟨gBL, 0, none⟩) 1 1 (fun _ => n) (fun _ => c) (fun _ => ad) 1 (by unfold maxLen; omega) (by omega) w0 hlc
  rw [hL] at kl
  clear hlc
  refine (kl).mono ?_
  rintro e v0 ⟨rfl, hp⟩
  have Hm0 := Lib.hid (Hn0.out.trans hp (fun _ _ h => h))
  have hb := (hp.block _ (Array.getElem?_eq_some_iff.1 BX.out).1 id).trans BX.out
  clear BX
  have BX := Lib.hid hb
  clear hb
  have hb := (hp.block _ (Array.getElem?_eq_some_iff.1 BL.out).1 id).trans BL.out
  clear BL
  have BL := Lib.hid hb
  clear hb
  clear hp Hn0
  go_wp2_with fail
  refine (Kp.out _ (Ht.out.low Hm0.out)).mono ?_
  rintro e v1 ⟨rfl, hp⟩
  have Hm1 := Lib.hid (Hm0.out.trans hp (fun _ _ h => h))
  have hb := (hp.block _ (Array.getElem?_eq_some_iff.1 BX.out).1 id).trans BX.out
  clear BX
  have BX := Lib.hid hb
  clear hb
  have hb := (hp.block _ (Array.getElem?_eq_some_iff.1 BL.out).1 id).trans BL.out
  clear BL
  have BL := Lib.hid hb
  clear hb
  clear hp Hm0
  go_wp2_with fail
  go_ret
  exact ⟨rfl, Hm1.out⟩

set_option maxHeartbeats 8000000 in
set_option maxRecDepth 100000 in
theorem text_big (r a p b q r2 a2 p2 b2 q2 : Nat) (st dl : Int) (ad : Option Addr) (n c : Nat) (l : List UInt8) (hcm : n ≤ maxLen) (hL : longB 1 (fun _ => n) 1 = false) (hl : 300 < l.length) (w : World) (ht : TbQ w)
 : Calls Tryz.prog 3 #[.agg #[.int .u8 r, .int .u32 a, .int .u16 p, .int .u32 b, .int .u16 q, .int .u8 r2, .int .u32 a2, .int .u16 p2, .int .u32 b2, .int .u16 q2, .int .i64 st, .int .i64 dl, .slice ad n c], str l] w (Ret1 (.bool true) w) := by
  have Ht := Lib.hid ht
  have Hcm := Lib.hid hcm
  have kp := fun W (hW : TbQ W) => passes18 W hW.toP.base
  have Kp := Lib.hid kp
  clear ht kp hcm 
  go_enter Tryz.func3, Tryz.ntmps3
  go_wp2_with fail
  have hw0 : NoW w ((w.alloc (.cells #[.int .u8 r, .int .u32 a, .int .u16 p, .int .u32 b, .int .u16 q, .int .u8 r2, .int .u32 a2, .int .u16 p2, .int .u32 b2, .int .u16 q2, .int .i64 st, .int .i64 dl, .slice ad n c] 31)).alloc (.cells #[.int .u8 r, .int .u32 a, .int .u16 p, .int .u32 b, .int .u16 q, .int .u8 r2, .int .u32 a2, .int .u16 p2, .int .u32 b2, .int .u16 q2, .int .i64 st, .int .i64 dl, .slice ad n c] 31)) := ((Fp.refl _ _).alloc _).alloc _
  obtain ⟨hb0, hb1⟩ := box2 w (.cells #[.int .u8 r, .int .u32 a, .int .u16 p, .int .u32 b, .int .u16 q, .int .u8 r2, .int .u32 a2, .int .u16 p2, .int .u32 b2, .int .u16 q2, .int .i64 st, .int .i64 dl, .slice ad n c] 31) (.cells #[.int .u8 r, .int .u32 a, .int .u16 p, .int .u32 b, .int .u16 q, .int .u8 r2, .int .u32 a2, .int .u16 p2, .int .u32 b2, .int .u16 q2, .int .i64 st, .int .i64 dl, .slice ad n c] 31)
  generalize (w.alloc (.cells #[.int .u8 r, .int .u32 a, .int .u16 p, .int .u32 b, .int .u16 q, .int .u8 r2, .int .u32 a2, .int .u16 p2, .int .u32 b2, .int .u16 q2, .int .i64 st, .int .i64 dl, .slice ad n c] 31)).alloc (.cells #[.int .u8 r, .int .u32 a, .int .u16 p, .int .u32 b, .int .u16 q, .int .u8 r2, .int .u32 a2, .int .u16 p2, .int .u32 b2, .int .u16 q2, .int .i64 st, .int .i64 dl, .slice ad n c] 31) = w0 at *
  have BX := Lib.hid hb0
  have BL := Lib.hid hb1
  have Hn0 := Lib.hid hw0
  clear hb0 hb1 hw0
  generalize w.heap.size + 1 = gBL at *
  generalize w.heap.size = gBX at *
  have hlc : ∀ i, i < 1 → ∃ b o, (some ⟨gBL, 0, none⟩ : Option Addr) = some ⟨b, o, none⟩ ∧ w0.cell? ⟨b, o + i * 13 + 12, none⟩ = some (.slice ((fun _ => ad) i) ((fun _ => n) i) ((fun _ => c) i)) ∧ (fun _ => n) i ≤ maxLen := by
    intro i hi
    obtain rfl : i = 0 := by omega
    exact ⟨gBL, 0, rfl, by simp [World.cell?, BL.out], Hcm.out⟩
  have kl := long_ok (some ⟨gBL, 0, none⟩) 1 1 (fun _ => n) (fun _ => c) (fun _ => ad) 1 (by unfold maxLen; omega) (by omega) w0 hlc
  rw [hL] at kl
  clear hlc
  refine (kl).mono ?_
  rintro e v0 ⟨rfl, hp⟩
  have Hm0 := Lib.hid (Hn0.out.trans hp (fun _ _ h => h))
  have hb := (hp.block _ (Array.getElem?_eq_some_iff.1 BX.out).1 id).trans BX.out
  clear BX
  have BX := Lib.hid hb
  clear hb
  have hb := (hp.block _ (Array.getElem?_eq_some_iff.1 BL.out).1 id).trans BL.out
  clear BL
  have BL := Lib.hid hb
  clear hb
  clear hp Hn0
  go_wp2_with fail
  refine (Kp.out _ (Ht.out.low Hm0.out)).mono ?_
  rintro e v1 ⟨rfl, hp⟩
  have Hm1 := Lib.hid (Hm0.out.trans hp (fun _ _ h => h))
  have hb := (hp.block _ (Array.getElem?_eq_some_iff.1 BX.out).1 id).trans BX.out
  clear BX
  have BX := Lib.hid hb
  clear hb
  have hb := (hp.block _ (Array.getElem?_eq_some_iff.1 BL.out).1 id).trans BL.out
  clear BL
  have BL := Lib.hid hb
  clear hb
  clear hp Hm0
  go_wp2_with fail
  go_ret
  exact ⟨rfl, Hm1.out⟩

set_option maxHeartbeats 8000000 in
set_option maxRecDepth 100000 in
theorem text_core (r a p b q r2 a2 p2 b2 q2 : Nat) (st dl : Int) (ad : Option Addr) (n c : Nat) (oa op ia ip : Nat → Nat) (r5 a5 p5 b5 q5 r6 a6 p6 b6 q6 : Nat) (yst ydl : Int) (yn : Nat) (oa3 op3 ia3 ip3 : Nat → Nat) (es : Int) (r7 a7 p7 b7 q7 r8 a8 p8 b8 q8 : Nat) (zst zdl : Int) (zn : Nat) (oa4 op4 ia4 ip4 : Nat → Nat) (et : Int) (t l : List UInt8) (hcm : n ≤ maxLen) (hL : longB 1 (fun _ => n) 1 = false) (hl : l.length ≤ 300) (w : World) (ht : TbQ w)
    (ktx : ∀ W, TbQ W → NoW w W → Calls Tryz.prog 6 #[.agg #[.int .u8 r, .int .u32 a, .int .u16 p, .int .u32 b, .int .u16 q, .int .u8 r2, .int .u32 a2, .int .u16 p2, .int .u32 b2, .int .u16 q2, .int .i64 st, .int .i64 dl, .slice ad n c]] W (Ret1 (str t) W))
    (krx : ∀ W o c', HoldsIn W o n (holdsV oa op ia ip n) → Calls Tryz.prog 9 #[.agg #[.int .u8 r, .int .u32 a, .int .u16 p, .int .u32 b, .int .u16 q, .int .u8 r2, .int .u32 a2, .int .u16 p2, .int .u32 b2, .int .u16 q2, .int .i64 st, .int .i64 dl, .slice o n c']] W (Ret1 (str t) W))
    (kdx : ∀ W, NoW w W → Calls Tryz.prog 10 #[.agg #[.int .u8 r, .int .u32 a, .int .u16 p, .int .u32 b, .int .u16 q, .int .u8 r2, .int .u32 a2, .int .u16 p2, .int .u32 b2, .int .u16 q2, .int .i64 st, .int .i64 dl, .slice ad n c]] W fun e w' => ∃ o' c', e = .returned (.agg #[.int .u8 r, .int .u32 a, .int .u16 p, .int .u32 b, .int .u16 q, .int .u8 r2, .int .u32 a2, .int .u16 p2, .int .u32 b2, .int .u16 q2, .int .i64 st, .int .i64 dl, .slice o' n c']) ∧ n ≤ c' ∧ HoldsIn w' o' n (holdsV oa op ia ip n) ∧ NoW W w')
    (kps : ∀ W, TbQ W → Calls Tryz.prog 7 #[str l] W fun e w' => ∃ o' c', e = .returned (.tuple #[.agg #[.int .u8 r5, .int .u32 a5, .int .u16 p5, .int .u32 b5, .int .u16 q5, .int .u8 r6, .int .u32 a6, .int .u16 p6, .int .u32 b6, .int .u16 q6, .int .i64 yst, .int .i64 ydl, .slice o' yn c'], .int .i64 es]) ∧ HoldsIn w' o' yn (holdsV oa3 op3 ia3 ip3 yn) ∧ NoW W w')
    (krs : ∀ W, Calls Tryz.prog 8 #[str l] W fun e w' => ∃ o' c', e = .returned (.tuple #[.agg #[.int .u8 r5, .int .u32 a5, .int .u16 p5, .int .u32 b5, .int .u16 q5, .int .u8 r6, .int .u32 a6, .int .u16 p6, .int .u32 b6, .int .u16 q6, .int .i64 yst, .int .i64 ydl, .slice o' yn c'], .int .i64 es]) ∧ HoldsIn w' o' yn (holdsV oa3 op3 ia3 ip3 yn) ∧ NoW W w')
    (kpt : ∀ W, TbQ W → Calls Tryz.prog 7 #[str t] W fun e w' => ∃ o' c', e = .returned (.tuple #[.agg #[.int .u8 r7, .int .u32 a7, .int .u16 p7, .int .u32 b7, .int .u16 q7, .int .u8 r8, .int .u32 a8, .int .u16 p8, .int .u32 b8, .int .u16 q8, .int .i64 zst, .int .i64 zdl, .slice o' zn c'], .int .i64 et]) ∧ HoldsIn w' o' zn (holdsV oa4 op4 ia4 ip4 zn) ∧ NoW W w')
    (krt : ∀ W, Calls Tryz.prog 8 #[str t] W fun e w' => ∃ o' c', e = .returned (.tuple #[.agg #[.int .u8 r7, .int .u32 a7, .int .u16 p7, .int .u32 b7, .int .u16 q7, .int .u8 r8, .int .u32 a8, .int .u16 p8, .int .u32 b8, .int .u16 q8, .int .i64 zst, .int .i64 zdl, .slice o' zn c'], .int .i64 et]) ∧ HoldsIn w' o' zn (holdsV oa4 op4 ia4 ip4 zn) ∧ NoW W w')
    (kdy : ∀ W o c, HoldsIn W o yn (holdsV oa3 op3 ia3 ip3 yn) → Calls Tryz.prog 10 #[.agg #[.int .u8 r5, .int .u32 a5, .int .u16 p5, .int .u32 b5, .int .u16 q5, .int .u8 r6, .int .u32 a6, .int .u16 p6, .int .u32 b6, .int .u16 q6, .int .i64 yst, .int .i64 ydl, .slice o yn c]] W fun e w' => ∃ o' c', e = .returned (.agg #[.int .u8 r5, .int .u32 a5, .int .u16 p5, .int .u32 b5, .int .u16 q5, .int .u8 r6, .int .u32 a6, .int .u16 p6, .int .u32 b6, .int .u16 q6, .int .i64 yst, .int .i64 ydl, .slice o' yn c']) ∧ yn ≤ c' ∧ HoldsIn w' o' yn (holdsV oa3 op3 ia3 ip3 yn) ∧ NoW W w')
    (kdz : ∀ W o c, HoldsIn W o zn (holdsV oa4 op4 ia4 ip4 zn) → Calls Tryz.prog 10 #[.agg #[.int .u8 r7, .int .u32 a7, .int .u16 p7, .int .u32 b7, .int .u16 q7, .int .u8 r8, .int .u32 a8, .int .u16 p8, .int .u32 b8, .int .u16 q8, .int .i64 zst, .int .i64 zdl, .slice o zn c]] W fun e w' => ∃ o' c', e = .returned (.agg #[.int .u8 r7, .int .u32 a7, .int .u16 p7, .int .u32 b7, .int .u16 q7, .int .u8 r8, .int .u32 a8, .int .u16 p8, .int .u32 b8, .int .u16 q8, .int .i64 zst, .int .i64 zdl, .slice o' zn c']) ∧ zn ≤ c' ∧ HoldsIn w' o' zn (holdsV oa4 op4 ia4 ip4 zn) ∧ NoW W w')
    (krsy : ∀ W o1 c1 o2 c2, HoldsIn W o1 yn (holdsV oa3 op3 ia3 ip3 yn) → HoldsIn W o2 yn (holdsV oa3 op3 ia3 ip3 yn) → Calls Tryz.prog 11 #[.agg #[.int .u8 r5, .int .u32 a5, .int .u16 p5, .int .u32 b5, .int .u16 q5, .int .u8 r6, .int .u32 a6, .int .u16 p6, .int .u32 b6, .int .u16 q6, .int .i64 yst, .int .i64 ydl, .slice o1 yn c1], .agg #[.int .u8 r5, .int .u32 a5, .int .u16 p5, .int .u32 b5, .int .u16 q5, .int .u8 r6, .int .u32 a6, .int .u16 p6, .int .u32 b6, .int .u16 q6, .int .i64 yst, .int .i64 ydl, .slice o2 yn c2]] W (Ret1 (.bool true) W))
    (krsz : ∀ W o1 c1 o2 c2, HoldsIn W o1 zn (holdsV oa4 op4 ia4 ip4 zn) → HoldsIn W o2 zn (holdsV oa4 op4 ia4 ip4 zn) → Calls Tryz.prog 11 #[.agg #[.int .u8 r7, .int .u32 a7, .int .u16 p7, .int .u32 b7, .int .u16 q7, .int .u8 r8, .int .u32 a8, .int .u16 p8, .int .u32 b8, .int .u16 q8, .int .i64 zst, .int .i64 zdl, .slice o1 zn c1], .agg #[.int .u8 r7, .int .u32 a7, .int .u16 p7, .int .u32 b7, .int .u16 q7, .int .u8 r8, .int .u32 a8, .int .u16 p8, .int .u32 b8, .int .u16 q8, .int .i64 zst, .int .i64 zdl, .slice o2 zn c2]] W (Ret1 (.bool true) W)) : Calls Tryz.prog 3 #[.agg #[.int .u8 r, .int .u32 a, .int .u16 p, .int .u32 b, .int .u16 q, .int .u8 r2, .int .u32 a2, .int .u16 p2, .int .u32 b2, .int .u16 q2, .int .i64 st, .int .i64 dl, .slice ad n c], str l] w (Ret1 (.bool true) w) := by
  have Ktx := Lib.hid ktx
  have Krx := Lib.hid krx
  have Kdx := Lib.hid kdx
  have Kps := Lib.hid kps
  have Krs := Lib.hid krs
  have Kpt := Lib.hid kpt
  have Krt := Lib.hid krt
  have Kdy := Lib.hid kdy
  have Kdz := Lib.hid kdz
  have Krsy := Lib.hid krsy
  have Krsz := Lib.hid krsz
  have Ht := Lib.hid ht
  have Hcm := Lib.hid hcm
  have kp := fun W (hW : TbQ W) => passes18 W hW.toP.base
  have Kp := Lib.hid kp
  clear ht kp hcm ktx krx kdx kps krs kpt krt kdy kdz krsy krsz
  go_enter Tryz.func3, Tryz.ntmps3
  go_wp2_with fail
  have hw0 : NoW w ((w.alloc (.cells #[.int .u8 r, .int .u32 a, .int .u16 p, .int .u32 b, .int .u16 q, .int .u8 r2, .int .u32 a2, .int .u16 p2, .int .u32 b2, .int .u16 q2, .int .i64 st, .int .i64 dl, .slice ad n c] 31)).alloc (.cells #[.int .u8 r, .int .u32 a, .int .u16 p, .int .u32 b, .int .u16 q, .int .u8 r2, .int .u32 a2, .int .u16 p2, .int .u32 b2, .int .u16 q2, .int .i64 st, .int .i64 dl, .slice ad n c] 31)) := ((Fp.refl _ _).alloc _).alloc _
  obtain ⟨hb0, hb1⟩ := box2 w (.cells #[.int .u8 r, .int .u32 a, .int .u16 p, .int .u32 b, .int .u16 q, .int .u8 r2, .int .u32 a2, .int .u16 p2, .int .u32 b2, .int .u16 q2, .int .i64 st, .int .i64 dl, .slice ad n c] 31) (.cells #[.int .u8 r, .int .u32 a, .int .u16 p, .int .u32 b, .int .u16 q, .int .u8 r2, .int .u32 a2, .int .u16 p2, .int .u32 b2, .int .u16 q2, .int .i64 st, .int .i64 dl, .slice ad n c] 31)
  generalize (w.alloc (.cells #[.int .u8 r, .int .u32 a, .int .u16 p, .int .u32 b, .int .u16 q, .int .u8 r2, .int .u32 a2, .int .u16 p2, .int .u32 b2, .int .u16 q2, .int .i64 st, .int .i64 dl, .slice ad n c] 31)).alloc (.cells #[.int .u8 r, .int .u32 a, .int .u16 p, .int .u32 b, .int .u16 q, .int .u8 r2, .int .u32 a2, .int .u16 p2, .int .u32 b2, .int .u16 q2, .int .i64 st, .int .i64 dl, .slice ad n c] 31) = w0 at *
  have BX := Lib.hid hb0
  have BL := Lib.hid hb1
  have Hn0 := Lib.hid hw0
  clear hb0 hb1 hw0
  generalize w.heap.size + 1 = gBL at *
  generalize w.heap.size = gBX at *
  have hlc : ∀ i, i < 1 → ∃ b o, (some ⟨gBL, 0, none⟩ : Option Addr) = some ⟨b, o, none⟩ ∧ w0.cell? ⟨b, o + i * 13 + 12, none⟩ = some (.slice ((fun _ => ad) i) ((fun _ => n) i) ((fun _ => c) i)) ∧ (fun _ => n) i ≤ maxLen := by
    intro i hi
    obtain rfl : i = 0 := by omega
    exact ⟨gBL, 0, rfl, by simp [World.cell?, BL.out], Hcm.out⟩
  have kl := long_ok (some ⟨gBL, 0, none⟩) 1 1 (fun _ => n) (fun _ => c) (fun _ => ad) 1 (by unfold maxLen; omega) (by omega) w0 hlc
  rw [hL] at kl
  clear hlc
  refine (kl).mono ?_
  rintro e v0 ⟨rfl, hp⟩
  have Hm0 := Lib.hid (Hn0.out.trans hp (fun _ _ h => h))
  have hb := (hp.block _ (Array.getElem?_eq_some_iff.1 BX.out).1 id).trans BX.out
  clear BX
  have BX := Lib.hid hb
  clear hb
  have hb := (hp.block _ (Array.getElem?_eq_some_iff.1 BL.out).1 id).trans BL.out
  clear BL
  have BL := Lib.hid hb
  clear hb
  clear hp Hn0
  have cBX0 : v0.cell? ⟨gBX, 0, none⟩ = some (.int .u8 r) := by simp [World.cell?, BX.out]
  have cBX1 : v0.cell? ⟨gBX, 1, none⟩ = some (.int .u32 a) := by simp [World.cell?, BX.out]
  have cBX2 : v0.cell? ⟨gBX, 2, none⟩ = some (.int .u16 p) := by simp [World.cell?, BX.out]
  have cBX3 : v0.cell? ⟨gBX, 3, none⟩ = some (.int .u32 b) := by simp [World.cell?, BX.out]
  have cBX4 : v0.cell? ⟨gBX, 4, none⟩ = some (.int .u16 q) := by simp [World.cell?, BX.out]
  have cBX5 : v0.cell? ⟨gBX, 5, none⟩ = some (.int .u8 r2) := by simp [World.cell?, BX.out]
  have cBX6 : v0.cell? ⟨gBX, 6, none⟩ = some (.int .u32 a2) := by simp [World.cell?, BX.out]
  have cBX7 : v0.cell? ⟨gBX, 7, none⟩ = some (.int .u16 p2) := by simp [World.cell?, BX.out]
  have cBX8 : v0.cell? ⟨gBX, 8, none⟩ = some (.int .u32 b2) := by simp [World.cell?, BX.out]
  have cBX9 : v0.cell? ⟨gBX, 9, none⟩ = some (.int .u16 q2) := by simp [World.cell?, BX.out]
  have cBX10 : v0.cell? ⟨gBX, 10, none⟩ = some (.int .i64 st) := by simp [World.cell?, BX.out]
  have cBX11 : v0.cell? ⟨gBX, 11, none⟩ = some (.int .i64 dl) := by simp [World.cell?, BX.out]
  have cBX12 : v0.cell? ⟨gBX, 12, none⟩ = some (.slice ad n c) := by simp [World.cell?, BX.out]
  have lBX : gBX < v0.heap.size := cell_lt cBX0
  go_wp2_with fail
  clear cBX0 cBX1 cBX2 cBX3 cBX4 cBX5 cBX6 cBX7 cBX8 cBX9 cBX10 cBX11 cBX12 lBX
  refine (Ktx.out _ (Ht.out.low Hm0.out) Hm0.out).mono ?_
  rintro e v1 ⟨rfl, hp⟩
  have Hm1 := Lib.hid (Hm0.out.trans hp (fun _ _ h => h))
  have hb := (hp.block _ (Array.getElem?_eq_some_iff.1 BX.out).1 id).trans BX.out
  clear BX
  have BX := Lib.hid hb
  clear hb
  have hb := (hp.block _ (Array.getElem?_eq_some_iff.1 BL.out).1 id).trans BL.out
  clear BL
  have BL := Lib.hid hb
  clear hb
  clear hp Hm0
  go_wp2_with fail
  refine (Kps.out _ (Ht.out.low Hm1.out)).mono ?_
  rintro e v2 ⟨o6, c6, rfl, hin, hp⟩
  have Hm2 := Lib.hid (Hm1.out.trans hp (fun _ _ h => h))
  have hb := (hp.block _ (Array.getElem?_eq_some_iff.1 BX.out).1 id).trans BX.out
  clear BX
  have BX := Lib.hid hb
  clear hb
  have hb := (hp.block _ (Array.getElem?_eq_some_iff.1 BL.out).1 id).trans BL.out
  clear BL
  have BL := Lib.hid hb
  clear hb
  have Hin6 := Lib.hid hin
  clear hin
  clear hp Hm1
  go_wp2_with fail
  have hq : NoW v2 (v2.alloc (.cells #[.int .u8 r5, .int .u32 a5, .int .u16 p5, .int .u32 b5, .int .u16 q5, .int .u8 r6, .int .u32 a6, .int .u16 p6, .int .u32 b6, .int .u16 q6, .int .i64 yst, .int .i64 ydl, .slice o6 yn c6] 31)) := (Fp.refl _ _).alloc _
  have Hq0 := Lib.hid (Hm2.out.trans hq (fun _ _ h => h))
  have hb := (hq.block _ (Array.getElem?_eq_some_iff.1 BX.out).1 id).trans BX.out
  clear BX
  have BX := Lib.hid hb
  clear hb
  have hb := (hq.block _ (Array.getElem?_eq_some_iff.1 BL.out).1 id).trans BL.out
  clear BL
  have BL := Lib.hid hb
  clear hb
  have hb := Hin6.out.low hq
  clear Hin6
  have Hin6 := Lib.hid hb
  clear hb
  have hb : (v2.alloc (.cells #[.int .u8 r5, .int .u32 a5, .int .u16 p5, .int .u32 b5, .int .u16 q5, .int .u8 r6, .int .u32 a6, .int .u16 p6, .int .u32 b6, .int .u16 q6, .int .i64 yst, .int .i64 ydl, .slice o6 yn c6] 31)).heap[v2.heap.size]? = some (.cells #[.int .u8 r5, .int .u32 a5, .int .u16 p5, .int .u32 b5, .int .u16 q5, .int .u8 r6, .int .u32 a6, .int .u16 p6, .int .u32 b6, .int .u16 q6, .int .i64 yst, .int .i64 ydl, .slice o6 yn c6] 31) := by simpa using heap_alloc_new v2 (.cells #[.int .u8 r5, .int .u32 a5, .int .u16 p5, .int .u32 b5, .int .u16 q5, .int .u8 r6, .int .u32 a6, .int .u16 p6, .int .u32 b6, .int .u16 q6, .int .i64 yst, .int .i64 ydl, .slice o6 yn c6] 31)
  have B6 := Lib.hid hb
  clear hb hq Hm2
  generalize (v2.alloc (.cells #[.int .u8 r5, .int .u32 a5, .int .u16 p5, .int .u32 b5, .int .u16 q5, .int .u8 r6, .int .u32 a6, .int .u16 p6, .int .u32 b6, .int .u16 q6, .int .i64 yst, .int .i64 ydl, .slice o6 yn c6] 31)) = x0 at *
  generalize v2.heap.size = gB6 at *
  refine (Krs.out _).mono ?_
  rintro e v3 ⟨o8, c8, rfl, hin, hp⟩
  have Hm3 := Lib.hid (Hq0.out.trans hp (fun _ _ h => h))
  have hb := (hp.block _ (Array.getElem?_eq_some_iff.1 BX.out).1 id).trans BX.out
  clear BX
  have BX := Lib.hid hb
  clear hb
  have hb := (hp.block _ (Array.getElem?_eq_some_iff.1 BL.out).1 id).trans BL.out
  clear BL
  have BL := Lib.hid hb
  clear hb
  have hb := (hp.block _ (Array.getElem?_eq_some_iff.1 B6.out).1 id).trans B6.out
  clear B6
  have B6 := Lib.hid hb
  clear hb
  have hb := Hin6.out.low hp
  clear Hin6
  have Hin6 := Lib.hid hb
  clear hb
  have Hin8 := Lib.hid hin
  clear hin
  clear hp Hq0
  go_wp2_with fail
  have hq : NoW v3 (v3.alloc (.cells #[.int .u8 r5, .int .u32 a5, .int .u16 p5, .int .u32 b5, .int .u16 q5, .int .u8 r6, .int .u32 a6, .int .u16 p6, .int .u32 b6, .int .u16 q6, .int .i64 yst, .int .i64 ydl, .slice o8 yn c8] 41)) := (Fp.refl _ _).alloc _
  have Hq1 := Lib.hid (Hm3.out.trans hq (fun _ _ h => h))
  have hb := (hq.block _ (Array.getElem?_eq_some_iff.1 BX.out).1 id).trans BX.out
  clear BX
  have BX := Lib.hid hb
  clear hb
  have hb := (hq.block _ (Array.getElem?_eq_some_iff.1 BL.out).1 id).trans BL.out
  clear BL
  have BL := Lib.hid hb
  clear hb
  have hb := (hq.block _ (Array.getElem?_eq_some_iff.1 B6.out).1 id).trans B6.out
  clear B6
  have B6 := Lib.hid hb
  clear hb
  have hb := Hin6.out.low hq
  clear Hin6
  have Hin6 := Lib.hid hb
  clear hb
  have hb := Hin8.out.low hq
  clear Hin8
  have Hin8 := Lib.hid hb
  clear hb
  have hb : (v3.alloc (.cells #[.int .u8 r5, .int .u32 a5, .int .u16 p5, .int .u32 b5, .int .u16 q5, .int .u8 r6, .int .u32 a6, .int .u16 p6, .int .u32 b6, .int .u16 q6, .int .i64 yst, .int .i64 ydl, .slice o8 yn c8] 41)).heap[v3.heap.size]? = some (.cells #[.int .u8 r5, .int .u32 a5, .int .u16 p5, .int .u32 b5, .int .u16 q5, .int .u8 r6, .int .u32 a6, .int .u16 p6, .int .u32 b6, .int .u16 q6, .int .i64 yst, .int .i64 ydl, .slice o8 yn c8] 41) := by simpa using heap_alloc_new v3 (.cells #[.int .u8 r5, .int .u32 a5, .int .u16 p5, .int .u32 b5, .int .u16 q5, .int .u8 r6, .int .u32 a6, .int .u16 p6, .int .u32 b6, .int .u16 q6, .int .i64 yst, .int .i64 ydl, .slice o8 yn c8] 41)
  have B8 := Lib.hid hb
  clear hb hq Hm3
  generalize (v3.alloc (.cells #[.int .u8 r5, .int .u32 a5, .int .u16 p5, .int .u32 b5, .int .u16 q5, .int .u8 r6, .int .u32 a6, .int .u16 p6, .int .u32 b6, .int .u16 q6, .int .i64 yst, .int .i64 ydl, .slice o8 yn c8] 41)) = x1 at *
  generalize v3.heap.size = gB8 at *
  refine (Kpt.out _ (Ht.out.low Hq1.out)).mono ?_
  rintro e v4 ⟨o10, c10, rfl, hin, hp⟩
  have Hm4 := Lib.hid (Hq1.out.trans hp (fun _ _ h => h))
  have hb := (hp.block _ (Array.getElem?_eq_some_iff.1 BX.out).1 id).trans BX.out
  clear BX
  have BX := Lib.hid hb
  clear hb
  have hb := (hp.block _ (Array.getElem?_eq_some_iff.1 BL.out).1 id).trans BL.out
  clear BL
  have BL := Lib.hid hb
  clear hb
  have hb := (hp.block _ (Array.getElem?_eq_some_iff.1 B6.out).1 id).trans B6.out
  clear B6
  have B6 := Lib.hid hb
  clear hb
  have hb := (hp.block _ (Array.getElem?_eq_some_iff.1 B8.out).1 id).trans B8.out
  clear B8
  have B8 := Lib.hid hb
  clear hb
  have hb := Hin6.out.low hp
  clear Hin6
  have Hin6 := Lib.hid hb
  clear hb
  have hb := Hin8.out.low hp
  clear Hin8
  have Hin8 := Lib.hid hb
  clear hb
  have Hin10 := Lib.hid hin
  clear hin
  clear hp Hq1
  go_wp2_with fail
  have hq : NoW v4 (v4.alloc (.cells #[.int .u8 r7, .int .u32 a7, .int .u16 p7, .int .u32 b7, .int .u16 q7, .int .u8 r8, .int .u32 a8, .int .u16 p8, .int .u32 b8, .int .u16 q8, .int .i64 zst, .int .i64 zdl, .slice o10 zn c10] 31)) := (Fp.refl _ _).alloc _
  have Hq2 := Lib.hid (Hm4.out.trans hq (fun _ _ h => h))
  have hb := (hq.block _ (Array.getElem?_eq_some_iff.1 BX.out).1 id).trans BX.out
  clear BX
  have BX := Lib.hid hb
  clear hb
  have hb := (hq.block _ (Array.getElem?_eq_some_iff.1 BL.out).1 id).trans BL.out
  clear BL
  have BL := Lib.hid hb
  clear hb
  have hb := (hq.block _ (Array.getElem?_eq_some_iff.1 B6.out).1 id).trans B6.out
  clear B6
  have B6 := Lib.hid hb
  clear hb
  have hb := (hq.block _ (Array.getElem?_eq_some_iff.1 B8.out).1 id).trans B8.out
  clear B8
  have B8 := Lib.hid hb
  clear hb
  have hb := Hin6.out.low hq
  clear Hin6
  have Hin6 := Lib.hid hb
  clear hb
  have hb := Hin8.out.low hq
  clear Hin8
  have Hin8 := Lib.hid hb
  clear hb
  have hb := Hin10.out.low hq
  clear Hin10
  have Hin10 := Lib.hid hb
  clear hb
  have hb : (v4.alloc (.cells #[.int .u8 r7, .int .u32 a7, .int .u16 p7, .int .u32 b7, .int .u16 q7, .int .u8 r8, .int .u32 a8, .int .u16 p8, .int .u32 b8, .int .u16 q8, .int .i64 zst, .int .i64 zdl, .slice o10 zn c10] 31)).heap[v4.heap.size]? = some (.cells #[.int .u8 r7, .int .u32 a7, .int .u16 p7, .int .u32 b7, .int .u16 q7, .int .u8 r8, .int .u32 a8, .int .u16 p8, .int .u32 b8, .int .u16 q8, .int .i64 zst, .int .i64 zdl, .slice o10 zn c10] 31) := by simpa using heap_alloc_new v4 (.cells #[.int .u8 r7, .int .u32 a7, .int .u16 p7, .int .u32 b7, .int .u16 q7, .int .u8 r8, .int .u32 a8, .int .u16 p8, .int .u32 b8, .int .u16 q8, .int .i64 zst, .int .i64 zdl, .slice o10 zn c10] 31)
  have B10 := Lib.hid hb
  clear hb hq Hm4
  generalize (v4.alloc (.cells #[.int .u8 r7, .int .u32 a7, .int .u16 p7, .int .u32 b7, .int .u16 q7, .int .u8 r8, .int .u32 a8, .int .u16 p8, .int .u32 b8, .int .u16 q8, .int .i64 zst, .int .i64 zdl, .slice o10 zn c10] 31)) = x2 at *
  generalize v4.heap.size = gB10 at *
  refine (Krt.out _).mono ?_
  rintro e v5 ⟨o12, c12, rfl, hin, hp⟩
  have Hm5 := Lib.hid (Hq2.out.trans hp (fun _ _ h => h))
  have hb := (hp.block _ (Array.getElem?_eq_some_iff.1 BX.out).1 id).trans BX.out
  clear BX
  have BX := Lib.hid hb
  clear hb
  have hb := (hp.block _ (Array.getElem?_eq_some_iff.1 BL.out).1 id).trans BL.out
  clear BL
  have BL := Lib.hid hb
  clear hb
  have hb := (hp.block _ (Array.getElem?_eq_some_iff.1 B6.out).1 id).trans B6.out
  clear B6
  have B6 := Lib.hid hb
  clear hb
  have hb := (hp.block _ (Array.getElem?_eq_some_iff.1 B8.out).1 id).trans B8.out
  clear B8
  have B8 := Lib.hid hb
  clear hb
  have hb := (hp.block _ (Array.getElem?_eq_some_iff.1 B10.out).1 id).trans B10.out
  clear B10
  have B10 := Lib.hid hb
  clear hb
  have hb := Hin6.out.low hp
  clear Hin6
  have Hin6 := Lib.hid hb
  clear hb
  have hb := Hin8.out.low hp
  clear Hin8
  have Hin8 := Lib.hid hb
  clear hb
  have hb := Hin10.out.low hp
  clear Hin10
  have Hin10 := Lib.hid hb
  clear hb
  have Hin12 := Lib.hid hin
  clear hin
  clear hp Hq2
  go_wp2_with fail
  have hq : NoW v5 (v5.alloc (.cells #[.int .u8 r7, .int .u32 a7, .int .u16 p7, .int .u32 b7, .int .u16 q7, .int .u8 r8, .int .u32 a8, .int .u16 p8, .int .u32 b8, .int .u16 q8, .int .i64 zst, .int .i64 zdl, .slice o12 zn c12] 41)) := (Fp.refl _ _).alloc _
  have Hq3 := Lib.hid (Hm5.out.trans hq (fun _ _ h => h))
  have hb := (hq.block _ (Array.getElem?_eq_some_iff.1 BX.out).1 id).trans BX.out
  clear BX
  have BX := Lib.hid hb
  clear hb
  have hb := (hq.block _ (Array.getElem?_eq_some_iff.1 BL.out).1 id).trans BL.out
  clear BL
  have BL := Lib.hid hb
  clear hb
  have hb := (hq.block _ (Array.getElem?_eq_some_iff.1 B6.out).1 id).trans B6.out
  clear B6
  have B6 := Lib.hid hb
  clear hb
  have hb := (hq.block _ (Array.getElem?_eq_some_iff.1 B8.out).1 id).trans B8.out
  clear B8
  have B8 := Lib.hid hb
  clear hb
  have hb := (hq.block _ (Array.getElem?_eq_some_iff.1 B10.out).1 id).trans B10.out
  clear B10
  have B10 := Lib.hid hb
  clear hb
  have hb := Hin6.out.low hq
  clear Hin6
  have Hin6 := Lib.hid hb
  clear hb
  have hb := Hin8.out.low hq
  clear Hin8
  have Hin8 := Lib.hid hb
  clear hb
  have hb := Hin10.out.low hq
  clear Hin10
  have Hin10 := Lib.hid hb
  clear hb
  have hb := Hin12.out.low hq
  clear Hin12
  have Hin12 := Lib.hid hb
  clear hb
  have hb : (v5.alloc (.cells #[.int .u8 r7, .int .u32 a7, .int .u16 p7, .int .u32 b7, .int .u16 q7, .int .u8 r8, .int .u32 a8, .int .u16 p8, .int .u32 b8, .int .u16 q8, .int .i64 zst, .int .i64 zdl, .slice o12 zn c12] 41)).heap[v5.heap.size]? = some (.cells #[.int .u8 r7, .int .u32 a7, .int .u16 p7, .int .u32 b7, .int .u16 q7, .int .u8 r8, .int .u32 a8, .int .u16 p8, .int .u32 b8, .int .u16 q8, .int .i64 zst, .int .i64 zdl, .slice o12 zn c12] 41) := by simpa using heap_alloc_new v5 (.cells #[.int .u8 r7, .int .u32 a7, .int .u16 p7, .int .u32 b7, .int .u16 q7, .int .u8 r8, .int .u32 a8, .int .u16 p8, .int .u32 b8, .int .u16 q8, .int .i64 zst, .int .i64 zdl, .slice o12 zn c12] 41)
  have B12 := Lib.hid hb
  clear hb hq Hm5
  generalize (v5.alloc (.cells #[.int .u8 r7, .int .u32 a7, .int .u16 p7, .int .u32 b7, .int .u16 q7, .int .u8 r8, .int .u32 a8, .int .u16 p8, .int .u32 b8, .int .u16 q8, .int .i64 zst, .int .i64 zdl, .slice o12 zn c12] 41)) = x3 at *
  generalize v5.heap.size = gB12 at *
  have cBX0 : x3.cell? ⟨gBX, 0, none⟩ = some (.int .u8 r) := by simp [World.cell?, BX.out]
  have cBX1 : x3.cell? ⟨gBX, 1, none⟩ = some (.int .u32 a) := by simp [World.cell?, BX.out]
  have cBX2 : x3.cell? ⟨gBX, 2, none⟩ = some (.int .u16 p) := by simp [World.cell?, BX.out]
  have cBX3 : x3.cell? ⟨gBX, 3, none⟩ = some (.int .u32 b) := by simp [World.cell?, BX.out]
  have cBX4 : x3.cell? ⟨gBX, 4, none⟩ = some (.int .u16 q) := by simp [World.cell?, BX.out]
  have cBX5 : x3.cell? ⟨gBX, 5, none⟩ = some (.int .u8 r2) := by simp [World.cell?, BX.out]
  have cBX6 : x3.cell? ⟨gBX, 6, none⟩ = some (.int .u32 a2) := by simp [World.cell?, BX.out]
  have cBX7 : x3.cell? ⟨gBX, 7, none⟩ = some (.int .u16 p2) := by simp [World.cell?, BX.out]
  have cBX8 : x3.cell? ⟨gBX, 8, none⟩ = some (.int .u32 b2) := by simp [World.cell?, BX.out]
  have cBX9 : x3.cell? ⟨gBX, 9, none⟩ = some (.int .u16 q2) := by simp [World.cell?, BX.out]
  have cBX10 : x3.cell? ⟨gBX, 10, none⟩ = some (.int .i64 st) := by simp [World.cell?, BX.out]
  have cBX11 : x3.cell? ⟨gBX, 11, none⟩ = some (.int .i64 dl) := by simp [World.cell?, BX.out]
  have cBX12 : x3.cell? ⟨gBX, 12, none⟩ = some (.slice ad n c) := by simp [World.cell?, BX.out]
  have lBX : gBX < x3.heap.size := cell_lt cBX0
  have cB60 : x3.cell? ⟨gB6, 0, none⟩ = some (.int .u8 r5) := by simp [World.cell?, B6.out]
  have cB61 : x3.cell? ⟨gB6, 1, none⟩ = some (.int .u32 a5) := by simp [World.cell?, B6.out]
  have cB62 : x3.cell? ⟨gB6, 2, none⟩ = some (.int .u16 p5) := by simp [World.cell?, B6.out]
  have cB63 : x3.cell? ⟨gB6, 3, none⟩ = some (.int .u32 b5) := by simp [World.cell?, B6.out]
  have cB64 : x3.cell? ⟨gB6, 4, none⟩ = some (.int .u16 q5) := by simp [World.cell?, B6.out]
  have cB65 : x3.cell? ⟨gB6, 5, none⟩ = some (.int .u8 r6) := by simp [World.cell?, B6.out]
  have cB66 : x3.cell? ⟨gB6, 6, none⟩ = some (.int .u32 a6) := by simp [World.cell?, B6.out]
  have cB67 : x3.cell? ⟨gB6, 7, none⟩ = some (.int .u16 p6) := by simp [World.cell?, B6.out]
  have cB68 : x3.cell? ⟨gB6, 8, none⟩ = some (.int .u32 b6) := by simp [World.cell?, B6.out]
  have cB69 : x3.cell? ⟨gB6, 9, none⟩ = some (.int .u16 q6) := by simp [World.cell?, B6.out]
  have cB610 : x3.cell? ⟨gB6, 10, none⟩ = some (.int .i64 yst) := by simp [World.cell?, B6.out]
  have cB611 : x3.cell? ⟨gB6, 11, none⟩ = some (.int .i64 ydl) := by simp [World.cell?, B6.out]
  have cB612 : x3.cell? ⟨gB6, 12, none⟩ = some (.slice o6 yn c6) := by simp [World.cell?, B6.out]
  have lB6 : gB6 < x3.heap.size := cell_lt cB60
  have cB80 : x3.cell? ⟨gB8, 0, none⟩ = some (.int .u8 r5) := by simp [World.cell?, B8.out]
  have cB81 : x3.cell? ⟨gB8, 1, none⟩ = some (.int .u32 a5) := by simp [World.cell?, B8.out]
  have cB82 : x3.cell? ⟨gB8, 2, none⟩ = some (.int .u16 p5) := by simp [World.cell?, B8.out]
  have cB83 : x3.cell? ⟨gB8, 3, none⟩ = some (.int .u32 b5) := by simp [World.cell?, B8.out]
  have cB84 : x3.cell? ⟨gB8, 4, none⟩ = some (.int .u16 q5) := by simp [World.cell?, B8.out]
  have cB85 : x3.cell? ⟨gB8, 5, none⟩ = some (.int .u8 r6) := by simp [World.cell?, B8.out]
  have cB86 : x3.cell? ⟨gB8, 6, none⟩ = some (.int .u32 a6) := by simp [World.cell?, B8.out]
  have cB87 : x3.cell? ⟨gB8, 7, none⟩ = some (.int .u16 p6) := by simp [World.cell?, B8.out]
  have cB88 : x3.cell? ⟨gB8, 8, none⟩ = some (.int .u32 b6) := by simp [World.cell?, B8.out]
  have cB89 : x3.cell? ⟨gB8, 9, none⟩ = some (.int .u16 q6) := by simp [World.cell?, B8.out]
  have cB810 : x3.cell? ⟨gB8, 10, none⟩ = some (.int .i64 yst) := by simp [World.cell?, B8.out]
  have cB811 : x3.cell? ⟨gB8, 11, none⟩ = some (.int .i64 ydl) := by simp [World.cell?, B8.out]
  have cB812 : x3.cell? ⟨gB8, 12, none⟩ = some (.slice o8 yn c8) := by simp [World.cell?, B8.out]
  have lB8 : gB8 < x3.heap.size := cell_lt cB80
  have cB100 : x3.cell? ⟨gB10, 0, none⟩ = some (.int .u8 r7) := by simp [World.cell?, B10.out]
  have cB101 : x3.cell? ⟨gB10, 1, none⟩ = some (.int .u32 a7) := by simp [World.cell?, B10.out]
  have cB102 : x3.cell? ⟨gB10, 2, none⟩ = some (.int .u16 p7) := by simp [World.cell?, B10.out]
  have cB103 : x3.cell? ⟨gB10, 3, none⟩ = some (.int .u32 b7) := by simp [World.cell?, B10.out]
  have cB104 : x3.cell? ⟨gB10, 4, none⟩ = some (.int .u16 q7) := by simp [World.cell?, B10.out]
  have cB105 : x3.cell? ⟨gB10, 5, none⟩ = some (.int .u8 r8) := by simp [World.cell?, B10.out]
  have cB106 : x3.cell? ⟨gB10, 6, none⟩ = some (.int .u32 a8) := by simp [World.cell?, B10.out]
  have cB107 : x3.cell? ⟨gB10, 7, none⟩ = some (.int .u16 p8) := by simp [World.cell?, B10.out]
  have cB108 : x3.cell? ⟨gB10, 8, none⟩ = some (.int .u32 b8) := by simp [World.cell?, B10.out]
  have cB109 : x3.cell? ⟨gB10, 9, none⟩ = some (.int .u16 q8) := by simp [World.cell?, B10.out]
  have cB1010 : x3.cell? ⟨gB10, 10, none⟩ = some (.int .i64 zst) := by simp [World.cell?, B10.out]
  have cB1011 : x3.cell? ⟨gB10, 11, none⟩ = some (.int .i64 zdl) := by simp [World.cell?, B10.out]
  have cB1012 : x3.cell? ⟨gB10, 12, none⟩ = some (.slice o10 zn c10) := by simp [World.cell?, B10.out]
  have lB10 : gB10 < x3.heap.size := cell_lt cB100
  have cB120 : x3.cell? ⟨gB12, 0, none⟩ = some (.int .u8 r7) := by simp [World.cell?, B12.out]
  have cB121 : x3.cell? ⟨gB12, 1, none⟩ = some (.int .u32 a7) := by simp [World.cell?, B12.out]
  have cB122 : x3.cell? ⟨gB12, 2, none⟩ = some (.int .u16 p7) := by simp [World.cell?, B12.out]
  have cB123 : x3.cell? ⟨gB12, 3, none⟩ = some (.int .u32 b7) := by simp [World.cell?, B12.out]
  have cB124 : x3.cell? ⟨gB12, 4, none⟩ = some (.int .u16 q7) := by simp [World.cell?, B12.out]
  have cB125 : x3.cell? ⟨gB12, 5, none⟩ = some (.int .u8 r8) := by simp [World.cell?, B12.out]
  have cB126 : x3.cell? ⟨gB12, 6, none⟩ = some (.int .u32 a8) := by simp [World.cell?, B12.out]
  have cB127 : x3.cell? ⟨gB12, 7, none⟩ = some (.int .u16 p8) := by simp [World.cell?, B12.out]
  have cB128 : x3.cell? ⟨gB12, 8, none⟩ = some (.int .u32 b8) := by simp [World.cell?, B12.out]
  have cB129 : x3.cell? ⟨gB12, 9, none⟩ = some (.int .u16 q8) := by simp [World.cell?, B12.out]
  have cB1210 : x3.cell? ⟨gB12, 10, none⟩ = some (.int .i64 zst) := by simp [World.cell?, B12.out]
  have cB1211 : x3.cell? ⟨gB12, 11, none⟩ = some (.int .i64 zdl) := by simp [World.cell?, B12.out]
  have cB1212 : x3.cell? ⟨gB12, 12, none⟩ = some (.slice o12 zn c12) := by simp [World.cell?, B12.out]
  have lB12 : gB12 < x3.heap.size := cell_lt cB120
  refine wp_region_held_drew (S := fun wx => NoW x3 wx) (by kernel_rfl) (Fp.drew (Fp.refl _ _)) (fun hHeld => ?_)
  (refine take_at 0 (some 45) rfl rfl (by kernel_rfl) (by kernel_rfl) (by kernel_rfl) (fun _ _ _ h => h) (v := ?_) (by kernel_rfl) ?_ (by assumption) ?_; rotate_left; (focus (intro wS hSw; skip; go_simp; try with_reducible rfl)); (try simp only [Act.put, List.setIfInBounds_toArray, List.set_cons_zero, List.set_cons_succ]))
  (refine take_at 1 (some 46) rfl rfl (by kernel_rfl) (by kernel_rfl) (by kernel_rfl) (fun _ _ _ h => h) (v := ?_) (by kernel_rfl) ?_ (by assumption) ?_; rotate_left; (focus (intro wS hSw; (have qBX0 := (hSw.cell (p := ⟨gBX, 0, none⟩) lBX id).trans cBX0); (have qBX1 := (hSw.cell (p := ⟨gBX, 1, none⟩) lBX id).trans cBX1); (have qBX2 := (hSw.cell (p := ⟨gBX, 2, none⟩) lBX id).trans cBX2); (have qBX3 := (hSw.cell (p := ⟨gBX, 3, none⟩) lBX id).trans cBX3); (have qBX4 := (hSw.cell (p := ⟨gBX, 4, none⟩) lBX id).trans cBX4); (have qBX5 := (hSw.cell (p := ⟨gBX, 5, none⟩) lBX id).trans cBX5); (have qBX6 := (hSw.cell (p := ⟨gBX, 6, none⟩) lBX id).trans cBX6); (have qBX7 := (hSw.cell (p := ⟨gBX, 7, none⟩) lBX id).trans cBX7); (have qBX8 := (hSw.cell (p := ⟨gBX, 8, none⟩) lBX id).trans cBX8); (have qBX9 := (hSw.cell (p := ⟨gBX, 9, none⟩) lBX id).trans cBX9); (have qBX10 := (hSw.cell (p := ⟨gBX, 10, none⟩) lBX id).trans cBX10); (have qBX11 := (hSw.cell (p := ⟨gBX, 11, none⟩) lBX id).trans cBX11); (have qBX12 := (hSw.cell (p := ⟨gBX, 12, none⟩) lBX id).trans cBX12); go_simp; try with_reducible rfl)); (try simp only [Act.put, List.setIfInBounds_toArray, List.set_cons_zero, List.set_cons_succ]))
  refine wpAnyH_ready (rs := [2]) (by kernel_rfl) (by simp) ?_
  refine AllReadyH.cons rfl (fun K hK => ?_) AllReadyH.nil
  go_simp
  go_at_call 10
  refine (Kdx.out _ (Hq3.out.trans hHeld (fun _ _ h => h))).mono ?_
  rintro e u1 ⟨o16, o16c, rfl, hcx, hin, hp⟩
  have hn1 : NoW x3 u1 := Fp.trans hHeld hp (fun _ _ h => h)
  have HinX := Lib.hid hin
  clear hp hHeld hin hcx
  refine hK.out _ _ hn1 (fun hHeld => ?_)
  clear hK K
  try simp only [Act.put, List.setIfInBounds_toArray, List.set_cons_zero, List.set_cons_succ]
  refine wpAnyH_ready (rs := [3]) (by kernel_rfl) (by simp) ?_
  refine AllReadyH.cons rfl (fun K hK => ?_) AllReadyH.nil
  go_simp
  go_at_call 9
  refine (Krx.out _ _ _ HinX.out).mono ?_
  rintro e u2 ⟨rfl, hp⟩
  have hn2 : NoW x3 u2 := Fp.trans hHeld hp (fun _ _ h => h)
  skip
  clear hp hHeld hn1
  refine hK.out _ _ hn2 (fun hHeld => ?_)
  clear hK K
  try simp only [Act.put, List.setIfInBounds_toArray, List.set_cons_zero, List.set_cons_succ]
  (refine take_at 4 (some 49) rfl rfl (by kernel_rfl) (by kernel_rfl) (by kernel_rfl) (fun _ _ _ h => h) (v := ?_) (by kernel_rfl) ?_ (by assumption) ?_; rotate_left; (focus (intro wS hSw; skip; go_simp; try with_reducible rfl)); (try simp only [Act.put, List.setIfInBounds_toArray, List.set_cons_zero, List.set_cons_succ]))
  (refine take_at 5 (some 50) rfl rfl (by kernel_rfl) (by kernel_rfl) (by kernel_rfl) (fun _ _ _ h => h) (v := ?_) (by kernel_rfl) ?_ (by assumption) ?_; rotate_left; (focus (intro wS hSw; skip; go_simp; try with_reducible rfl)); (try simp only [Act.put, List.setIfInBounds_toArray, List.set_cons_zero, List.set_cons_succ]))
  (refine take_at 6 (some 51) rfl rfl (by kernel_rfl) (by kernel_rfl) (by kernel_rfl) (fun _ _ _ h => h) (v := ?_) (by kernel_rfl) ?_ (by assumption) ?_; rotate_left; (focus (intro wS hSw; skip; go_simp; try with_reducible rfl)); (try simp only [Act.put, List.setIfInBounds_toArray, List.set_cons_zero, List.set_cons_succ]))
  (refine take_at 7 (some 52) rfl rfl (by kernel_rfl) (by kernel_rfl) (by kernel_rfl) (fun _ _ _ h => h) (v := ?_) (by kernel_rfl) ?_ (by assumption) ?_; rotate_left; (focus (intro wS hSw; skip; go_simp; try with_reducible rfl)); (try simp only [Act.put, List.setIfInBounds_toArray, List.set_cons_zero, List.set_cons_succ]))
  (refine take_at 8 (some 53) rfl rfl (by kernel_rfl) (by kernel_rfl) (by kernel_rfl) (fun _ _ _ h => h) (v := ?_) (by kernel_rfl) ?_ (by assumption) ?_; rotate_left; (focus (intro wS hSw; skip; go_simp; try with_reducible rfl)); (try simp only [Act.put, List.setIfInBounds_toArray, List.set_cons_zero, List.set_cons_succ]))
  (refine take_at 9 (some 54) rfl rfl (by kernel_rfl) (by kernel_rfl) (by kernel_rfl) (fun _ _ _ h => h) (v := ?_) (by kernel_rfl) ?_ (by assumption) ?_; rotate_left; (focus (intro wS hSw; skip; go_simp; try with_reducible rfl)); (try simp only [Act.put, List.setIfInBounds_toArray, List.set_cons_zero, List.set_cons_succ]))
  (refine take_at 10 (some 55) rfl rfl (by kernel_rfl) (by kernel_rfl) (by kernel_rfl) (fun _ _ _ h => h) (v := ?_) (by kernel_rfl) ?_ (by assumption) ?_; rotate_left; (focus (intro wS hSw; skip; go_simp; try with_reducible rfl)); (try simp only [Act.put, List.setIfInBounds_toArray, List.set_cons_zero, List.set_cons_succ]))
  (refine take_at 11 (some 56) rfl rfl (by kernel_rfl) (by kernel_rfl) (by kernel_rfl) (fun _ _ _ h => h) (v := ?_) (by kernel_rfl) ?_ (by assumption) ?_; rotate_left; (focus (intro wS hSw; (have qB60 := (hSw.cell (p := ⟨gB6, 0, none⟩) lB6 id).trans cB60); (have qB61 := (hSw.cell (p := ⟨gB6, 1, none⟩) lB6 id).trans cB61); (have qB62 := (hSw.cell (p := ⟨gB6, 2, none⟩) lB6 id).trans cB62); (have qB63 := (hSw.cell (p := ⟨gB6, 3, none⟩) lB6 id).trans cB63); (have qB64 := (hSw.cell (p := ⟨gB6, 4, none⟩) lB6 id).trans cB64); (have qB65 := (hSw.cell (p := ⟨gB6, 5, none⟩) lB6 id).trans cB65); (have qB66 := (hSw.cell (p := ⟨gB6, 6, none⟩) lB6 id).trans cB66); (have qB67 := (hSw.cell (p := ⟨gB6, 7, none⟩) lB6 id).trans cB67); (have qB68 := (hSw.cell (p := ⟨gB6, 8, none⟩) lB6 id).trans cB68); (have qB69 := (hSw.cell (p := ⟨gB6, 9, none⟩) lB6 id).trans cB69); (have qB610 := (hSw.cell (p := ⟨gB6, 10, none⟩) lB6 id).trans cB610); (have qB611 := (hSw.cell (p := ⟨gB6, 11, none⟩) lB6 id).trans cB611); (have qB612 := (hSw.cell (p := ⟨gB6, 12, none⟩) lB6 id).trans cB612); go_simp; try with_reducible rfl)); (try simp only [Act.put, List.setIfInBounds_toArray, List.set_cons_zero, List.set_cons_succ]))
  (refine take_at 13 (some 58) rfl rfl (by kernel_rfl) (by kernel_rfl) (by kernel_rfl) (fun _ _ _ h => h) (v := ?_) (by kernel_rfl) ?_ (by assumption) ?_; rotate_left; (focus (intro wS hSw; (have qB80 := (hSw.cell (p := ⟨gB8, 0, none⟩) lB8 id).trans cB80); (have qB81 := (hSw.cell (p := ⟨gB8, 1, none⟩) lB8 id).trans cB81); (have qB82 := (hSw.cell (p := ⟨gB8, 2, none⟩) lB8 id).trans cB82); (have qB83 := (hSw.cell (p := ⟨gB8, 3, none⟩) lB8 id).trans cB83); (have qB84 := (hSw.cell (p := ⟨gB8, 4, none⟩) lB8 id).trans cB84); (have qB85 := (hSw.cell (p := ⟨gB8, 5, none⟩) lB8 id).trans cB85); (have qB86 := (hSw.cell (p := ⟨gB8, 6, none⟩) lB8 id).trans cB86); (have qB87 := (hSw.cell (p := ⟨gB8, 7, none⟩) lB8 id).trans cB87); (have qB88 := (hSw.cell (p := ⟨gB8, 8, none⟩) lB8 id).trans cB88); (have qB89 := (hSw.cell (p := ⟨gB8, 9, none⟩) lB8 id).trans cB89); (have qB810 := (hSw.cell (p := ⟨gB8, 10, none⟩) lB8 id).trans cB810); (have qB811 := (hSw.cell (p := ⟨gB8, 11, none⟩) lB8 id).trans cB811); (have qB812 := (hSw.cell (p := ⟨gB8, 12, none⟩) lB8 id).trans cB812); go_simp; try with_reducible rfl)); (try simp only [Act.put, List.setIfInBounds_toArray, List.set_cons_zero, List.set_cons_succ]))
  refine wpAnyH_ready (rs := [12]) (by kernel_rfl) (by simp) ?_
  refine AllReadyH.cons rfl (fun K hK => ?_) AllReadyH.nil
  go_simp
  go_at_call 10
  refine (Kdy.out _ o6 c6 (Hin6.out.low hHeld)).mono ?_
  rintro e u3 ⟨o17, o17c, rfl, hcx, hin, hp⟩
  have hn3 : NoW x3 u3 := Fp.trans hHeld hp (fun _ _ h => h)
  have HinD := Lib.hid hin
  clear hp hHeld hin hcx hn2
  refine hK.out _ _ hn3 (fun hHeld => ?_)
  clear hK K
  try simp only [Act.put, List.setIfInBounds_toArray, List.set_cons_zero, List.set_cons_succ]
  refine wpAnyH_ready (rs := [14]) (by kernel_rfl) (by simp) ?_
  refine AllReadyH.cons rfl (fun K hK => ?_) AllReadyH.nil
  go_simp
  go_at_call 11
  refine (Krsy.out _ _ _ _ _ HinD.out (Hin8.out.low hHeld)).mono ?_
  rintro e u4 ⟨rfl, hp⟩
  have hn4 : NoW x3 u4 := Fp.trans hHeld hp (fun _ _ h => h)
  skip
  clear hp hHeld hn3
  refine hK.out _ _ hn4 (fun hHeld => ?_)
  clear hK K
  try simp only [Act.put, List.setIfInBounds_toArray, List.set_cons_zero, List.set_cons_succ]
  (refine take_at 15 (some 60) rfl rfl (by kernel_rfl) (by kernel_rfl) (by kernel_rfl) (fun _ _ _ h => h) (v := ?_) (by kernel_rfl) ?_ (by assumption) ?_; rotate_left; (focus (intro wS hSw; skip; go_simp; try with_reducible rfl)); (try simp only [Act.put, List.setIfInBounds_toArray, List.set_cons_zero, List.set_cons_succ]))
  (refine take_at 16 (some 61) rfl rfl (by kernel_rfl) (by kernel_rfl) (by kernel_rfl) (fun _ _ _ h => h) (v := ?_) (by kernel_rfl) ?_ (by assumption) ?_; rotate_left; (focus (intro wS hSw; skip; go_simp; try with_reducible rfl)); (try simp only [Act.put, List.setIfInBounds_toArray, List.set_cons_zero, List.set_cons_succ]))
  (refine take_at 17 (some 62) rfl rfl (by kernel_rfl) (by kernel_rfl) (by kernel_rfl) (fun _ _ _ h => h) (v := ?_) (by kernel_rfl) ?_ (by assumption) ?_; rotate_left; (focus (intro wS hSw; skip; go_simp; try with_reducible rfl)); (try simp only [Act.put, List.setIfInBounds_toArray, List.set_cons_zero, List.set_cons_succ]))
  (refine take_at 18 (some 63) rfl rfl (by kernel_rfl) (by kernel_rfl) (by kernel_rfl) (fun _ _ _ h => h) (v := ?_) (by kernel_rfl) ?_ (by assumption) ?_; rotate_left; (focus (intro wS hSw; skip; go_simp; try with_reducible rfl)); (try simp only [Act.put, List.setIfInBounds_toArray, List.set_cons_zero, List.set_cons_succ]))
  (refine take_at 19 (some 64) rfl rfl (by kernel_rfl) (by kernel_rfl) (by kernel_rfl) (fun _ _ _ h => h) (v := ?_) (by kernel_rfl) ?_ (by assumption) ?_; rotate_left; (focus (intro wS hSw; skip; go_simp; try with_reducible rfl)); (try simp only [Act.put, List.setIfInBounds_toArray, List.set_cons_zero, List.set_cons_succ]))
  (refine take_at 20 (some 65) rfl rfl (by kernel_rfl) (by kernel_rfl) (by kernel_rfl) (fun _ _ _ h => h) (v := ?_) (by kernel_rfl) ?_ (by assumption) ?_; rotate_left; (focus (intro wS hSw; skip; go_simp; try with_reducible rfl)); (try simp only [Act.put, List.setIfInBounds_toArray, List.set_cons_zero, List.set_cons_succ]))
  (refine take_at 21 (some 66) rfl rfl (by kernel_rfl) (by kernel_rfl) (by kernel_rfl) (fun _ _ _ h => h) (v := ?_) (by kernel_rfl) ?_ (by assumption) ?_; rotate_left; (focus (intro wS hSw; skip; go_simp; try with_reducible rfl)); (try simp only [Act.put, List.setIfInBounds_toArray, List.set_cons_zero, List.set_cons_succ]))
  (refine take_at 22 (some 67) rfl rfl (by kernel_rfl) (by kernel_rfl) (by kernel_rfl) (fun _ _ _ h => h) (v := ?_) (by kernel_rfl) ?_ (by assumption) ?_; rotate_left; (focus (intro wS hSw; (have qB100 := (hSw.cell (p := ⟨gB10, 0, none⟩) lB10 id).trans cB100); (have qB101 := (hSw.cell (p := ⟨gB10, 1, none⟩) lB10 id).trans cB101); (have qB102 := (hSw.cell (p := ⟨gB10, 2, none⟩) lB10 id).trans cB102); (have qB103 := (hSw.cell (p := ⟨gB10, 3, none⟩) lB10 id).trans cB103); (have qB104 := (hSw.cell (p := ⟨gB10, 4, none⟩) lB10 id).trans cB104); (have qB105 := (hSw.cell (p := ⟨gB10, 5, none⟩) lB10 id).trans cB105); (have qB106 := (hSw.cell (p := ⟨gB10, 6, none⟩) lB10 id).trans cB106); (have qB107 := (hSw.cell (p := ⟨gB10, 7, none⟩) lB10 id).trans cB107); (have qB108 := (hSw.cell (p := ⟨gB10, 8, none⟩) lB10 id).trans cB108); (have qB109 := (hSw.cell (p := ⟨gB10, 9, none⟩) lB10 id).trans cB109); (have qB1010 := (hSw.cell (p := ⟨gB10, 10, none⟩) lB10 id).trans cB1010); (have qB1011 := (hSw.cell (p := ⟨gB10, 11, none⟩) lB10 id).trans cB1011); (have qB1012 := (hSw.cell (p := ⟨gB10, 12, none⟩) lB10 id).trans cB1012); go_simp; try with_reducible rfl)); (try simp only [Act.put, List.setIfInBounds_toArray, List.set_cons_zero, List.set_cons_succ]))
  (refine take_at 24 (some 69) rfl rfl (by kernel_rfl) (by kernel_rfl) (by kernel_rfl) (fun _ _ _ h => h) (v := ?_) (by kernel_rfl) ?_ (by assumption) ?_; rotate_left; (focus (intro wS hSw; (have qB120 := (hSw.cell (p := ⟨gB12, 0, none⟩) lB12 id).trans cB120); (have qB121 := (hSw.cell (p := ⟨gB12, 1, none⟩) lB12 id).trans cB121); (have qB122 := (hSw.cell (p := ⟨gB12, 2, none⟩) lB12 id).trans cB122); (have qB123 := (hSw.cell (p := ⟨gB12, 3, none⟩) lB12 id).trans cB123); (have qB124 := (hSw.cell (p := ⟨gB12, 4, none⟩) lB12 id).trans cB124); (have qB125 := (hSw.cell (p := ⟨gB12, 5, none⟩) lB12 id).trans cB125); (have qB126 := (hSw.cell (p := ⟨gB12, 6, none⟩) lB12 id).trans cB126); (have qB127 := (hSw.cell (p := ⟨gB12, 7, none⟩) lB12 id).trans cB127); (have qB128 := (hSw.cell (p := ⟨gB12, 8, none⟩) lB12 id).trans cB128); (have qB129 := (hSw.cell (p := ⟨gB12, 9, none⟩) lB12 id).trans cB129); (have qB1210 := (hSw.cell (p := ⟨gB12, 10, none⟩) lB12 id).trans cB1210); (have qB1211 := (hSw.cell (p := ⟨gB12, 11, none⟩) lB12 id).trans cB1211); (have qB1212 := (hSw.cell (p := ⟨gB12, 12, none⟩) lB12 id).trans cB1212); go_simp; try with_reducible rfl)); (try simp only [Act.put, List.setIfInBounds_toArray, List.set_cons_zero, List.set_cons_succ]))
  refine wpAnyH_ready (rs := [23]) (by kernel_rfl) (by simp) ?_
  refine AllReadyH.cons rfl (fun K hK => ?_) AllReadyH.nil
  go_simp
  go_at_call 10
  refine (Kdz.out _ o10 c10 (Hin10.out.low hHeld)).mono ?_
  rintro e u5 ⟨o18, o18c, rfl, hcx, hin, hp⟩
  have hn5 : NoW x3 u5 := Fp.trans hHeld hp (fun _ _ h => h)
  have HinE := Lib.hid hin
  clear hp hHeld hin hcx hn4
  refine hK.out _ _ hn5 (fun hHeld => ?_)
  clear hK K
  try simp only [Act.put, List.setIfInBounds_toArray, List.set_cons_zero, List.set_cons_succ]
  refine wpAnyH_ready (rs := [25]) (by kernel_rfl) (by simp) ?_
  refine AllReadyH.cons rfl (fun K hK => ?_) AllReadyH.nil
  go_simp
  go_at_call 11
  refine (Krsz.out _ _ _ _ _ HinE.out (Hin12.out.low hHeld)).mono ?_
  rintro e u6 ⟨rfl, hp⟩
  have hn6 : NoW x3 u6 := Fp.trans hHeld hp (fun _ _ h => h)
  skip
  clear hp hHeld hn5
  refine hK.out _ _ hn6 (fun hHeld => ?_)
  clear hK K
  try simp only [Act.put, List.setIfInBounds_toArray, List.set_cons_zero, List.set_cons_succ]
  (refine take_at 26 (some 71) rfl rfl (by kernel_rfl) (by kernel_rfl) (by kernel_rfl) (fun _ _ _ h => h) (v := ?_) (by kernel_rfl) ?_ (by assumption) ?_; rotate_left; (focus (intro wS hSw; skip; go_simp; try with_reducible rfl)); (try simp only [Act.put, List.setIfInBounds_toArray, List.set_cons_zero, List.set_cons_succ]))
  (refine take_at 27 (some 72) rfl rfl (by kernel_rfl) (by kernel_rfl) (by kernel_rfl) (fun _ _ _ h => h) (v := ?_) (by kernel_rfl) ?_ (by assumption) ?_; rotate_left; (focus (intro wS hSw; skip; go_simp; try with_reducible rfl)); (try simp only [Act.put, List.setIfInBounds_toArray, List.set_cons_zero, List.set_cons_succ]))
  refine wpAnyH_ready (rs := [28]) (by kernel_rfl) (by simp) ?_
  refine AllReadyH.cons rfl (fun K hK => ?_) AllReadyH.nil
  go_simp
  go_at_call 5
  refine (Kp.out _ (Ht.out.low (Hq3.out.trans hHeld (fun _ _ h => h)))).mono ?_
  rintro e u7 ⟨rfl, hp⟩
  have hn7 : NoW x3 u7 := Fp.trans hHeld hp (fun _ _ h => h)
  skip
  clear hp hHeld hn6
  refine hK.out _ _ hn7 (fun hHeld => ?_)
  clear hK K
  try simp only [Act.put, List.setIfInBounds_toArray, List.set_cons_zero, List.set_cons_succ]
  (refine take_at 29 (some 74) rfl rfl (by kernel_rfl) (by kernel_rfl) (by kernel_rfl) (fun _ _ _ h => h) (v := ?_) (by kernel_rfl) ?_ (by assumption) ?_; rotate_left; (focus (intro wS hSw; skip; go_simp; try with_reducible rfl)); (try simp only [Act.put, List.setIfInBounds_toArray, List.set_cons_zero, List.set_cons_succ]))
  (refine take_at 30 (some 4) rfl rfl (by kernel_rfl) (by kernel_rfl) (by kernel_rfl) (fun _ _ _ h => h) (v := ?_) (by kernel_rfl) ?_ (by assumption) ?_; rotate_left; (focus (intro wS hSw; skip; go_simp; try with_reducible rfl)); (try simp only [Act.put, List.setIfInBounds_toArray, List.set_cons_zero, List.set_cons_succ]))
  refine wpAnyH_done (by kernel_rfl) ?_ _
  have HU := Lib.hid (Hq3.out.trans hHeld (fun _ _ h => h))
  go_wp2_with fail
  go_ret
  exact ⟨rfl, HU.out⟩
end Go.Proofs.YtdmbjndhdldggaaGreatDoor
