/- Chapter 18: EntriesTell's walk (written by gentell18.py). -/
import Derived.Test.YtdmbjndhdldggaaDoorEtU
namespace Go.Proofs.YtdmbjndhdldggaaDoor
set_option linter.unusedVariables false
set_option linter.unusedSimpArgs false
open Go.RowKit Go.Lib Go.Sort

set_option maxHeartbeats 20000000 in
set_option maxRecDepth 200000 in
theorem tell_good (r a p b q r2 a2 p2 b2 q2 r3 a3 p3 b3 q3 r4 a4 p4 b4 q4 r5 a5 p5 b5 q5 r6 a6 p6 b6 q6 r7 a7 p7 b7 q7 : Nat) (st dl st2 dl2 zst zdl now : Int) (ad ad2 : Option Addr) (n c m c2 zn fl : Nat) (oa op ia ip oa2 op2 ia2 ip2 oa3 op3 ia3 ip3 : Nat → Nat) (bk mb mo lv sxy lxy : Bool) (f ta tp tb tq ja jp jb jq : Int) (w : World) (ht : Tb w) (hnm : n ≤ maxLen) (hmm : m ≤ maxLen) (hL : longB 2 (fun i => if i = 0 then n else m) 2 = false)
    (kck : ∀ W, Tb W → Calls Tryd.prog 19 #[.agg #[.int .u8 r, .int .u32 a, .int .u16 p, .int .u32 b, .int .u16 q, .int .u8 r2, .int .u32 a2, .int .u16 p2, .int .u32 b2, .int .u16 q2, .int .i64 st, .int .i64 dl, .slice ad n c]] W (Ret1 (.int .i64 0) W))
    (km : ∀ W, Calls Tryd.prog 11 #[.agg #[.int .u8 r, .int .u32 a, .int .u16 p, .int .u32 b, .int .u16 q, .int .u8 r2, .int .u32 a2, .int .u16 p2, .int .u32 b2, .int .u16 q2, .int .i64 st, .int .i64 dl, .slice ad n c], .agg #[.int .u8 r7, .int .u32 a7, .int .u16 p7, .int .u32 b7, .int .u16 q7]] W (Ret1 (.tuple #[.bool mb, .bool mo]) W))
    (krm : ∀ W o' c', Calls Tryd.prog 20 #[.agg #[.int .u8 r, .int .u32 a, .int .u16 p, .int .u32 b, .int .u16 q, .int .u8 r2, .int .u32 a2, .int .u16 p2, .int .u32 b2, .int .u16 q2, .int .i64 st, .int .i64 dl, .slice o' n c'], .agg #[.int .u8 r7, .int .u32 a7, .int .u16 p7, .int .u32 b7, .int .u16 q7]] W (Ret1 (.tuple #[.bool mb, .bool mo]) W))
    (kt : ∀ W, Tb W → NoW w W → Calls Tryd.prog 21 #[.agg #[.int .u8 r, .int .u32 a, .int .u16 p, .int .u32 b, .int .u16 q, .int .u8 r2, .int .u32 a2, .int .u16 p2, .int .u32 b2, .int .u16 q2, .int .i64 st, .int .i64 dl, .slice ad n c], .bool bk, .int .u8 fl, .int .i64 now] W fun e w' => ∃ o' c', e = .returned (.tuple #[.agg #[.int .u8 r5, .int .u32 a5, .int .u16 p5, .int .u32 b5, .int .u16 q5, .int .u8 r6, .int .u32 a6, .int .u16 p6, .int .u32 b6, .int .u16 q6, .int .i64 zst, .int .i64 zdl, .slice o' zn c'], .int .i64 f]) ∧ HoldsIn w' o' zn (holdsV oa3 op3 ia3 ip3 zn) ∧ NoW W w')
    (krt : ∀ W o c, Tb W → HoldsIn W o n (holdsV oa op ia ip n) → Calls Tryd.prog 22 #[.agg #[.int .u8 r, .int .u32 a, .int .u16 p, .int .u32 b, .int .u16 q, .int .u8 r2, .int .u32 a2, .int .u16 p2, .int .u32 b2, .int .u16 q2, .int .i64 st, .int .i64 dl, .slice o n c], .bool bk, .int .u8 fl, .int .i64 now] W fun e w' => ∃ o' c', e = .returned (.tuple #[.agg #[.int .u8 r5, .int .u32 a5, .int .u16 p5, .int .u32 b5, .int .u16 q5, .int .u8 r6, .int .u32 a6, .int .u16 p6, .int .u32 b6, .int .u16 q6, .int .i64 zst, .int .i64 zdl, .slice o' zn c'], .int .i64 f]) ∧ HoldsIn w' o' zn (holdsV oa3 op3 ia3 ip3 zn) ∧ NoW W w')
    (kmay : ∀ W o' c', Calls Tryd.prog 23 #[.agg #[.int .u8 r, .int .u32 a, .int .u16 p, .int .u32 b, .int .u16 q, .int .u8 r2, .int .u32 a2, .int .u16 p2, .int .u32 b2, .int .u16 q2, .int .i64 st, .int .i64 dl, .slice o' n c']] W (Ret1 (.bool true) W))
    (klv : ∀ W, Calls Tryd.prog 14 #[.agg #[.int .u8 r, .int .u32 a, .int .u16 p, .int .u32 b, .int .u16 q, .int .u8 r2, .int .u32 a2, .int .u16 p2, .int .u32 b2, .int .u16 q2, .int .i64 st, .int .i64 dl, .slice ad n c], .int .i64 now] W (Ret1 (.bool lv) W))
    (krlv : ∀ W o' c', Calls Tryd.prog 24 #[.agg #[.int .u8 r, .int .u32 a, .int .u16 p, .int .u32 b, .int .u16 q, .int .u8 r2, .int .u32 a2, .int .u16 p2, .int .u32 b2, .int .u16 q2, .int .i64 st, .int .i64 dl, .slice o' n c'], .int .i64 now] W (Ret1 (.bool lv) W))
    (kdx : ∀ W, NoW w W → Calls Tryd.prog 18 #[.agg #[.int .u8 r, .int .u32 a, .int .u16 p, .int .u32 b, .int .u16 q, .int .u8 r2, .int .u32 a2, .int .u16 p2, .int .u32 b2, .int .u16 q2, .int .i64 st, .int .i64 dl, .slice ad n c]] W fun e w' => ∃ o' c', e = .returned (.agg #[.int .u8 r, .int .u32 a, .int .u16 p, .int .u32 b, .int .u16 q, .int .u8 r2, .int .u32 a2, .int .u16 p2, .int .u32 b2, .int .u16 q2, .int .i64 st, .int .i64 dl, .slice o' n c']) ∧ n ≤ c' ∧ HoldsIn w' o' n (holdsV oa op ia ip n) ∧ NoW W w')
    (kdy : ∀ W, NoW w W → Calls Tryd.prog 18 #[.agg #[.int .u8 r3, .int .u32 a3, .int .u16 p3, .int .u32 b3, .int .u16 q3, .int .u8 r4, .int .u32 a4, .int .u16 p4, .int .u32 b4, .int .u16 q4, .int .i64 st2, .int .i64 dl2, .slice ad2 m c2]] W fun e w' => ∃ o' c', e = .returned (.agg #[.int .u8 r3, .int .u32 a3, .int .u16 p3, .int .u32 b3, .int .u16 q3, .int .u8 r4, .int .u32 a4, .int .u16 p4, .int .u32 b4, .int .u16 q4, .int .i64 st2, .int .i64 dl2, .slice o' m c']) ∧ m ≤ c' ∧ HoldsIn w' o' m (holdsV oa2 op2 ia2 ip2 m) ∧ NoW W w')
    (kdz : ∀ W o c, HoldsIn W o zn (holdsV oa3 op3 ia3 ip3 zn) → Calls Tryd.prog 18 #[.agg #[.int .u8 r5, .int .u32 a5, .int .u16 p5, .int .u32 b5, .int .u16 q5, .int .u8 r6, .int .u32 a6, .int .u16 p6, .int .u32 b6, .int .u16 q6, .int .i64 zst, .int .i64 zdl, .slice o zn c]] W fun e w' => ∃ o' c', e = .returned (.agg #[.int .u8 r5, .int .u32 a5, .int .u16 p5, .int .u32 b5, .int .u16 q5, .int .u8 r6, .int .u32 a6, .int .u16 p6, .int .u32 b6, .int .u16 q6, .int .i64 zst, .int .i64 zdl, .slice o' zn c']) ∧ zn ≤ c' ∧ HoldsIn w' o' zn (holdsV oa3 op3 ia3 ip3 zn) ∧ NoW W w')
    (krs : ∀ W o1 c1 o2 c2, HoldsIn W o1 zn (holdsV oa3 op3 ia3 ip3 zn) → HoldsIn W o2 zn (holdsV oa3 op3 ia3 ip3 zn) → Calls Tryd.prog 25 #[.agg #[.int .u8 r5, .int .u32 a5, .int .u16 p5, .int .u32 b5, .int .u16 q5, .int .u8 r6, .int .u32 a6, .int .u16 p6, .int .u32 b6, .int .u16 q6, .int .i64 zst, .int .i64 zdl, .slice o1 zn c1], .agg #[.int .u8 r5, .int .u32 a5, .int .u16 p5, .int .u32 b5, .int .u16 q5, .int .u8 r6, .int .u32 a6, .int .u16 p6, .int .u32 b6, .int .u16 q6, .int .i64 zst, .int .i64 zdl, .slice o2 zn c2]] W (Ret1 (.bool true) W))
    (ktn : ∀ W, Calls Tryd.prog 10 #[.agg #[.int .u8 r, .int .u32 a, .int .u16 p, .int .u32 b, .int .u16 q, .int .u8 r2, .int .u32 a2, .int .u16 p2, .int .u32 b2, .int .u16 q2, .int .i64 st, .int .i64 dl, .slice ad n c], .bool bk] W (Ret1 (.agg #[.int .u32 ta, .int .u16 tp, .int .u32 tb, .int .u16 tq]) W))
    (krtn : ∀ W o' c', Calls Tryd.prog 27 #[.agg #[.int .u8 r, .int .u32 a, .int .u16 p, .int .u32 b, .int .u16 q, .int .u8 r2, .int .u32 a2, .int .u16 p2, .int .u32 b2, .int .u16 q2, .int .i64 st, .int .i64 dl, .slice o' n c'], .bool bk] W (Ret1 (.agg #[.int .u32 ta, .int .u16 tp, .int .u32 tb, .int .u16 tq]) W))
    (kin : ∀ W, Calls Tryd.prog 12 #[.agg #[.int .u8 r, .int .u32 a, .int .u16 p, .int .u32 b, .int .u16 q, .int .u8 r2, .int .u32 a2, .int .u16 p2, .int .u32 b2, .int .u16 q2, .int .i64 st, .int .i64 dl, .slice ad n c], .bool bk] W (Ret1 (.agg #[.int .u32 ja, .int .u16 jp, .int .u32 jb, .int .u16 jq]) W))
    (krin : ∀ W o' c', Calls Tryd.prog 28 #[.agg #[.int .u8 r, .int .u32 a, .int .u16 p, .int .u32 b, .int .u16 q, .int .u8 r2, .int .u32 a2, .int .u16 p2, .int .u32 b2, .int .u16 q2, .int .i64 st, .int .i64 dl, .slice o' n c'], .bool bk] W (Ret1 (.agg #[.int .u32 ja, .int .u16 jp, .int .u32 jb, .int .u16 jq]) W))
    (ksxy : ∀ W, NoW w W → Calls Tryd.prog 29 #[.agg #[.int .u8 r, .int .u32 a, .int .u16 p, .int .u32 b, .int .u16 q, .int .u8 r2, .int .u32 a2, .int .u16 p2, .int .u32 b2, .int .u16 q2, .int .i64 st, .int .i64 dl, .slice ad n c], .agg #[.int .u8 r3, .int .u32 a3, .int .u16 p3, .int .u32 b3, .int .u16 q3, .int .u8 r4, .int .u32 a4, .int .u16 p4, .int .u32 b4, .int .u16 q4, .int .i64 st2, .int .i64 dl2, .slice ad2 m c2]] W (Ret1 (.bool sxy) W))
    (krsxy : ∀ W o1 c1 o2 c2, HoldsIn W o1 n (holdsV oa op ia ip n) → HoldsIn W o2 m (holdsV oa2 op2 ia2 ip2 m) → Calls Tryd.prog 25 #[.agg #[.int .u8 r, .int .u32 a, .int .u16 p, .int .u32 b, .int .u16 q, .int .u8 r2, .int .u32 a2, .int .u16 p2, .int .u32 b2, .int .u16 q2, .int .i64 st, .int .i64 dl, .slice o1 n c1], .agg #[.int .u8 r3, .int .u32 a3, .int .u16 p3, .int .u32 b3, .int .u16 q3, .int .u8 r4, .int .u32 a4, .int .u16 p4, .int .u32 b4, .int .u16 q4, .int .i64 st2, .int .i64 dl2, .slice o2 m c2]] W (Ret1 (.bool sxy) W))
    (ksxx : ∀ W, NoW w W → Calls Tryd.prog 29 #[.agg #[.int .u8 r, .int .u32 a, .int .u16 p, .int .u32 b, .int .u16 q, .int .u8 r2, .int .u32 a2, .int .u16 p2, .int .u32 b2, .int .u16 q2, .int .i64 st, .int .i64 dl, .slice ad n c], .agg #[.int .u8 r, .int .u32 a, .int .u16 p, .int .u32 b, .int .u16 q, .int .u8 r2, .int .u32 a2, .int .u16 p2, .int .u32 b2, .int .u16 q2, .int .i64 st, .int .i64 dl, .slice ad n c]] W (Ret1 (.bool true) W))
    (kle : ∀ W, Calls Tryd.prog 17 #[.agg #[.int .u8 r, .int .u32 a, .int .u16 p, .int .u32 b, .int .u16 q, .int .u8 r2, .int .u32 a2, .int .u16 p2, .int .u32 b2, .int .u16 q2, .int .i64 st, .int .i64 dl, .slice ad n c], .agg #[.int .u8 r3, .int .u32 a3, .int .u16 p3, .int .u32 b3, .int .u16 q3, .int .u8 r4, .int .u32 a4, .int .u16 p4, .int .u32 b4, .int .u16 q4, .int .i64 st2, .int .i64 dl2, .slice ad2 m c2]] W (Ret1 (.bool lxy) W))
    (krle : ∀ W o1 c1 o2 c2, Calls Tryd.prog 30 #[.agg #[.int .u8 r, .int .u32 a, .int .u16 p, .int .u32 b, .int .u16 q, .int .u8 r2, .int .u32 a2, .int .u16 p2, .int .u32 b2, .int .u16 q2, .int .i64 st, .int .i64 dl, .slice o1 n c1], .agg #[.int .u8 r3, .int .u32 a3, .int .u16 p3, .int .u32 b3, .int .u16 q3, .int .u8 r4, .int .u32 a4, .int .u16 p4, .int .u32 b4, .int .u16 q4, .int .i64 st2, .int .i64 dl2, .slice o2 m c2]] W (Ret1 (.bool lxy) W)) :
    Calls Tryd.prog 5 #[.agg #[.int .u8 r, .int .u32 a, .int .u16 p, .int .u32 b, .int .u16 q, .int .u8 r2, .int .u32 a2, .int .u16 p2, .int .u32 b2, .int .u16 q2, .int .i64 st, .int .i64 dl, .slice ad n c], .agg #[.int .u8 r3, .int .u32 a3, .int .u16 p3, .int .u32 b3, .int .u16 q3, .int .u8 r4, .int .u32 a4, .int .u16 p4, .int .u32 b4, .int .u16 q4, .int .i64 st2, .int .i64 dl2, .slice ad2 m c2], .agg #[.int .u8 r7, .int .u32 a7, .int .u16 p7, .int .u32 b7, .int .u16 q7, .bool bk, .int .u8 fl, .int .i64 now]] w (Ret1 (.bool true) w) := by
  have Kck := Lib.hid kck
  have Km := Lib.hid km
  have Krm := Lib.hid krm
  have Kt := Lib.hid kt
  have Krt := Lib.hid krt
  have Kmay := Lib.hid kmay
  have Klv := Lib.hid klv
  have Krlv := Lib.hid krlv
  have Kdx := Lib.hid kdx
  have Kdy := Lib.hid kdy
  have Kdz := Lib.hid kdz
  have Krs := Lib.hid krs
  have Ktn := Lib.hid ktn
  have Krtn := Lib.hid krtn
  have Kin := Lib.hid kin
  have Krin := Lib.hid krin
  have Ksxy := Lib.hid ksxy
  have Krsxy := Lib.hid krsxy
  have Ksxx := Lib.hid ksxx
  have Kle := Lib.hid kle
  have Krle := Lib.hid krle
  have Ht := Lib.hid ht
  have kp := fun W (hW : Tb W) => passes18 W hW
  have Kp := Lib.hid kp
  clear ht kp kck km krm kt krt kmay klv krlv kdx kdy kdz krs ktn krtn kin krin ksxy krsxy ksxx kle krle
  go_enter Tryd.func5, Tryd.ntmps5
  go_wp2_with fail
  have hw0 : NoW w ((((w.alloc (.cells #[.int .u8 r, .int .u32 a, .int .u16 p, .int .u32 b, .int .u16 q, .int .u8 r2, .int .u32 a2, .int .u16 p2, .int .u32 b2, .int .u16 q2, .int .i64 st, .int .i64 dl, .slice ad n c] 31)).alloc (.cells #[.int .u8 r3, .int .u32 a3, .int .u16 p3, .int .u32 b3, .int .u16 q3, .int .u8 r4, .int .u32 a4, .int .u16 p4, .int .u32 b4, .int .u16 q4, .int .i64 st2, .int .i64 dl2, .slice ad2 m c2] 31)).alloc (.cells #[.int .u8 r7, .int .u32 a7, .int .u16 p7, .int .u32 b7, .int .u16 q7, .bool bk, .int .u8 fl, .int .i64 now] 47)).alloc (.cells #[.int .u8 r, .int .u32 a, .int .u16 p, .int .u32 b, .int .u16 q, .int .u8 r2, .int .u32 a2, .int .u16 p2, .int .u32 b2, .int .u16 q2, .int .i64 st, .int .i64 dl, .slice ad n c, .int .u8 r3, .int .u32 a3, .int .u16 p3, .int .u32 b3, .int .u16 q3, .int .u8 r4, .int .u32 a4, .int .u16 p4, .int .u32 b4, .int .u16 q4, .int .i64 st2, .int .i64 dl2, .slice ad2 m c2] 31)) := ((((Fp.refl _ _).alloc _).alloc _).alloc _).alloc _
  have h4 : ((((w.alloc (.cells #[.int .u8 r, .int .u32 a, .int .u16 p, .int .u32 b, .int .u16 q, .int .u8 r2, .int .u32 a2, .int .u16 p2, .int .u32 b2, .int .u16 q2, .int .i64 st, .int .i64 dl, .slice ad n c] 31)).alloc (.cells #[.int .u8 r3, .int .u32 a3, .int .u16 p3, .int .u32 b3, .int .u16 q3, .int .u8 r4, .int .u32 a4, .int .u16 p4, .int .u32 b4, .int .u16 q4, .int .i64 st2, .int .i64 dl2, .slice ad2 m c2] 31)).alloc (.cells #[.int .u8 r7, .int .u32 a7, .int .u16 p7, .int .u32 b7, .int .u16 q7, .bool bk, .int .u8 fl, .int .i64 now] 47)).alloc (.cells #[.int .u8 r, .int .u32 a, .int .u16 p, .int .u32 b, .int .u16 q, .int .u8 r2, .int .u32 a2, .int .u16 p2, .int .u32 b2, .int .u16 q2, .int .i64 st, .int .i64 dl, .slice ad n c, .int .u8 r3, .int .u32 a3, .int .u16 p3, .int .u32 b3, .int .u16 q3, .int .u8 r4, .int .u32 a4, .int .u16 p4, .int .u32 b4, .int .u16 q4, .int .i64 st2, .int .i64 dl2, .slice ad2 m c2] 31)).heap[w.heap.size + 1 + 1 + 1]? = some (.cells #[.int .u8 r, .int .u32 a, .int .u16 p, .int .u32 b, .int .u16 q, .int .u8 r2, .int .u32 a2, .int .u16 p2, .int .u32 b2, .int .u16 q2, .int .i64 st, .int .i64 dl, .slice ad n c, .int .u8 r3, .int .u32 a3, .int .u16 p3, .int .u32 b3, .int .u16 q3, .int .u8 r4, .int .u32 a4, .int .u16 p4, .int .u32 b4, .int .u16 q4, .int .i64 st2, .int .i64 dl2, .slice ad2 m c2] 31) := by simpa using heap_alloc_new (((w.alloc (.cells #[.int .u8 r, .int .u32 a, .int .u16 p, .int .u32 b, .int .u16 q, .int .u8 r2, .int .u32 a2, .int .u16 p2, .int .u32 b2, .int .u16 q2, .int .i64 st, .int .i64 dl, .slice ad n c] 31)).alloc (.cells #[.int .u8 r3, .int .u32 a3, .int .u16 p3, .int .u32 b3, .int .u16 q3, .int .u8 r4, .int .u32 a4, .int .u16 p4, .int .u32 b4, .int .u16 q4, .int .i64 st2, .int .i64 dl2, .slice ad2 m c2] 31)).alloc (.cells #[.int .u8 r7, .int .u32 a7, .int .u16 p7, .int .u32 b7, .int .u16 q7, .bool bk, .int .u8 fl, .int .i64 now] 47)) (.cells #[.int .u8 r, .int .u32 a, .int .u16 p, .int .u32 b, .int .u16 q, .int .u8 r2, .int .u32 a2, .int .u16 p2, .int .u32 b2, .int .u16 q2, .int .i64 st, .int .i64 dl, .slice ad n c, .int .u8 r3, .int .u32 a3, .int .u16 p3, .int .u32 b3, .int .u16 q3, .int .u8 r4, .int .u32 a4, .int .u16 p4, .int .u32 b4, .int .u16 q4, .int .i64 st2, .int .i64 dl2, .slice ad2 m c2] 31)
  have hq4 : NoW (((w.alloc (.cells #[.int .u8 r, .int .u32 a, .int .u16 p, .int .u32 b, .int .u16 q, .int .u8 r2, .int .u32 a2, .int .u16 p2, .int .u32 b2, .int .u16 q2, .int .i64 st, .int .i64 dl, .slice ad n c] 31)).alloc (.cells #[.int .u8 r3, .int .u32 a3, .int .u16 p3, .int .u32 b3, .int .u16 q3, .int .u8 r4, .int .u32 a4, .int .u16 p4, .int .u32 b4, .int .u16 q4, .int .i64 st2, .int .i64 dl2, .slice ad2 m c2] 31)).alloc (.cells #[.int .u8 r7, .int .u32 a7, .int .u16 p7, .int .u32 b7, .int .u16 q7, .bool bk, .int .u8 fl, .int .i64 now] 47)) ((((w.alloc (.cells #[.int .u8 r, .int .u32 a, .int .u16 p, .int .u32 b, .int .u16 q, .int .u8 r2, .int .u32 a2, .int .u16 p2, .int .u32 b2, .int .u16 q2, .int .i64 st, .int .i64 dl, .slice ad n c] 31)).alloc (.cells #[.int .u8 r3, .int .u32 a3, .int .u16 p3, .int .u32 b3, .int .u16 q3, .int .u8 r4, .int .u32 a4, .int .u16 p4, .int .u32 b4, .int .u16 q4, .int .i64 st2, .int .i64 dl2, .slice ad2 m c2] 31)).alloc (.cells #[.int .u8 r7, .int .u32 a7, .int .u16 p7, .int .u32 b7, .int .u16 q7, .bool bk, .int .u8 fl, .int .i64 now] 47)).alloc (.cells #[.int .u8 r, .int .u32 a, .int .u16 p, .int .u32 b, .int .u16 q, .int .u8 r2, .int .u32 a2, .int .u16 p2, .int .u32 b2, .int .u16 q2, .int .i64 st, .int .i64 dl, .slice ad n c, .int .u8 r3, .int .u32 a3, .int .u16 p3, .int .u32 b3, .int .u16 q3, .int .u8 r4, .int .u32 a4, .int .u16 p4, .int .u32 b4, .int .u16 q4, .int .i64 st2, .int .i64 dl2, .slice ad2 m c2] 31)) := (Fp.refl _ _).alloc _
  have h3' : (((w.alloc (.cells #[.int .u8 r, .int .u32 a, .int .u16 p, .int .u32 b, .int .u16 q, .int .u8 r2, .int .u32 a2, .int .u16 p2, .int .u32 b2, .int .u16 q2, .int .i64 st, .int .i64 dl, .slice ad n c] 31)).alloc (.cells #[.int .u8 r3, .int .u32 a3, .int .u16 p3, .int .u32 b3, .int .u16 q3, .int .u8 r4, .int .u32 a4, .int .u16 p4, .int .u32 b4, .int .u16 q4, .int .i64 st2, .int .i64 dl2, .slice ad2 m c2] 31)).alloc (.cells #[.int .u8 r7, .int .u32 a7, .int .u16 p7, .int .u32 b7, .int .u16 q7, .bool bk, .int .u8 fl, .int .i64 now] 47)).heap[w.heap.size + 1 + 1]? = some (.cells #[.int .u8 r7, .int .u32 a7, .int .u16 p7, .int .u32 b7, .int .u16 q7, .bool bk, .int .u8 fl, .int .i64 now] 47) := by simpa using heap_alloc_new ((w.alloc (.cells #[.int .u8 r, .int .u32 a, .int .u16 p, .int .u32 b, .int .u16 q, .int .u8 r2, .int .u32 a2, .int .u16 p2, .int .u32 b2, .int .u16 q2, .int .i64 st, .int .i64 dl, .slice ad n c] 31)).alloc (.cells #[.int .u8 r3, .int .u32 a3, .int .u16 p3, .int .u32 b3, .int .u16 q3, .int .u8 r4, .int .u32 a4, .int .u16 p4, .int .u32 b4, .int .u16 q4, .int .i64 st2, .int .i64 dl2, .slice ad2 m c2] 31)) (.cells #[.int .u8 r7, .int .u32 a7, .int .u16 p7, .int .u32 b7, .int .u16 q7, .bool bk, .int .u8 fl, .int .i64 now] 47)
  obtain ⟨h1', h2'⟩ := box2 w (.cells #[.int .u8 r, .int .u32 a, .int .u16 p, .int .u32 b, .int .u16 q, .int .u8 r2, .int .u32 a2, .int .u16 p2, .int .u32 b2, .int .u16 q2, .int .i64 st, .int .i64 dl, .slice ad n c] 31) (.cells #[.int .u8 r3, .int .u32 a3, .int .u16 p3, .int .u32 b3, .int .u16 q3, .int .u8 r4, .int .u32 a4, .int .u16 p4, .int .u32 b4, .int .u16 q4, .int .i64 st2, .int .i64 dl2, .slice ad2 m c2] 31)
  have hq3 : NoW ((w.alloc (.cells #[.int .u8 r, .int .u32 a, .int .u16 p, .int .u32 b, .int .u16 q, .int .u8 r2, .int .u32 a2, .int .u16 p2, .int .u32 b2, .int .u16 q2, .int .i64 st, .int .i64 dl, .slice ad n c] 31)).alloc (.cells #[.int .u8 r3, .int .u32 a3, .int .u16 p3, .int .u32 b3, .int .u16 q3, .int .u8 r4, .int .u32 a4, .int .u16 p4, .int .u32 b4, .int .u16 q4, .int .i64 st2, .int .i64 dl2, .slice ad2 m c2] 31)) (((w.alloc (.cells #[.int .u8 r, .int .u32 a, .int .u16 p, .int .u32 b, .int .u16 q, .int .u8 r2, .int .u32 a2, .int .u16 p2, .int .u32 b2, .int .u16 q2, .int .i64 st, .int .i64 dl, .slice ad n c] 31)).alloc (.cells #[.int .u8 r3, .int .u32 a3, .int .u16 p3, .int .u32 b3, .int .u16 q3, .int .u8 r4, .int .u32 a4, .int .u16 p4, .int .u32 b4, .int .u16 q4, .int .i64 st2, .int .i64 dl2, .slice ad2 m c2] 31)).alloc (.cells #[.int .u8 r7, .int .u32 a7, .int .u16 p7, .int .u32 b7, .int .u16 q7, .bool bk, .int .u8 fl, .int .i64 now] 47)) := (Fp.refl _ _).alloc _
  have h3 := (hq4.block _ (Array.getElem?_eq_some_iff.1 h3').1 id).trans h3'
  have hq := hq3.trans hq4 (fun _ _ h => h)
  have h1 := (hq.block _ (Array.getElem?_eq_some_iff.1 h1').1 id).trans h1'
  have h2 := (hq.block _ (Array.getElem?_eq_some_iff.1 h2').1 id).trans h2'
  clear hq hq3 hq4 h1' h2' h3'
  generalize ((((w.alloc (.cells #[.int .u8 r, .int .u32 a, .int .u16 p, .int .u32 b, .int .u16 q, .int .u8 r2, .int .u32 a2, .int .u16 p2, .int .u32 b2, .int .u16 q2, .int .i64 st, .int .i64 dl, .slice ad n c] 31)).alloc (.cells #[.int .u8 r3, .int .u32 a3, .int .u16 p3, .int .u32 b3, .int .u16 q3, .int .u8 r4, .int .u32 a4, .int .u16 p4, .int .u32 b4, .int .u16 q4, .int .i64 st2, .int .i64 dl2, .slice ad2 m c2] 31)).alloc (.cells #[.int .u8 r7, .int .u32 a7, .int .u16 p7, .int .u32 b7, .int .u16 q7, .bool bk, .int .u8 fl, .int .i64 now] 47)).alloc (.cells #[.int .u8 r, .int .u32 a, .int .u16 p, .int .u32 b, .int .u16 q, .int .u8 r2, .int .u32 a2, .int .u16 p2, .int .u32 b2, .int .u16 q2, .int .i64 st, .int .i64 dl, .slice ad n c, .int .u8 r3, .int .u32 a3, .int .u16 p3, .int .u32 b3, .int .u16 q3, .int .u8 r4, .int .u32 a4, .int .u16 p4, .int .u32 b4, .int .u16 q4, .int .i64 st2, .int .i64 dl2, .slice ad2 m c2] 31)) = w0 at *
  generalize w.heap.size + 1 + 1 + 1 = gBL at *
  generalize w.heap.size + 1 + 1 = gBP at *
  generalize w.heap.size + 1 = gBY at *
  generalize w.heap.size = gBX at *
  have BX := Lib.hid h1
  have BY := Lib.hid h2
  have BP := Lib.hid h3
  have Hn0 := Lib.hid hw0
  have hlc : ∀ i, i < 2 → ∃ b o, (some ⟨gBL, 0, none⟩ : Option Addr) = some ⟨b, o, none⟩ ∧ w0.cell? ⟨b, o + i * 13 + 12, none⟩ = some (.slice ((fun i => if i = 0 then ad else ad2) i) ((fun i => if i = 0 then n else m) i) ((fun i => if i = 0 then c else c2) i)) ∧ (fun i => if i = 0 then n else m) i ≤ maxLen := by
    intro i hi
    have hi2 : i = 0 ∨ i = 1 := by omega
    rcases hi2 with rfl | rfl
    · exact ⟨gBL, 0, rfl, by simp [World.cell?, h4], hnm⟩
    · exact ⟨gBL, 0, rfl, by simp [World.cell?, h4], hmm⟩
  have kl := long_ok (some ⟨gBL, 0, none⟩) 2 2 (fun i => if i = 0 then n else m) (fun i => if i = 0 then c else c2) (fun i => if i = 0 then ad else ad2) 2 (by unfold maxLen; omega) (by omega) w0 hlc
  rw [hL] at kl
  clear h1 h2 h3 h4 hw0 hlc hnm hmm
  refine (kl).mono ?_
  rintro e v0 ⟨rfl, hp⟩
  have Hm0 := Lib.hid (Hn0.out.trans hp (fun _ _ h => h))
  have hb := (hp.block _ (Array.getElem?_eq_some_iff.1 BX.out).1 id).trans BX.out
  clear BX
  have BX := Lib.hid hb
  clear hb
  have hb := (hp.block _ (Array.getElem?_eq_some_iff.1 BY.out).1 id).trans BY.out
  clear BY
  have BY := Lib.hid hb
  clear hb
  have hb := (hp.block _ (Array.getElem?_eq_some_iff.1 BP.out).1 id).trans BP.out
  clear BP
  have BP := Lib.hid hb
  clear hb
  clear hp Hn0
  have cBX0 : v0.cell? ⟨gBX, 0, none⟩ = some (.int .u8 r) := by simp [World.cell?, BX.out]
  have cBX1 : v0.cell? ⟨gBX, 1, none⟩ = some (.int .u32 a) := by simp [World.cell?, BX.out]
  have cBX2 : v0.cell? ⟨gBX, 2, none⟩ = some (.int .u16 p) := by simp [World.cell?, BX.out]
  have cBX3 : v0.cell? ⟨gBX, 3, none⟩ = some (.int .u32 b) := by simp [World.cell?, BX.out]
  have cBX4 : v0.cell? ⟨gBX, 4, none⟩ = some (.int .u16 q) := by simp [World.cell?, BX.out]
  have cBX5 : v0.cell? ⟨gBX, 5, none⟩ = some (.int .u8 r2) := by simp [World.cell?, BX.out]
  have cBX6 : v0.cell? ⟨gBX, 6, none⟩ = some (.int .u32 a2) := by simp [World.cell?, BX.out]
  have cBX7 : v0.cell? ⟨gBX, 7, none⟩ = some (.int .u16 p2) := by simp [World.cell?, BX.out]
  have cBX8 : v0.cell? ⟨gBX, 8, none⟩ = some (.int .u32 b2) := by simp [World.cell?, BX.out]
  have cBX9 : v0.cell? ⟨gBX, 9, none⟩ = some (.int .u16 q2) := by simp [World.cell?, BX.out]
  have cBX10 : v0.cell? ⟨gBX, 10, none⟩ = some (.int .i64 st) := by simp [World.cell?, BX.out]
  have cBX11 : v0.cell? ⟨gBX, 11, none⟩ = some (.int .i64 dl) := by simp [World.cell?, BX.out]
  have cBX12 : v0.cell? ⟨gBX, 12, none⟩ = some (.slice ad n c) := by simp [World.cell?, BX.out]
  have lBX : gBX < v0.heap.size := cell_lt cBX0
  go_wp2_with fail
  clear cBX0 cBX1 cBX2 cBX3 cBX4 cBX5 cBX6 cBX7 cBX8 cBX9 cBX10 cBX11 cBX12 lBX
  refine (Kdx.out _ Hm0.out).mono ?_
  rintro e v1 ⟨o7, c7, rfl, hc7, hin, hp⟩
  have Hm1 := Lib.hid (Hm0.out.trans hp (fun _ _ h => h))
  have hb := (hp.block _ (Array.getElem?_eq_some_iff.1 BX.out).1 id).trans BX.out
  clear BX
  have BX := Lib.hid hb
  clear hb
  have hb := (hp.block _ (Array.getElem?_eq_some_iff.1 BY.out).1 id).trans BY.out
  clear BY
  have BY := Lib.hid hb
  clear hb
  have hb := (hp.block _ (Array.getElem?_eq_some_iff.1 BP.out).1 id).trans BP.out
  clear BP
  have BP := Lib.hid hb
  clear hb
  have Hin7 := Lib.hid hin
  clear hin hc7
  clear hp Hm0
  have cBX0 : v1.cell? ⟨gBX, 0, none⟩ = some (.int .u8 r) := by simp [World.cell?, BX.out]
  have cBX1 : v1.cell? ⟨gBX, 1, none⟩ = some (.int .u32 a) := by simp [World.cell?, BX.out]
  have cBX2 : v1.cell? ⟨gBX, 2, none⟩ = some (.int .u16 p) := by simp [World.cell?, BX.out]
  have cBX3 : v1.cell? ⟨gBX, 3, none⟩ = some (.int .u32 b) := by simp [World.cell?, BX.out]
  have cBX4 : v1.cell? ⟨gBX, 4, none⟩ = some (.int .u16 q) := by simp [World.cell?, BX.out]
  have cBX5 : v1.cell? ⟨gBX, 5, none⟩ = some (.int .u8 r2) := by simp [World.cell?, BX.out]
  have cBX6 : v1.cell? ⟨gBX, 6, none⟩ = some (.int .u32 a2) := by simp [World.cell?, BX.out]
  have cBX7 : v1.cell? ⟨gBX, 7, none⟩ = some (.int .u16 p2) := by simp [World.cell?, BX.out]
  have cBX8 : v1.cell? ⟨gBX, 8, none⟩ = some (.int .u32 b2) := by simp [World.cell?, BX.out]
  have cBX9 : v1.cell? ⟨gBX, 9, none⟩ = some (.int .u16 q2) := by simp [World.cell?, BX.out]
  have cBX10 : v1.cell? ⟨gBX, 10, none⟩ = some (.int .i64 st) := by simp [World.cell?, BX.out]
  have cBX11 : v1.cell? ⟨gBX, 11, none⟩ = some (.int .i64 dl) := by simp [World.cell?, BX.out]
  have cBX12 : v1.cell? ⟨gBX, 12, none⟩ = some (.slice ad n c) := by simp [World.cell?, BX.out]
  have lBX : gBX < v1.heap.size := cell_lt cBX0
  go_wp2_with fail
  clear cBX0 cBX1 cBX2 cBX3 cBX4 cBX5 cBX6 cBX7 cBX8 cBX9 cBX10 cBX11 cBX12 lBX
  have hq : NoW v1 (v1.alloc (.cells #[.int .u8 r, .int .u32 a, .int .u16 p, .int .u32 b, .int .u16 q, .int .u8 r2, .int .u32 a2, .int .u16 p2, .int .u32 b2, .int .u16 q2, .int .i64 st, .int .i64 dl, .slice o7 n c7] 50)) := (Fp.refl _ _).alloc _
  have Hq0 := Lib.hid (Hm1.out.trans hq (fun _ _ h => h))
  have hb := (hq.block _ (Array.getElem?_eq_some_iff.1 BX.out).1 id).trans BX.out
  clear BX
  have BX := Lib.hid hb
  clear hb
  have hb := (hq.block _ (Array.getElem?_eq_some_iff.1 BY.out).1 id).trans BY.out
  clear BY
  have BY := Lib.hid hb
  clear hb
  have hb := (hq.block _ (Array.getElem?_eq_some_iff.1 BP.out).1 id).trans BP.out
  clear BP
  have BP := Lib.hid hb
  clear hb
  have hb := Hin7.out.low hq
  clear Hin7
  have Hin7 := Lib.hid hb
  clear hb
  have hb : (v1.alloc (.cells #[.int .u8 r, .int .u32 a, .int .u16 p, .int .u32 b, .int .u16 q, .int .u8 r2, .int .u32 a2, .int .u16 p2, .int .u32 b2, .int .u16 q2, .int .i64 st, .int .i64 dl, .slice o7 n c7] 50)).heap[v1.heap.size]? = some (.cells #[.int .u8 r, .int .u32 a, .int .u16 p, .int .u32 b, .int .u16 q, .int .u8 r2, .int .u32 a2, .int .u16 p2, .int .u32 b2, .int .u16 q2, .int .i64 st, .int .i64 dl, .slice o7 n c7] 50) := by simpa using heap_alloc_new v1 (.cells #[.int .u8 r, .int .u32 a, .int .u16 p, .int .u32 b, .int .u16 q, .int .u8 r2, .int .u32 a2, .int .u16 p2, .int .u32 b2, .int .u16 q2, .int .i64 st, .int .i64 dl, .slice o7 n c7] 50)
  have B7 := Lib.hid hb
  clear hb hq Hm1
  generalize (v1.alloc (.cells #[.int .u8 r, .int .u32 a, .int .u16 p, .int .u32 b, .int .u16 q, .int .u8 r2, .int .u32 a2, .int .u16 p2, .int .u32 b2, .int .u16 q2, .int .i64 st, .int .i64 dl, .slice o7 n c7] 50)) = x0 at *
  generalize v1.heap.size = gB7 at *
  refine (Kck.out _ (Ht.out.low Hq0.out)).mono ?_
  rintro e v2 ⟨rfl, hp⟩
  have Hm2 := Lib.hid (Hq0.out.trans hp (fun _ _ h => h))
  have hb := (hp.block _ (Array.getElem?_eq_some_iff.1 BX.out).1 id).trans BX.out
  clear BX
  have BX := Lib.hid hb
  clear hb
  have hb := (hp.block _ (Array.getElem?_eq_some_iff.1 BY.out).1 id).trans BY.out
  clear BY
  have BY := Lib.hid hb
  clear hb
  have hb := (hp.block _ (Array.getElem?_eq_some_iff.1 BP.out).1 id).trans BP.out
  clear BP
  have BP := Lib.hid hb
  clear hb
  have hb := (hp.block _ (Array.getElem?_eq_some_iff.1 B7.out).1 id).trans B7.out
  clear B7
  have B7 := Lib.hid hb
  clear hb
  have hb := Hin7.out.low hp
  clear Hin7
  have Hin7 := Lib.hid hb
  clear hb
  clear hp Hq0
  have cBX0 : v2.cell? ⟨gBX, 0, none⟩ = some (.int .u8 r) := by simp [World.cell?, BX.out]
  have cBX1 : v2.cell? ⟨gBX, 1, none⟩ = some (.int .u32 a) := by simp [World.cell?, BX.out]
  have cBX2 : v2.cell? ⟨gBX, 2, none⟩ = some (.int .u16 p) := by simp [World.cell?, BX.out]
  have cBX3 : v2.cell? ⟨gBX, 3, none⟩ = some (.int .u32 b) := by simp [World.cell?, BX.out]
  have cBX4 : v2.cell? ⟨gBX, 4, none⟩ = some (.int .u16 q) := by simp [World.cell?, BX.out]
  have cBX5 : v2.cell? ⟨gBX, 5, none⟩ = some (.int .u8 r2) := by simp [World.cell?, BX.out]
  have cBX6 : v2.cell? ⟨gBX, 6, none⟩ = some (.int .u32 a2) := by simp [World.cell?, BX.out]
  have cBX7 : v2.cell? ⟨gBX, 7, none⟩ = some (.int .u16 p2) := by simp [World.cell?, BX.out]
  have cBX8 : v2.cell? ⟨gBX, 8, none⟩ = some (.int .u32 b2) := by simp [World.cell?, BX.out]
  have cBX9 : v2.cell? ⟨gBX, 9, none⟩ = some (.int .u16 q2) := by simp [World.cell?, BX.out]
  have cBX10 : v2.cell? ⟨gBX, 10, none⟩ = some (.int .i64 st) := by simp [World.cell?, BX.out]
  have cBX11 : v2.cell? ⟨gBX, 11, none⟩ = some (.int .i64 dl) := by simp [World.cell?, BX.out]
  have cBX12 : v2.cell? ⟨gBX, 12, none⟩ = some (.slice ad n c) := by simp [World.cell?, BX.out]
  have lBX : gBX < v2.heap.size := cell_lt cBX0
  have cBP0 : v2.cell? ⟨gBP, 0, none⟩ = some (.int .u8 r7) := by simp [World.cell?, BP.out]
  have cBP1 : v2.cell? ⟨gBP, 1, none⟩ = some (.int .u32 a7) := by simp [World.cell?, BP.out]
  have cBP2 : v2.cell? ⟨gBP, 2, none⟩ = some (.int .u16 p7) := by simp [World.cell?, BP.out]
  have cBP3 : v2.cell? ⟨gBP, 3, none⟩ = some (.int .u32 b7) := by simp [World.cell?, BP.out]
  have cBP4 : v2.cell? ⟨gBP, 4, none⟩ = some (.int .u16 q7) := by simp [World.cell?, BP.out]
  have cBP5 : v2.cell? ⟨gBP, 5, none⟩ = some (.bool bk) := by simp [World.cell?, BP.out]
  have cBP6 : v2.cell? ⟨gBP, 6, none⟩ = some (.int .u8 fl) := by simp [World.cell?, BP.out]
  have cBP7 : v2.cell? ⟨gBP, 7, none⟩ = some (.int .i64 now) := by simp [World.cell?, BP.out]
  have lBP : gBP < v2.heap.size := cell_lt cBP0
  go_wp2_with fail
  clear cBX0 cBX1 cBX2 cBX3 cBX4 cBX5 cBX6 cBX7 cBX8 cBX9 cBX10 cBX11 cBX12 lBX cBP0 cBP1 cBP2 cBP3 cBP4 cBP5 cBP6 cBP7 lBP
  refine (Km.out _).mono ?_
  rintro e v3 ⟨rfl, hp⟩
  have Hm3 := Lib.hid (Hm2.out.trans hp (fun _ _ h => h))
  have hb := (hp.block _ (Array.getElem?_eq_some_iff.1 BX.out).1 id).trans BX.out
  clear BX
  have BX := Lib.hid hb
  clear hb
  have hb := (hp.block _ (Array.getElem?_eq_some_iff.1 BY.out).1 id).trans BY.out
  clear BY
  have BY := Lib.hid hb
  clear hb
  have hb := (hp.block _ (Array.getElem?_eq_some_iff.1 BP.out).1 id).trans BP.out
  clear BP
  have BP := Lib.hid hb
  clear hb
  have hb := (hp.block _ (Array.getElem?_eq_some_iff.1 B7.out).1 id).trans B7.out
  clear B7
  have B7 := Lib.hid hb
  clear hb
  have hb := Hin7.out.low hp
  clear Hin7
  have Hin7 := Lib.hid hb
  clear hb
  clear hp Hm2
  have cB70 : v3.cell? ⟨gB7, 0, none⟩ = some (.int .u8 r) := by simp [World.cell?, B7.out]
  have cB71 : v3.cell? ⟨gB7, 1, none⟩ = some (.int .u32 a) := by simp [World.cell?, B7.out]
  have cB72 : v3.cell? ⟨gB7, 2, none⟩ = some (.int .u16 p) := by simp [World.cell?, B7.out]
  have cB73 : v3.cell? ⟨gB7, 3, none⟩ = some (.int .u32 b) := by simp [World.cell?, B7.out]
  have cB74 : v3.cell? ⟨gB7, 4, none⟩ = some (.int .u16 q) := by simp [World.cell?, B7.out]
  have cB75 : v3.cell? ⟨gB7, 5, none⟩ = some (.int .u8 r2) := by simp [World.cell?, B7.out]
  have cB76 : v3.cell? ⟨gB7, 6, none⟩ = some (.int .u32 a2) := by simp [World.cell?, B7.out]
  have cB77 : v3.cell? ⟨gB7, 7, none⟩ = some (.int .u16 p2) := by simp [World.cell?, B7.out]
  have cB78 : v3.cell? ⟨gB7, 8, none⟩ = some (.int .u32 b2) := by simp [World.cell?, B7.out]
  have cB79 : v3.cell? ⟨gB7, 9, none⟩ = some (.int .u16 q2) := by simp [World.cell?, B7.out]
  have cB710 : v3.cell? ⟨gB7, 10, none⟩ = some (.int .i64 st) := by simp [World.cell?, B7.out]
  have cB711 : v3.cell? ⟨gB7, 11, none⟩ = some (.int .i64 dl) := by simp [World.cell?, B7.out]
  have cB712 : v3.cell? ⟨gB7, 12, none⟩ = some (.slice o7 n c7) := by simp [World.cell?, B7.out]
  have lB7 : gB7 < v3.heap.size := cell_lt cB70
  have cBP0 : v3.cell? ⟨gBP, 0, none⟩ = some (.int .u8 r7) := by simp [World.cell?, BP.out]
  have cBP1 : v3.cell? ⟨gBP, 1, none⟩ = some (.int .u32 a7) := by simp [World.cell?, BP.out]
  have cBP2 : v3.cell? ⟨gBP, 2, none⟩ = some (.int .u16 p7) := by simp [World.cell?, BP.out]
  have cBP3 : v3.cell? ⟨gBP, 3, none⟩ = some (.int .u32 b7) := by simp [World.cell?, BP.out]
  have cBP4 : v3.cell? ⟨gBP, 4, none⟩ = some (.int .u16 q7) := by simp [World.cell?, BP.out]
  have cBP5 : v3.cell? ⟨gBP, 5, none⟩ = some (.bool bk) := by simp [World.cell?, BP.out]
  have cBP6 : v3.cell? ⟨gBP, 6, none⟩ = some (.int .u8 fl) := by simp [World.cell?, BP.out]
  have cBP7 : v3.cell? ⟨gBP, 7, none⟩ = some (.int .i64 now) := by simp [World.cell?, BP.out]
  have lBP : gBP < v3.heap.size := cell_lt cBP0
  go_wp2_with fail
  clear cB70 cB71 cB72 cB73 cB74 cB75 cB76 cB77 cB78 cB79 cB710 cB711 cB712 lB7 cBP0 cBP1 cBP2 cBP3 cBP4 cBP5 cBP6 cBP7 lBP
  refine (Krm.out _ o7 c7).mono ?_
  rintro e v4 ⟨rfl, hp⟩
  have Hm4 := Lib.hid (Hm3.out.trans hp (fun _ _ h => h))
  have hb := (hp.block _ (Array.getElem?_eq_some_iff.1 BX.out).1 id).trans BX.out
  clear BX
  have BX := Lib.hid hb
  clear hb
  have hb := (hp.block _ (Array.getElem?_eq_some_iff.1 BY.out).1 id).trans BY.out
  clear BY
  have BY := Lib.hid hb
  clear hb
  have hb := (hp.block _ (Array.getElem?_eq_some_iff.1 BP.out).1 id).trans BP.out
  clear BP
  have BP := Lib.hid hb
  clear hb
  have hb := (hp.block _ (Array.getElem?_eq_some_iff.1 B7.out).1 id).trans B7.out
  clear B7
  have B7 := Lib.hid hb
  clear hb
  have hb := Hin7.out.low hp
  clear Hin7
  have Hin7 := Lib.hid hb
  clear hb
  clear hp Hm3
  have cBX0 : v4.cell? ⟨gBX, 0, none⟩ = some (.int .u8 r) := by simp [World.cell?, BX.out]
  have cBX1 : v4.cell? ⟨gBX, 1, none⟩ = some (.int .u32 a) := by simp [World.cell?, BX.out]
  have cBX2 : v4.cell? ⟨gBX, 2, none⟩ = some (.int .u16 p) := by simp [World.cell?, BX.out]
  have cBX3 : v4.cell? ⟨gBX, 3, none⟩ = some (.int .u32 b) := by simp [World.cell?, BX.out]
  have cBX4 : v4.cell? ⟨gBX, 4, none⟩ = some (.int .u16 q) := by simp [World.cell?, BX.out]
  have cBX5 : v4.cell? ⟨gBX, 5, none⟩ = some (.int .u8 r2) := by simp [World.cell?, BX.out]
  have cBX6 : v4.cell? ⟨gBX, 6, none⟩ = some (.int .u32 a2) := by simp [World.cell?, BX.out]
  have cBX7 : v4.cell? ⟨gBX, 7, none⟩ = some (.int .u16 p2) := by simp [World.cell?, BX.out]
  have cBX8 : v4.cell? ⟨gBX, 8, none⟩ = some (.int .u32 b2) := by simp [World.cell?, BX.out]
  have cBX9 : v4.cell? ⟨gBX, 9, none⟩ = some (.int .u16 q2) := by simp [World.cell?, BX.out]
  have cBX10 : v4.cell? ⟨gBX, 10, none⟩ = some (.int .i64 st) := by simp [World.cell?, BX.out]
  have cBX11 : v4.cell? ⟨gBX, 11, none⟩ = some (.int .i64 dl) := by simp [World.cell?, BX.out]
  have cBX12 : v4.cell? ⟨gBX, 12, none⟩ = some (.slice ad n c) := by simp [World.cell?, BX.out]
  have lBX : gBX < v4.heap.size := cell_lt cBX0
  have cBP0 : v4.cell? ⟨gBP, 0, none⟩ = some (.int .u8 r7) := by simp [World.cell?, BP.out]
  have cBP1 : v4.cell? ⟨gBP, 1, none⟩ = some (.int .u32 a7) := by simp [World.cell?, BP.out]
  have cBP2 : v4.cell? ⟨gBP, 2, none⟩ = some (.int .u16 p7) := by simp [World.cell?, BP.out]
  have cBP3 : v4.cell? ⟨gBP, 3, none⟩ = some (.int .u32 b7) := by simp [World.cell?, BP.out]
  have cBP4 : v4.cell? ⟨gBP, 4, none⟩ = some (.int .u16 q7) := by simp [World.cell?, BP.out]
  have cBP5 : v4.cell? ⟨gBP, 5, none⟩ = some (.bool bk) := by simp [World.cell?, BP.out]
  have cBP6 : v4.cell? ⟨gBP, 6, none⟩ = some (.int .u8 fl) := by simp [World.cell?, BP.out]
  have cBP7 : v4.cell? ⟨gBP, 7, none⟩ = some (.int .i64 now) := by simp [World.cell?, BP.out]
  have lBP : gBP < v4.heap.size := cell_lt cBP0
  go_wp2_with fail
  clear cBX0 cBX1 cBX2 cBX3 cBX4 cBX5 cBX6 cBX7 cBX8 cBX9 cBX10 cBX11 cBX12 lBX cBP0 cBP1 cBP2 cBP3 cBP4 cBP5 cBP6 cBP7 lBP
  refine (Kt.out _ (Ht.out.low Hm4.out) Hm4.out).mono ?_
  rintro e v5 ⟨o13, c13, rfl, hin, hp⟩
  have Hm5 := Lib.hid (Hm4.out.trans hp (fun _ _ h => h))
  have hb := (hp.block _ (Array.getElem?_eq_some_iff.1 BX.out).1 id).trans BX.out
  clear BX
  have BX := Lib.hid hb
  clear hb
  have hb := (hp.block _ (Array.getElem?_eq_some_iff.1 BY.out).1 id).trans BY.out
  clear BY
  have BY := Lib.hid hb
  clear hb
  have hb := (hp.block _ (Array.getElem?_eq_some_iff.1 BP.out).1 id).trans BP.out
  clear BP
  have BP := Lib.hid hb
  clear hb
  have hb := (hp.block _ (Array.getElem?_eq_some_iff.1 B7.out).1 id).trans B7.out
  clear B7
  have B7 := Lib.hid hb
  clear hb
  have hb := Hin7.out.low hp
  clear Hin7
  have Hin7 := Lib.hid hb
  clear hb
  have Hin13 := Lib.hid hin
  clear hin
  clear hp Hm4
  have cB70 : v5.cell? ⟨gB7, 0, none⟩ = some (.int .u8 r) := by simp [World.cell?, B7.out]
  have cB71 : v5.cell? ⟨gB7, 1, none⟩ = some (.int .u32 a) := by simp [World.cell?, B7.out]
  have cB72 : v5.cell? ⟨gB7, 2, none⟩ = some (.int .u16 p) := by simp [World.cell?, B7.out]
  have cB73 : v5.cell? ⟨gB7, 3, none⟩ = some (.int .u32 b) := by simp [World.cell?, B7.out]
  have cB74 : v5.cell? ⟨gB7, 4, none⟩ = some (.int .u16 q) := by simp [World.cell?, B7.out]
  have cB75 : v5.cell? ⟨gB7, 5, none⟩ = some (.int .u8 r2) := by simp [World.cell?, B7.out]
  have cB76 : v5.cell? ⟨gB7, 6, none⟩ = some (.int .u32 a2) := by simp [World.cell?, B7.out]
  have cB77 : v5.cell? ⟨gB7, 7, none⟩ = some (.int .u16 p2) := by simp [World.cell?, B7.out]
  have cB78 : v5.cell? ⟨gB7, 8, none⟩ = some (.int .u32 b2) := by simp [World.cell?, B7.out]
  have cB79 : v5.cell? ⟨gB7, 9, none⟩ = some (.int .u16 q2) := by simp [World.cell?, B7.out]
  have cB710 : v5.cell? ⟨gB7, 10, none⟩ = some (.int .i64 st) := by simp [World.cell?, B7.out]
  have cB711 : v5.cell? ⟨gB7, 11, none⟩ = some (.int .i64 dl) := by simp [World.cell?, B7.out]
  have cB712 : v5.cell? ⟨gB7, 12, none⟩ = some (.slice o7 n c7) := by simp [World.cell?, B7.out]
  have lB7 : gB7 < v5.heap.size := cell_lt cB70
  have cBP0 : v5.cell? ⟨gBP, 0, none⟩ = some (.int .u8 r7) := by simp [World.cell?, BP.out]
  have cBP1 : v5.cell? ⟨gBP, 1, none⟩ = some (.int .u32 a7) := by simp [World.cell?, BP.out]
  have cBP2 : v5.cell? ⟨gBP, 2, none⟩ = some (.int .u16 p7) := by simp [World.cell?, BP.out]
  have cBP3 : v5.cell? ⟨gBP, 3, none⟩ = some (.int .u32 b7) := by simp [World.cell?, BP.out]
  have cBP4 : v5.cell? ⟨gBP, 4, none⟩ = some (.int .u16 q7) := by simp [World.cell?, BP.out]
  have cBP5 : v5.cell? ⟨gBP, 5, none⟩ = some (.bool bk) := by simp [World.cell?, BP.out]
  have cBP6 : v5.cell? ⟨gBP, 6, none⟩ = some (.int .u8 fl) := by simp [World.cell?, BP.out]
  have cBP7 : v5.cell? ⟨gBP, 7, none⟩ = some (.int .i64 now) := by simp [World.cell?, BP.out]
  have lBP : gBP < v5.heap.size := cell_lt cBP0
  go_wp2_with fail
  clear cB70 cB71 cB72 cB73 cB74 cB75 cB76 cB77 cB78 cB79 cB710 cB711 cB712 lB7 cBP0 cBP1 cBP2 cBP3 cBP4 cBP5 cBP6 cBP7 lBP
  have hq : NoW v5 (v5.alloc (.cells #[.int .u8 r5, .int .u32 a5, .int .u16 p5, .int .u32 b5, .int .u16 q5, .int .u8 r6, .int .u32 a6, .int .u16 p6, .int .u32 b6, .int .u16 q6, .int .i64 zst, .int .i64 zdl, .slice o13 zn c13] 31)) := (Fp.refl _ _).alloc _
  have Hq1 := Lib.hid (Hm5.out.trans hq (fun _ _ h => h))
  have hb := (hq.block _ (Array.getElem?_eq_some_iff.1 BX.out).1 id).trans BX.out
  clear BX
  have BX := Lib.hid hb
  clear hb
  have hb := (hq.block _ (Array.getElem?_eq_some_iff.1 BY.out).1 id).trans BY.out
  clear BY
  have BY := Lib.hid hb
  clear hb
  have hb := (hq.block _ (Array.getElem?_eq_some_iff.1 BP.out).1 id).trans BP.out
  clear BP
  have BP := Lib.hid hb
  clear hb
  have hb := (hq.block _ (Array.getElem?_eq_some_iff.1 B7.out).1 id).trans B7.out
  clear B7
  have B7 := Lib.hid hb
  clear hb
  have hb := Hin7.out.low hq
  clear Hin7
  have Hin7 := Lib.hid hb
  clear hb
  have hb := Hin13.out.low hq
  clear Hin13
  have Hin13 := Lib.hid hb
  clear hb
  have hb : (v5.alloc (.cells #[.int .u8 r5, .int .u32 a5, .int .u16 p5, .int .u32 b5, .int .u16 q5, .int .u8 r6, .int .u32 a6, .int .u16 p6, .int .u32 b6, .int .u16 q6, .int .i64 zst, .int .i64 zdl, .slice o13 zn c13] 31)).heap[v5.heap.size]? = some (.cells #[.int .u8 r5, .int .u32 a5, .int .u16 p5, .int .u32 b5, .int .u16 q5, .int .u8 r6, .int .u32 a6, .int .u16 p6, .int .u32 b6, .int .u16 q6, .int .i64 zst, .int .i64 zdl, .slice o13 zn c13] 31) := by simpa using heap_alloc_new v5 (.cells #[.int .u8 r5, .int .u32 a5, .int .u16 p5, .int .u32 b5, .int .u16 q5, .int .u8 r6, .int .u32 a6, .int .u16 p6, .int .u32 b6, .int .u16 q6, .int .i64 zst, .int .i64 zdl, .slice o13 zn c13] 31)
  have B13 := Lib.hid hb
  clear hb hq Hm5
  generalize (v5.alloc (.cells #[.int .u8 r5, .int .u32 a5, .int .u16 p5, .int .u32 b5, .int .u16 q5, .int .u8 r6, .int .u32 a6, .int .u16 p6, .int .u32 b6, .int .u16 q6, .int .i64 zst, .int .i64 zdl, .slice o13 zn c13] 31)) = x1 at *
  generalize v5.heap.size = gB13 at *
  refine (Krt.out _ o7 c7 (Ht.out.low Hq1.out) Hin7.out).mono ?_
  rintro e v6 ⟨o15, c15, rfl, hin, hp⟩
  have Hm6 := Lib.hid (Hq1.out.trans hp (fun _ _ h => h))
  have hb := (hp.block _ (Array.getElem?_eq_some_iff.1 BX.out).1 id).trans BX.out
  clear BX
  have BX := Lib.hid hb
  clear hb
  have hb := (hp.block _ (Array.getElem?_eq_some_iff.1 BY.out).1 id).trans BY.out
  clear BY
  have BY := Lib.hid hb
  clear hb
  have hb := (hp.block _ (Array.getElem?_eq_some_iff.1 BP.out).1 id).trans BP.out
  clear BP
  have BP := Lib.hid hb
  clear hb
  have hb := (hp.block _ (Array.getElem?_eq_some_iff.1 B7.out).1 id).trans B7.out
  clear B7
  have B7 := Lib.hid hb
  clear hb
  have hb := (hp.block _ (Array.getElem?_eq_some_iff.1 B13.out).1 id).trans B13.out
  clear B13
  have B13 := Lib.hid hb
  clear hb
  have hb := Hin7.out.low hp
  clear Hin7
  have Hin7 := Lib.hid hb
  clear hb
  have hb := Hin13.out.low hp
  clear Hin13
  have Hin13 := Lib.hid hb
  clear hb
  have Hin15 := Lib.hid hin
  clear hin
  clear hp Hq1
  go_wp2_with fail
  have hq : NoW v6 (v6.alloc (.cells #[.int .u8 r5, .int .u32 a5, .int .u16 p5, .int .u32 b5, .int .u16 q5, .int .u8 r6, .int .u32 a6, .int .u16 p6, .int .u32 b6, .int .u16 q6, .int .i64 zst, .int .i64 zdl, .slice o15 zn c15] 50)) := (Fp.refl _ _).alloc _
  have Hq2 := Lib.hid (Hm6.out.trans hq (fun _ _ h => h))
  have hb := (hq.block _ (Array.getElem?_eq_some_iff.1 BX.out).1 id).trans BX.out
  clear BX
  have BX := Lib.hid hb
  clear hb
  have hb := (hq.block _ (Array.getElem?_eq_some_iff.1 BY.out).1 id).trans BY.out
  clear BY
  have BY := Lib.hid hb
  clear hb
  have hb := (hq.block _ (Array.getElem?_eq_some_iff.1 BP.out).1 id).trans BP.out
  clear BP
  have BP := Lib.hid hb
  clear hb
  have hb := (hq.block _ (Array.getElem?_eq_some_iff.1 B7.out).1 id).trans B7.out
  clear B7
  have B7 := Lib.hid hb
  clear hb
  have hb := (hq.block _ (Array.getElem?_eq_some_iff.1 B13.out).1 id).trans B13.out
  clear B13
  have B13 := Lib.hid hb
  clear hb
  have hb := Hin7.out.low hq
  clear Hin7
  have Hin7 := Lib.hid hb
  clear hb
  have hb := Hin13.out.low hq
  clear Hin13
  have Hin13 := Lib.hid hb
  clear hb
  have hb := Hin15.out.low hq
  clear Hin15
  have Hin15 := Lib.hid hb
  clear hb
  have hb : (v6.alloc (.cells #[.int .u8 r5, .int .u32 a5, .int .u16 p5, .int .u32 b5, .int .u16 q5, .int .u8 r6, .int .u32 a6, .int .u16 p6, .int .u32 b6, .int .u16 q6, .int .i64 zst, .int .i64 zdl, .slice o15 zn c15] 50)).heap[v6.heap.size]? = some (.cells #[.int .u8 r5, .int .u32 a5, .int .u16 p5, .int .u32 b5, .int .u16 q5, .int .u8 r6, .int .u32 a6, .int .u16 p6, .int .u32 b6, .int .u16 q6, .int .i64 zst, .int .i64 zdl, .slice o15 zn c15] 50) := by simpa using heap_alloc_new v6 (.cells #[.int .u8 r5, .int .u32 a5, .int .u16 p5, .int .u32 b5, .int .u16 q5, .int .u8 r6, .int .u32 a6, .int .u16 p6, .int .u32 b6, .int .u16 q6, .int .i64 zst, .int .i64 zdl, .slice o15 zn c15] 50)
  have B15 := Lib.hid hb
  clear hb hq Hm6
  generalize (v6.alloc (.cells #[.int .u8 r5, .int .u32 a5, .int .u16 p5, .int .u32 b5, .int .u16 q5, .int .u8 r6, .int .u32 a6, .int .u16 p6, .int .u32 b6, .int .u16 q6, .int .i64 zst, .int .i64 zdl, .slice o15 zn c15] 50)) = x2 at *
  generalize v6.heap.size = gB15 at *
  have cBX0 : x2.cell? ⟨gBX, 0, none⟩ = some (.int .u8 r) := by simp [World.cell?, BX.out]
  have cBX1 : x2.cell? ⟨gBX, 1, none⟩ = some (.int .u32 a) := by simp [World.cell?, BX.out]
  have cBX2 : x2.cell? ⟨gBX, 2, none⟩ = some (.int .u16 p) := by simp [World.cell?, BX.out]
  have cBX3 : x2.cell? ⟨gBX, 3, none⟩ = some (.int .u32 b) := by simp [World.cell?, BX.out]
  have cBX4 : x2.cell? ⟨gBX, 4, none⟩ = some (.int .u16 q) := by simp [World.cell?, BX.out]
  have cBX5 : x2.cell? ⟨gBX, 5, none⟩ = some (.int .u8 r2) := by simp [World.cell?, BX.out]
  have cBX6 : x2.cell? ⟨gBX, 6, none⟩ = some (.int .u32 a2) := by simp [World.cell?, BX.out]
  have cBX7 : x2.cell? ⟨gBX, 7, none⟩ = some (.int .u16 p2) := by simp [World.cell?, BX.out]
  have cBX8 : x2.cell? ⟨gBX, 8, none⟩ = some (.int .u32 b2) := by simp [World.cell?, BX.out]
  have cBX9 : x2.cell? ⟨gBX, 9, none⟩ = some (.int .u16 q2) := by simp [World.cell?, BX.out]
  have cBX10 : x2.cell? ⟨gBX, 10, none⟩ = some (.int .i64 st) := by simp [World.cell?, BX.out]
  have cBX11 : x2.cell? ⟨gBX, 11, none⟩ = some (.int .i64 dl) := by simp [World.cell?, BX.out]
  have cBX12 : x2.cell? ⟨gBX, 12, none⟩ = some (.slice ad n c) := by simp [World.cell?, BX.out]
  have lBX : gBX < x2.heap.size := cell_lt cBX0
  have cBY0 : x2.cell? ⟨gBY, 0, none⟩ = some (.int .u8 r3) := by simp [World.cell?, BY.out]
  have cBY1 : x2.cell? ⟨gBY, 1, none⟩ = some (.int .u32 a3) := by simp [World.cell?, BY.out]
  have cBY2 : x2.cell? ⟨gBY, 2, none⟩ = some (.int .u16 p3) := by simp [World.cell?, BY.out]
  have cBY3 : x2.cell? ⟨gBY, 3, none⟩ = some (.int .u32 b3) := by simp [World.cell?, BY.out]
  have cBY4 : x2.cell? ⟨gBY, 4, none⟩ = some (.int .u16 q3) := by simp [World.cell?, BY.out]
  have cBY5 : x2.cell? ⟨gBY, 5, none⟩ = some (.int .u8 r4) := by simp [World.cell?, BY.out]
  have cBY6 : x2.cell? ⟨gBY, 6, none⟩ = some (.int .u32 a4) := by simp [World.cell?, BY.out]
  have cBY7 : x2.cell? ⟨gBY, 7, none⟩ = some (.int .u16 p4) := by simp [World.cell?, BY.out]
  have cBY8 : x2.cell? ⟨gBY, 8, none⟩ = some (.int .u32 b4) := by simp [World.cell?, BY.out]
  have cBY9 : x2.cell? ⟨gBY, 9, none⟩ = some (.int .u16 q4) := by simp [World.cell?, BY.out]
  have cBY10 : x2.cell? ⟨gBY, 10, none⟩ = some (.int .i64 st2) := by simp [World.cell?, BY.out]
  have cBY11 : x2.cell? ⟨gBY, 11, none⟩ = some (.int .i64 dl2) := by simp [World.cell?, BY.out]
  have cBY12 : x2.cell? ⟨gBY, 12, none⟩ = some (.slice ad2 m c2) := by simp [World.cell?, BY.out]
  have lBY : gBY < x2.heap.size := cell_lt cBY0
  have cBP0 : x2.cell? ⟨gBP, 0, none⟩ = some (.int .u8 r7) := by simp [World.cell?, BP.out]
  have cBP1 : x2.cell? ⟨gBP, 1, none⟩ = some (.int .u32 a7) := by simp [World.cell?, BP.out]
  have cBP2 : x2.cell? ⟨gBP, 2, none⟩ = some (.int .u16 p7) := by simp [World.cell?, BP.out]
  have cBP3 : x2.cell? ⟨gBP, 3, none⟩ = some (.int .u32 b7) := by simp [World.cell?, BP.out]
  have cBP4 : x2.cell? ⟨gBP, 4, none⟩ = some (.int .u16 q7) := by simp [World.cell?, BP.out]
  have cBP5 : x2.cell? ⟨gBP, 5, none⟩ = some (.bool bk) := by simp [World.cell?, BP.out]
  have cBP6 : x2.cell? ⟨gBP, 6, none⟩ = some (.int .u8 fl) := by simp [World.cell?, BP.out]
  have cBP7 : x2.cell? ⟨gBP, 7, none⟩ = some (.int .i64 now) := by simp [World.cell?, BP.out]
  have lBP : gBP < x2.heap.size := cell_lt cBP0
  have cB70 : x2.cell? ⟨gB7, 0, none⟩ = some (.int .u8 r) := by simp [World.cell?, B7.out]
  have cB71 : x2.cell? ⟨gB7, 1, none⟩ = some (.int .u32 a) := by simp [World.cell?, B7.out]
  have cB72 : x2.cell? ⟨gB7, 2, none⟩ = some (.int .u16 p) := by simp [World.cell?, B7.out]
  have cB73 : x2.cell? ⟨gB7, 3, none⟩ = some (.int .u32 b) := by simp [World.cell?, B7.out]
  have cB74 : x2.cell? ⟨gB7, 4, none⟩ = some (.int .u16 q) := by simp [World.cell?, B7.out]
  have cB75 : x2.cell? ⟨gB7, 5, none⟩ = some (.int .u8 r2) := by simp [World.cell?, B7.out]
  have cB76 : x2.cell? ⟨gB7, 6, none⟩ = some (.int .u32 a2) := by simp [World.cell?, B7.out]
  have cB77 : x2.cell? ⟨gB7, 7, none⟩ = some (.int .u16 p2) := by simp [World.cell?, B7.out]
  have cB78 : x2.cell? ⟨gB7, 8, none⟩ = some (.int .u32 b2) := by simp [World.cell?, B7.out]
  have cB79 : x2.cell? ⟨gB7, 9, none⟩ = some (.int .u16 q2) := by simp [World.cell?, B7.out]
  have cB710 : x2.cell? ⟨gB7, 10, none⟩ = some (.int .i64 st) := by simp [World.cell?, B7.out]
  have cB711 : x2.cell? ⟨gB7, 11, none⟩ = some (.int .i64 dl) := by simp [World.cell?, B7.out]
  have cB712 : x2.cell? ⟨gB7, 12, none⟩ = some (.slice o7 n c7) := by simp [World.cell?, B7.out]
  have lB7 : gB7 < x2.heap.size := cell_lt cB70
  have cB130 : x2.cell? ⟨gB13, 0, none⟩ = some (.int .u8 r5) := by simp [World.cell?, B13.out]
  have cB131 : x2.cell? ⟨gB13, 1, none⟩ = some (.int .u32 a5) := by simp [World.cell?, B13.out]
  have cB132 : x2.cell? ⟨gB13, 2, none⟩ = some (.int .u16 p5) := by simp [World.cell?, B13.out]
  have cB133 : x2.cell? ⟨gB13, 3, none⟩ = some (.int .u32 b5) := by simp [World.cell?, B13.out]
  have cB134 : x2.cell? ⟨gB13, 4, none⟩ = some (.int .u16 q5) := by simp [World.cell?, B13.out]
  have cB135 : x2.cell? ⟨gB13, 5, none⟩ = some (.int .u8 r6) := by simp [World.cell?, B13.out]
  have cB136 : x2.cell? ⟨gB13, 6, none⟩ = some (.int .u32 a6) := by simp [World.cell?, B13.out]
  have cB137 : x2.cell? ⟨gB13, 7, none⟩ = some (.int .u16 p6) := by simp [World.cell?, B13.out]
  have cB138 : x2.cell? ⟨gB13, 8, none⟩ = some (.int .u32 b6) := by simp [World.cell?, B13.out]
  have cB139 : x2.cell? ⟨gB13, 9, none⟩ = some (.int .u16 q6) := by simp [World.cell?, B13.out]
  have cB1310 : x2.cell? ⟨gB13, 10, none⟩ = some (.int .i64 zst) := by simp [World.cell?, B13.out]
  have cB1311 : x2.cell? ⟨gB13, 11, none⟩ = some (.int .i64 zdl) := by simp [World.cell?, B13.out]
  have cB1312 : x2.cell? ⟨gB13, 12, none⟩ = some (.slice o13 zn c13) := by simp [World.cell?, B13.out]
  have lB13 : gB13 < x2.heap.size := cell_lt cB130
  have cB150 : x2.cell? ⟨gB15, 0, none⟩ = some (.int .u8 r5) := by simp [World.cell?, B15.out]
  have cB151 : x2.cell? ⟨gB15, 1, none⟩ = some (.int .u32 a5) := by simp [World.cell?, B15.out]
  have cB152 : x2.cell? ⟨gB15, 2, none⟩ = some (.int .u16 p5) := by simp [World.cell?, B15.out]
  have cB153 : x2.cell? ⟨gB15, 3, none⟩ = some (.int .u32 b5) := by simp [World.cell?, B15.out]
  have cB154 : x2.cell? ⟨gB15, 4, none⟩ = some (.int .u16 q5) := by simp [World.cell?, B15.out]
  have cB155 : x2.cell? ⟨gB15, 5, none⟩ = some (.int .u8 r6) := by simp [World.cell?, B15.out]
  have cB156 : x2.cell? ⟨gB15, 6, none⟩ = some (.int .u32 a6) := by simp [World.cell?, B15.out]
  have cB157 : x2.cell? ⟨gB15, 7, none⟩ = some (.int .u16 p6) := by simp [World.cell?, B15.out]
  have cB158 : x2.cell? ⟨gB15, 8, none⟩ = some (.int .u32 b6) := by simp [World.cell?, B15.out]
  have cB159 : x2.cell? ⟨gB15, 9, none⟩ = some (.int .u16 q6) := by simp [World.cell?, B15.out]
  have cB1510 : x2.cell? ⟨gB15, 10, none⟩ = some (.int .i64 zst) := by simp [World.cell?, B15.out]
  have cB1511 : x2.cell? ⟨gB15, 11, none⟩ = some (.int .i64 zdl) := by simp [World.cell?, B15.out]
  have cB1512 : x2.cell? ⟨gB15, 12, none⟩ = some (.slice o15 zn c15) := by simp [World.cell?, B15.out]
  have lB15 : gB15 < x2.heap.size := cell_lt cB150
  refine wp_region_held_drew (S := fun wx => NoW x2 wx) (by kernel_rfl) (Fp.drew (Fp.refl _ _)) (fun hHeld => ?_)
  (refine take_at 0 (some 62) rfl rfl (by kernel_rfl) (by kernel_rfl) (by kernel_rfl) (fun _ _ _ h => h) (v := ?_) (by kernel_rfl) ?_ (by assumption) ?_; rotate_left; (focus (intro wS hSw; skip; go_simp; try with_reducible rfl)); (try simp only [Act.put, List.setIfInBounds_toArray, List.set_cons_zero, List.set_cons_succ]))
  (refine take_at 1 (some 63) rfl rfl (by kernel_rfl) (by kernel_rfl) (by kernel_rfl) (fun _ _ _ h => h) (v := ?_) (by kernel_rfl) ?_ (by assumption) ?_; rotate_left; (focus (intro wS hSw; skip; go_simp; try with_reducible rfl)); (try simp only [Act.put, List.setIfInBounds_toArray, List.set_cons_zero, List.set_cons_succ]))
  (refine take_at 2 (some 64) rfl rfl (by kernel_rfl) (by kernel_rfl) (by kernel_rfl) (fun _ _ _ h => h) (v := ?_) (by kernel_rfl) ?_ (by assumption) ?_; rotate_left; (focus (intro wS hSw; (have qB70 := (hSw.cell (p := ⟨gB7, 0, none⟩) lB7 id).trans cB70); (have qB71 := (hSw.cell (p := ⟨gB7, 1, none⟩) lB7 id).trans cB71); (have qB72 := (hSw.cell (p := ⟨gB7, 2, none⟩) lB7 id).trans cB72); (have qB73 := (hSw.cell (p := ⟨gB7, 3, none⟩) lB7 id).trans cB73); (have qB74 := (hSw.cell (p := ⟨gB7, 4, none⟩) lB7 id).trans cB74); (have qB75 := (hSw.cell (p := ⟨gB7, 5, none⟩) lB7 id).trans cB75); (have qB76 := (hSw.cell (p := ⟨gB7, 6, none⟩) lB7 id).trans cB76); (have qB77 := (hSw.cell (p := ⟨gB7, 7, none⟩) lB7 id).trans cB77); (have qB78 := (hSw.cell (p := ⟨gB7, 8, none⟩) lB7 id).trans cB78); (have qB79 := (hSw.cell (p := ⟨gB7, 9, none⟩) lB7 id).trans cB79); (have qB710 := (hSw.cell (p := ⟨gB7, 10, none⟩) lB7 id).trans cB710); (have qB711 := (hSw.cell (p := ⟨gB7, 11, none⟩) lB7 id).trans cB711); (have qB712 := (hSw.cell (p := ⟨gB7, 12, none⟩) lB7 id).trans cB712); go_simp; try with_reducible rfl)); (try simp only [Act.put, List.setIfInBounds_toArray, List.set_cons_zero, List.set_cons_succ]))
  refine wpAnyH_ready (rs := [3]) (by kernel_rfl) (by simp) ?_
  refine AllReadyH.cons rfl (fun K hK => ?_) AllReadyH.nil
  go_simp
  go_at_call 23
  refine (Kmay.out _ o7 c7).mono ?_
  rintro e u1 ⟨rfl, hp⟩
  have hn1 : NoW x2 u1 := Fp.trans hHeld hp (fun _ _ h => h)
  skip
  clear hp hHeld
  refine hK.out _ _ hn1 (fun hHeld => ?_)
  clear hK K
  try simp only [Act.put, List.setIfInBounds_toArray, List.set_cons_zero, List.set_cons_succ]
  (refine take_at 4 (some 66) rfl rfl (by kernel_rfl) (by kernel_rfl) (by kernel_rfl) (fun _ _ _ h => h) (v := ?_) (by kernel_rfl) ?_ (by assumption) ?_; rotate_left; (focus (intro wS hSw; skip; go_simp; try with_reducible rfl)); (try simp only [Act.put, List.setIfInBounds_toArray, List.set_cons_zero, List.set_cons_succ]))
  (refine take_at 5 (some 67) rfl rfl (by kernel_rfl) (by kernel_rfl) (by kernel_rfl) (fun _ _ _ h => h) (v := ?_) (by kernel_rfl) ?_ (by assumption) ?_; rotate_left; (focus (intro wS hSw; skip; go_simp; try with_reducible rfl)); (try simp only [Act.put, List.setIfInBounds_toArray, List.set_cons_zero, List.set_cons_succ]))
  (refine take_at 6 (some 68) rfl rfl (by kernel_rfl) (by kernel_rfl) (by kernel_rfl) (fun _ _ _ h => h) (v := ?_) (by kernel_rfl) ?_ (by assumption) ?_; rotate_left; (focus (intro wS hSw; skip; go_simp; try with_reducible rfl)); (try simp only [Act.put, List.setIfInBounds_toArray, List.set_cons_zero, List.set_cons_succ]))
  (refine take_at 7 (some 69) rfl rfl (by kernel_rfl) (by kernel_rfl) (by kernel_rfl) (fun _ _ _ h => h) (v := ?_) (by kernel_rfl) ?_ (by assumption) ?_; rotate_left; (focus (intro wS hSw; skip; go_simp; try with_reducible rfl)); (try simp only [Act.put, List.setIfInBounds_toArray, List.set_cons_zero, List.set_cons_succ]))
  (refine take_at 8 (some 70) rfl rfl (by kernel_rfl) (by kernel_rfl) (by kernel_rfl) (fun _ _ _ h => h) (v := ?_) (by kernel_rfl) ?_ (by assumption) ?_; rotate_left; (focus (intro wS hSw; skip; go_simp; try with_reducible rfl)); (try simp only [Act.put, List.setIfInBounds_toArray, List.set_cons_zero, List.set_cons_succ]))
  (refine drop_at 9 (some 71) rfl rfl (by kernel_rfl) (by kernel_rfl) (by kernel_rfl) (fun _ _ _ h => h) (by kernel_rfl) (by assumption) ?_; (try simp only [Act.put, List.setIfInBounds_toArray, List.set_cons_zero, List.set_cons_succ]))
  (refine drop_at 10 (some 72) rfl rfl (by kernel_rfl) (by kernel_rfl) (by kernel_rfl) (fun _ _ _ h => h) (by kernel_rfl) (by assumption) ?_; (try simp only [Act.put, List.setIfInBounds_toArray, List.set_cons_zero, List.set_cons_succ]))
  (refine take_at 11 (some 73) rfl rfl (by kernel_rfl) (by kernel_rfl) (by kernel_rfl) (fun _ _ _ h => h) (v := ?_) (by kernel_rfl) ?_ (by assumption) ?_; rotate_left; (focus (intro wS hSw; skip; go_simp; try with_reducible rfl)); (try simp only [Act.put, List.setIfInBounds_toArray, List.set_cons_zero, List.set_cons_succ]))
  (refine take_at 12 (some 74) rfl rfl (by kernel_rfl) (by kernel_rfl) (by kernel_rfl) (fun _ _ _ h => h) (v := ?_) (by kernel_rfl) ?_ (by assumption) ?_; rotate_left; (focus (intro wS hSw; skip; go_simp; try with_reducible rfl)); (try simp only [Act.put, List.setIfInBounds_toArray, List.set_cons_zero, List.set_cons_succ]))
  (refine take_at 13 (some 75) rfl rfl (by kernel_rfl) (by kernel_rfl) (by kernel_rfl) (fun _ _ _ h => h) (v := ?_) (by kernel_rfl) ?_ (by assumption) ?_; rotate_left; (focus (intro wS hSw; skip; go_simp; try with_reducible rfl)); (try simp only [Act.put, List.setIfInBounds_toArray, List.set_cons_zero, List.set_cons_succ]))
  (refine take_at 14 (some 76) rfl rfl (by kernel_rfl) (by kernel_rfl) (by kernel_rfl) (fun _ _ _ h => h) (v := ?_) (by kernel_rfl) ?_ (by assumption) ?_; rotate_left; (focus (intro wS hSw; (have qBX0 := (hSw.cell (p := ⟨gBX, 0, none⟩) lBX id).trans cBX0); (have qBX1 := (hSw.cell (p := ⟨gBX, 1, none⟩) lBX id).trans cBX1); (have qBX2 := (hSw.cell (p := ⟨gBX, 2, none⟩) lBX id).trans cBX2); (have qBX3 := (hSw.cell (p := ⟨gBX, 3, none⟩) lBX id).trans cBX3); (have qBX4 := (hSw.cell (p := ⟨gBX, 4, none⟩) lBX id).trans cBX4); (have qBX5 := (hSw.cell (p := ⟨gBX, 5, none⟩) lBX id).trans cBX5); (have qBX6 := (hSw.cell (p := ⟨gBX, 6, none⟩) lBX id).trans cBX6); (have qBX7 := (hSw.cell (p := ⟨gBX, 7, none⟩) lBX id).trans cBX7); (have qBX8 := (hSw.cell (p := ⟨gBX, 8, none⟩) lBX id).trans cBX8); (have qBX9 := (hSw.cell (p := ⟨gBX, 9, none⟩) lBX id).trans cBX9); (have qBX10 := (hSw.cell (p := ⟨gBX, 10, none⟩) lBX id).trans cBX10); (have qBX11 := (hSw.cell (p := ⟨gBX, 11, none⟩) lBX id).trans cBX11); (have qBX12 := (hSw.cell (p := ⟨gBX, 12, none⟩) lBX id).trans cBX12); go_simp; try with_reducible rfl)); (try simp only [Act.put, List.setIfInBounds_toArray, List.set_cons_zero, List.set_cons_succ]))
  (refine take_at 15 (some 77) rfl rfl (by kernel_rfl) (by kernel_rfl) (by kernel_rfl) (fun _ _ _ h => h) (v := ?_) (by kernel_rfl) ?_ (by assumption) ?_; rotate_left; (focus (intro wS hSw; skip; go_simp; try with_reducible rfl)); (try simp only [Act.put, List.setIfInBounds_toArray, List.set_cons_zero, List.set_cons_succ]))
  (refine take_at 16 (some 78) rfl rfl (by kernel_rfl) (by kernel_rfl) (by kernel_rfl) (fun _ _ _ h => h) (v := ?_) (by kernel_rfl) ?_ (by assumption) ?_; rotate_left; (focus (intro wS hSw; (have qBP7 := (hSw.cell (p := ⟨gBP, 7, none⟩) lBP id).trans cBP7); go_simp; try with_reducible rfl)); (try simp only [Act.put, List.setIfInBounds_toArray, List.set_cons_zero, List.set_cons_succ]))
  (refine take_at 18 (some 80) rfl rfl (by kernel_rfl) (by kernel_rfl) (by kernel_rfl) (fun _ _ _ h => h) (v := ?_) (by kernel_rfl) ?_ (by assumption) ?_; rotate_left; (focus (intro wS hSw; (have qB70 := (hSw.cell (p := ⟨gB7, 0, none⟩) lB7 id).trans cB70); (have qB71 := (hSw.cell (p := ⟨gB7, 1, none⟩) lB7 id).trans cB71); (have qB72 := (hSw.cell (p := ⟨gB7, 2, none⟩) lB7 id).trans cB72); (have qB73 := (hSw.cell (p := ⟨gB7, 3, none⟩) lB7 id).trans cB73); (have qB74 := (hSw.cell (p := ⟨gB7, 4, none⟩) lB7 id).trans cB74); (have qB75 := (hSw.cell (p := ⟨gB7, 5, none⟩) lB7 id).trans cB75); (have qB76 := (hSw.cell (p := ⟨gB7, 6, none⟩) lB7 id).trans cB76); (have qB77 := (hSw.cell (p := ⟨gB7, 7, none⟩) lB7 id).trans cB77); (have qB78 := (hSw.cell (p := ⟨gB7, 8, none⟩) lB7 id).trans cB78); (have qB79 := (hSw.cell (p := ⟨gB7, 9, none⟩) lB7 id).trans cB79); (have qB710 := (hSw.cell (p := ⟨gB7, 10, none⟩) lB7 id).trans cB710); (have qB711 := (hSw.cell (p := ⟨gB7, 11, none⟩) lB7 id).trans cB711); (have qB712 := (hSw.cell (p := ⟨gB7, 12, none⟩) lB7 id).trans cB712); go_simp; try with_reducible rfl)); (try simp only [Act.put, List.setIfInBounds_toArray, List.set_cons_zero, List.set_cons_succ]))
  (refine take_at 19 (some 81) rfl rfl (by kernel_rfl) (by kernel_rfl) (by kernel_rfl) (fun _ _ _ h => h) (v := ?_) (by kernel_rfl) ?_ (by assumption) ?_; rotate_left; (focus (intro wS hSw; skip; go_simp; try with_reducible rfl)); (try simp only [Act.put, List.setIfInBounds_toArray, List.set_cons_zero, List.set_cons_succ]))
  (refine take_at 20 (some 82) rfl rfl (by kernel_rfl) (by kernel_rfl) (by kernel_rfl) (fun _ _ _ h => h) (v := ?_) (by kernel_rfl) ?_ (by assumption) ?_; rotate_left; (focus (intro wS hSw; (have qBP7 := (hSw.cell (p := ⟨gBP, 7, none⟩) lBP id).trans cBP7); go_simp; try with_reducible rfl)); (try simp only [Act.put, List.setIfInBounds_toArray, List.set_cons_zero, List.set_cons_succ]))
  refine wpAnyH_ready (rs := [17]) (by kernel_rfl) (by simp) ?_
  refine AllReadyH.cons rfl (fun K hK => ?_) AllReadyH.nil
  go_simp
  go_at_call 14
  refine (Klv.out _).mono ?_
  rintro e u2 ⟨rfl, hp⟩
  have hn2 : NoW x2 u2 := Fp.trans hHeld hp (fun _ _ h => h)
  skip
  clear hp hHeld hn1
  refine hK.out _ _ hn2 (fun hHeld => ?_)
  clear hK K
  try simp only [Act.put, List.setIfInBounds_toArray, List.set_cons_zero, List.set_cons_succ]
  refine wpAnyH_ready (rs := [21]) (by kernel_rfl) (by simp) ?_
  refine AllReadyH.cons rfl (fun K hK => ?_) AllReadyH.nil
  go_simp
  go_at_call 24
  refine (Krlv.out _ o7 c7).mono ?_
  rintro e u3 ⟨rfl, hp⟩
  have hn3 : NoW x2 u3 := Fp.trans hHeld hp (fun _ _ h => h)
  skip
  clear hp hHeld hn2
  refine hK.out _ _ hn3 (fun hHeld => ?_)
  clear hK K
  try simp only [Act.put, List.setIfInBounds_toArray, List.set_cons_zero, List.set_cons_succ]
  (refine take_at 22 (some 84) rfl rfl (by kernel_rfl) (by kernel_rfl) (by kernel_rfl) (fun _ _ _ h => h) (v := ?_) (by kernel_rfl) ?_ (by assumption) ?_; rotate_left; (focus (intro wS hSw; skip; go_simp; try with_reducible rfl)); (try simp only [Act.put, List.setIfInBounds_toArray, List.set_cons_zero, List.set_cons_succ]))
  (refine take_at 23 (some 85) rfl rfl (by kernel_rfl) (by kernel_rfl) (by kernel_rfl) (fun _ _ _ h => h) (v := ?_) (by kernel_rfl) ?_ (by assumption) ?_; rotate_left; (focus (intro wS hSw; skip; go_simp; try with_reducible rfl)); (try simp only [Act.put, List.setIfInBounds_toArray, List.set_cons_zero, List.set_cons_succ]))
  (refine take_at 24 (some 86) rfl rfl (by kernel_rfl) (by kernel_rfl) (by kernel_rfl) (fun _ _ _ h => h) (v := ?_) (by kernel_rfl) ?_ (by assumption) ?_; rotate_left; (focus (intro wS hSw; skip; go_simp; try with_reducible rfl)); (try simp only [Act.put, List.setIfInBounds_toArray, List.set_cons_zero, List.set_cons_succ]))
  (refine take_at 25 (some 87) rfl rfl (by kernel_rfl) (by kernel_rfl) (by kernel_rfl) (fun _ _ _ h => h) (v := ?_) (by kernel_rfl) ?_ (by assumption) ?_; rotate_left; (focus (intro wS hSw; skip; go_simp; try with_reducible rfl)); (try simp only [Act.put, List.setIfInBounds_toArray, List.set_cons_zero, List.set_cons_succ]))
  (refine take_at 26 (some 88) rfl rfl (by kernel_rfl) (by kernel_rfl) (by kernel_rfl) (fun _ _ _ h => h) (v := ?_) (by kernel_rfl) ?_ (by assumption) ?_; rotate_left; (focus (intro wS hSw; skip; go_simp; try with_reducible rfl)); (try simp only [Act.put, List.setIfInBounds_toArray, List.set_cons_zero, List.set_cons_succ]))
  (refine take_at 27 (some 89) rfl rfl (by kernel_rfl) (by kernel_rfl) (by kernel_rfl) (fun _ _ _ h => h) (v := ?_) (by kernel_rfl) ?_ (by assumption) ?_; rotate_left; (focus (intro wS hSw; skip; go_simp; try with_reducible rfl)); (try simp only [Act.put, List.setIfInBounds_toArray, List.set_cons_zero, List.set_cons_succ]))
  (refine take_at 28 (some 90) rfl rfl (by kernel_rfl) (by kernel_rfl) (by kernel_rfl) (fun _ _ _ h => h) (v := ?_) (by kernel_rfl) ?_ (by assumption) ?_; rotate_left; (focus (intro wS hSw; skip; go_simp; try with_reducible rfl)); (try simp only [Act.put, List.setIfInBounds_toArray, List.set_cons_zero, List.set_cons_succ]))
  (refine take_at 29 (some 91) rfl rfl (by kernel_rfl) (by kernel_rfl) (by kernel_rfl) (fun _ _ _ h => h) (v := ?_) (by kernel_rfl) ?_ (by assumption) ?_; rotate_left; (focus (intro wS hSw; skip; go_simp; try with_reducible rfl)); (try simp only [Act.put, List.setIfInBounds_toArray, List.set_cons_zero, List.set_cons_succ]))
  (refine take_at 30 (some 92) rfl rfl (by kernel_rfl) (by kernel_rfl) (by kernel_rfl) (fun _ _ _ h => h) (v := ?_) (by kernel_rfl) ?_ (by assumption) ?_; rotate_left; (focus (intro wS hSw; skip; go_simp; try with_reducible rfl)); (try simp only [Act.put, List.setIfInBounds_toArray, List.set_cons_zero, List.set_cons_succ]))
  (refine take_at 31 (some 93) rfl rfl (by kernel_rfl) (by kernel_rfl) (by kernel_rfl) (fun _ _ _ h => h) (v := ?_) (by kernel_rfl) ?_ (by assumption) ?_; rotate_left; (focus (intro wS hSw; skip; go_simp; try with_reducible rfl)); (try simp only [Act.put, List.setIfInBounds_toArray, List.set_cons_zero, List.set_cons_succ]))
  (refine take_at 32 (some 94) rfl rfl (by kernel_rfl) (by kernel_rfl) (by kernel_rfl) (fun _ _ _ h => h) (v := ?_) (by kernel_rfl) ?_ (by assumption) ?_; rotate_left; (focus (intro wS hSw; skip; go_simp; try with_reducible rfl)); (try simp only [Act.put, List.setIfInBounds_toArray, List.set_cons_zero, List.set_cons_succ]))
  (refine take_at 33 (some 95) rfl rfl (by kernel_rfl) (by kernel_rfl) (by kernel_rfl) (fun _ _ _ h => h) (v := ?_) (by kernel_rfl) ?_ (by assumption) ?_; rotate_left; (focus (intro wS hSw; skip; go_simp; try with_reducible rfl)); (try simp only [Act.put, List.setIfInBounds_toArray, List.set_cons_zero, List.set_cons_succ]))
  (refine take_at 34 (some 96) rfl rfl (by kernel_rfl) (by kernel_rfl) (by kernel_rfl) (fun _ _ _ h => h) (v := ?_) (by kernel_rfl) ?_ (by assumption) ?_; rotate_left; (focus (intro wS hSw; skip; go_simp; try with_reducible rfl)); (try simp only [Act.put, List.setIfInBounds_toArray, List.set_cons_zero, List.set_cons_succ]))
  (refine take_at 35 (some 97) rfl rfl (by kernel_rfl) (by kernel_rfl) (by kernel_rfl) (fun _ _ _ h => h) (v := ?_) (by kernel_rfl) ?_ (by assumption) ?_; rotate_left; (focus (intro wS hSw; skip; go_simp; try with_reducible rfl)); (try simp only [Act.put, List.setIfInBounds_toArray, List.set_cons_zero, List.set_cons_succ]))
  (refine take_at 36 (some 98) rfl rfl (by kernel_rfl) (by kernel_rfl) (by kernel_rfl) (fun _ _ _ h => h) (v := ?_) (by kernel_rfl) ?_ (by assumption) ?_; rotate_left; (focus (intro wS hSw; skip; go_simp; try with_reducible rfl)); (try simp only [Act.put, List.setIfInBounds_toArray, List.set_cons_zero, List.set_cons_succ]))
  (refine take_at 37 (some 99) rfl rfl (by kernel_rfl) (by kernel_rfl) (by kernel_rfl) (fun _ _ _ h => h) (v := ?_) (by kernel_rfl) ?_ (by assumption) ?_; rotate_left; (focus (intro wS hSw; skip; go_simp; try with_reducible rfl)); (try simp only [Act.put, List.setIfInBounds_toArray, List.set_cons_zero, List.set_cons_succ]))
  (refine take_at 38 (some 100) rfl rfl (by kernel_rfl) (by kernel_rfl) (by kernel_rfl) (fun _ _ _ h => h) (v := ?_) (by kernel_rfl) ?_ (by assumption) ?_; rotate_left; (focus (intro wS hSw; skip; go_simp; try with_reducible rfl)); (try simp only [Act.put, List.setIfInBounds_toArray, List.set_cons_zero, List.set_cons_succ]))
  (refine take_at 39 (some 101) rfl rfl (by kernel_rfl) (by kernel_rfl) (by kernel_rfl) (fun _ _ _ h => h) (v := ?_) (by kernel_rfl) ?_ (by assumption) ?_; rotate_left; (focus (intro wS hSw; skip; go_simp; try with_reducible rfl)); (try simp only [Act.put, List.setIfInBounds_toArray, List.set_cons_zero, List.set_cons_succ]))
  (refine take_at 40 (some 102) rfl rfl (by kernel_rfl) (by kernel_rfl) (by kernel_rfl) (fun _ _ _ h => h) (v := ?_) (by kernel_rfl) ?_ (by assumption) ?_; rotate_left; (focus (intro wS hSw; (have qB130 := (hSw.cell (p := ⟨gB13, 0, none⟩) lB13 id).trans cB130); (have qB131 := (hSw.cell (p := ⟨gB13, 1, none⟩) lB13 id).trans cB131); (have qB132 := (hSw.cell (p := ⟨gB13, 2, none⟩) lB13 id).trans cB132); (have qB133 := (hSw.cell (p := ⟨gB13, 3, none⟩) lB13 id).trans cB133); (have qB134 := (hSw.cell (p := ⟨gB13, 4, none⟩) lB13 id).trans cB134); (have qB135 := (hSw.cell (p := ⟨gB13, 5, none⟩) lB13 id).trans cB135); (have qB136 := (hSw.cell (p := ⟨gB13, 6, none⟩) lB13 id).trans cB136); (have qB137 := (hSw.cell (p := ⟨gB13, 7, none⟩) lB13 id).trans cB137); (have qB138 := (hSw.cell (p := ⟨gB13, 8, none⟩) lB13 id).trans cB138); (have qB139 := (hSw.cell (p := ⟨gB13, 9, none⟩) lB13 id).trans cB139); (have qB1310 := (hSw.cell (p := ⟨gB13, 10, none⟩) lB13 id).trans cB1310); (have qB1311 := (hSw.cell (p := ⟨gB13, 11, none⟩) lB13 id).trans cB1311); (have qB1312 := (hSw.cell (p := ⟨gB13, 12, none⟩) lB13 id).trans cB1312); go_simp; try with_reducible rfl)); (try simp only [Act.put, List.setIfInBounds_toArray, List.set_cons_zero, List.set_cons_succ]))
  (refine take_at 42 (some 104) rfl rfl (by kernel_rfl) (by kernel_rfl) (by kernel_rfl) (fun _ _ _ h => h) (v := ?_) (by kernel_rfl) ?_ (by assumption) ?_; rotate_left; (focus (intro wS hSw; (have qB150 := (hSw.cell (p := ⟨gB15, 0, none⟩) lB15 id).trans cB150); (have qB151 := (hSw.cell (p := ⟨gB15, 1, none⟩) lB15 id).trans cB151); (have qB152 := (hSw.cell (p := ⟨gB15, 2, none⟩) lB15 id).trans cB152); (have qB153 := (hSw.cell (p := ⟨gB15, 3, none⟩) lB15 id).trans cB153); (have qB154 := (hSw.cell (p := ⟨gB15, 4, none⟩) lB15 id).trans cB154); (have qB155 := (hSw.cell (p := ⟨gB15, 5, none⟩) lB15 id).trans cB155); (have qB156 := (hSw.cell (p := ⟨gB15, 6, none⟩) lB15 id).trans cB156); (have qB157 := (hSw.cell (p := ⟨gB15, 7, none⟩) lB15 id).trans cB157); (have qB158 := (hSw.cell (p := ⟨gB15, 8, none⟩) lB15 id).trans cB158); (have qB159 := (hSw.cell (p := ⟨gB15, 9, none⟩) lB15 id).trans cB159); (have qB1510 := (hSw.cell (p := ⟨gB15, 10, none⟩) lB15 id).trans cB1510); (have qB1511 := (hSw.cell (p := ⟨gB15, 11, none⟩) lB15 id).trans cB1511); (have qB1512 := (hSw.cell (p := ⟨gB15, 12, none⟩) lB15 id).trans cB1512); go_simp; try with_reducible rfl)); (try simp only [Act.put, List.setIfInBounds_toArray, List.set_cons_zero, List.set_cons_succ]))
  refine wpAnyH_ready (rs := [41]) (by kernel_rfl) (by simp) ?_
  refine AllReadyH.cons rfl (fun K hK => ?_) AllReadyH.nil
  go_simp
  go_at_call 18
  refine (Kdz.out _ o13 c13 (Hin13.out.low hHeld)).mono ?_
  rintro e u4 ⟨o16, o16c, rfl, hcx, hin, hp⟩
  have hn4 : NoW x2 u4 := Fp.trans hHeld hp (fun _ _ h => h)
  have HinD := Lib.hid hin
  clear hp hHeld hin hcx hn3
  refine hK.out _ _ hn4 (fun hHeld => ?_)
  clear hK K
  try simp only [Act.put, List.setIfInBounds_toArray, List.set_cons_zero, List.set_cons_succ]
  refine wpAnyH_ready (rs := [43]) (by kernel_rfl) (by simp) ?_
  refine AllReadyH.cons rfl (fun K hK => ?_) AllReadyH.nil
  go_simp
  go_at_call 25
  refine (Krs.out _ _ _ _ _ HinD.out (Hin15.out.low hHeld)).mono ?_
  rintro e u5 ⟨rfl, hp⟩
  have hn5 : NoW x2 u5 := Fp.trans hHeld hp (fun _ _ h => h)
  skip
  clear hp hHeld hn4
  refine hK.out _ _ hn5 (fun hHeld => ?_)
  clear hK K
  try simp only [Act.put, List.setIfInBounds_toArray, List.set_cons_zero, List.set_cons_succ]
  (refine take_at 44 (some 106) rfl rfl (by kernel_rfl) (by kernel_rfl) (by kernel_rfl) (fun _ _ _ h => h) (v := ?_) (by kernel_rfl) ?_ (by assumption) ?_; rotate_left; (focus (intro wS hSw; skip; go_simp; try with_reducible rfl)); (try simp only [Act.put, List.setIfInBounds_toArray, List.set_cons_zero, List.set_cons_succ]))
  (refine take_at 45 (some 107) rfl rfl (by kernel_rfl) (by kernel_rfl) (by kernel_rfl) (fun _ _ _ h => h) (v := ?_) (by kernel_rfl) ?_ (by assumption) ?_; rotate_left; (focus (intro wS hSw; skip; go_simp; try with_reducible rfl)); (try simp only [Act.put, List.setIfInBounds_toArray, List.set_cons_zero, List.set_cons_succ]))
  refine wpAnyH_done (by kernel_rfl) ?_ _
  clear HinD
  have Hin7b := Lib.hid (Hin7.out.low hHeld)
  have HU := Lib.hid (Hq2.out.trans hHeld (fun _ _ h => h))
  have hbBX := (hHeld.block _ (Array.getElem?_eq_some_iff.1 BX.out).1 id).trans BX.out
  have hbBY := (hHeld.block _ (Array.getElem?_eq_some_iff.1 BY.out).1 id).trans BY.out
  have hbBP := (hHeld.block _ (Array.getElem?_eq_some_iff.1 BP.out).1 id).trans BP.out
  have hbB7 := (hHeld.block _ (Array.getElem?_eq_some_iff.1 B7.out).1 id).trans B7.out
  clear hHeld cBX0 cBX1 cBX2 cBX3 cBX4 cBX5 cBX6 cBX7 cBX8 cBX9 cBX10 cBX11 cBX12 lBX cBY0 cBY1 cBY2 cBY3 cBY4 cBY5 cBY6 cBY7 cBY8 cBY9 cBY10 cBY11 cBY12 lBY cBP0 cBP1 cBP2 cBP3 cBP4 cBP5 cBP6 cBP7 lBP cB70 cB71 cB72 cB73 cB74 cB75 cB76 cB77 cB78 cB79 cB710 cB711 cB712 lB7 cB130 cB131 cB132 cB133 cB134 cB135 cB136 cB137 cB138 cB139 cB1310 cB1311 cB1312 lB13 cB150 cB151 cB152 cB153 cB154 cB155 cB156 cB157 cB158 cB159 cB1510 cB1511 cB1512 lB15
  go_wp2_with fail
  refine Code.wp_mono ?_ (tell11 (w := w) (W := u5) _ _ _ _ _ _ _ _ _ _ _ _ _ _ _ _ _ _ _ _ _ _ _ _ _ _ _ _ _ _ _ _ _ _ _ _ _ _ _ _ _ _ _ _ _ _ _ _ _ _ _ _ _ _ _ _ _ _ _ _ _ _ _ _ _ _ _ _ _ _ _ _ _ _ _ _ _ _ _ _ _ _ _ _ _ _ _ _ _ _ _ _ _ _ _ _ _ _ _ _ _ _ _ _ gBX gBY gBP gB7 r a p b q r2 a2 p2 b2 q2 r3 a3 p3 b3 q3 r4 a4 p4 b4 q4 r7 a7 p7 b7 q7 st dl st2 dl2 now ad ad2 o7 n c c7 m c2 fl oa op ia ip oa2 op2 ia2 ip2 bk sxy lxy ta tp tb tq ja jp jb jq Ht.out HU.out hbBX hbBY hbBP hbB7 Hin7b.out Ktn.out Krtn.out Kin.out Krin.out Ksxy.out Krsxy.out Ksxx.out Kle.out Krle.out Kdy.out)
  intro e ax W' hx
  cases e
  case normal =>
    obtain ⟨hd, h6, hW'⟩ := hx
    have HF := HU.out.trans hW' (fun _ _ h => h)
    refine (‹∀ (a : Act) (w_1 : World), Code.wp Tryd.prog Code.ret (bodyPost Tryd.prog Tryd.f5 (Ret1 (.bool true) w)) a w_1 → _› : _) ax W' ?_
    exact wp_ret ⟨hd, _, results_tmp (t := 6) rfl ax.tmps _ _, by simp [Array.getD_eq_getD_getElem?, h6], HF⟩
  all_goals exact hx.elim
end Go.Proofs.YtdmbjndhdldggaaDoor
