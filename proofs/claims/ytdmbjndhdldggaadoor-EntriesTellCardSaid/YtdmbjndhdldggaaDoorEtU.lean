/- Chapter 18: EntriesTell's walk (written by gentell18.py). -/
import Derived.Test.YtdmbjndhdldggaaDoorEtJ
import Derived.Test.YtdmbjndhdldggaaDoorEtK
import Derived.Test.YtdmbjndhdldggaaDoorEnM
import Derived.Test.YtdmbjndhdldggaaDoorEnP
namespace Go.Proofs.YtdmbjndhdldggaaDoor
set_option linter.unusedVariables false
set_option linter.unusedSimpArgs false
open Go.RowKit Go.Lib Go.Sort

def findRegion (n : Nat) : Code → Option Code
  | .region id ops d => if id = n then some (.region id ops d) else none
  | .seq a b => match findRegion n a with
    | some c => some c
    | none => findRegion n b
  | .cond _ a b => match findRegion n a with
    | some c => some c
    | none => findRegion n b
  | .block _ c => findRegion n c
  | .scope c => findRegion n c
  | .loop c => findRegion n c
  | _ => none
noncomputable def r11 : Code := ((Tryd.f5.body.bind (findRegion 11)).getD .skip)
set_option maxHeartbeats 20000000 in
set_option maxRecDepth 200000 in
theorem tell11 {w W : World} (cc0 cc1 cc2 cc6 cc8 cc9 cc10 cc11 cc12 cc13 cc14 cc15 cc16 cc17 cc18 cc19 cc20 cc21 cc22 cc23 cc24 cc25 cc26 cc27 cc28 cc29 cc30 cc31 cc32 cc33 cc34 cc35 cc36 cc37 cc38 cc39 cc40 cc41 cc42 cc43 cc44 cc45 cc46 cc47 cc48 cc49 cc50 cc51 cc52 cc53 cc54 cc55 cc56 cc57 cc58 cc59 cc60 cc61 cc62 cc63 cc64 cc65 cc66 cc67 cc68 cc69 cc70 cc71 cc72 cc73 cc74 cc75 cc76 cc77 cc78 cc79 cc80 cc81 cc82 cc83 cc84 cc85 cc86 cc87 cc88 cc89 cc90 cc91 cc92 cc93 cc94 cc95 cc96 cc97 cc98 cc99 cc100 cc101 cc102 cc103 cc104 cc105 cc106 cc107 : Value) (gBX gBY gBP gB7 : Nat) (r a p b q r2 a2 p2 b2 q2 r3 a3 p3 b3 q3 r4 a4 p4 b4 q4 r7 a7 p7 b7 q7 : Nat) (st dl st2 dl2 now : Int) (ad ad2 o7 : Option Addr) (n c c7 m c2 fl : Nat) (oa op ia ip oa2 op2 ia2 ip2 : Nat → Nat) (bk sxy lxy : Bool) (ta tp tb tq ja jp jb jq : Int) (ht : Tb w) (hU : NoW w W)
    (hbBX : W.heap[gBX]? = some (.cells #[.int .u8 r, .int .u32 a, .int .u16 p, .int .u32 b, .int .u16 q, .int .u8 r2, .int .u32 a2, .int .u16 p2, .int .u32 b2, .int .u16 q2, .int .i64 st, .int .i64 dl, .slice ad n c] 31)) (hbBY : W.heap[gBY]? = some (.cells #[.int .u8 r3, .int .u32 a3, .int .u16 p3, .int .u32 b3, .int .u16 q3, .int .u8 r4, .int .u32 a4, .int .u16 p4, .int .u32 b4, .int .u16 q4, .int .i64 st2, .int .i64 dl2, .slice ad2 m c2] 31)) (hbBP : W.heap[gBP]? = some (.cells #[.int .u8 r7, .int .u32 a7, .int .u16 p7, .int .u32 b7, .int .u16 q7, .bool bk, .int .u8 fl, .int .i64 now] 47)) (hbB7 : W.heap[gB7]? = some (.cells #[.int .u8 r, .int .u32 a, .int .u16 p, .int .u32 b, .int .u16 q, .int .u8 r2, .int .u32 a2, .int .u16 p2, .int .u32 b2, .int .u16 q2, .int .i64 st, .int .i64 dl, .slice o7 n c7] 50))
    (hin7 : HoldsIn W o7 n (holdsV oa op ia ip n))
    (ktn : ∀ W, Calls Tryd.prog 10 #[.agg #[.int .u8 r, .int .u32 a, .int .u16 p, .int .u32 b, .int .u16 q, .int .u8 r2, .int .u32 a2, .int .u16 p2, .int .u32 b2, .int .u16 q2, .int .i64 st, .int .i64 dl, .slice ad n c], .bool bk] W (Ret1 (.agg #[.int .u32 ta, .int .u16 tp, .int .u32 tb, .int .u16 tq]) W))
    (krtn : ∀ W o' c', Calls Tryd.prog 27 #[.agg #[.int .u8 r, .int .u32 a, .int .u16 p, .int .u32 b, .int .u16 q, .int .u8 r2, .int .u32 a2, .int .u16 p2, .int .u32 b2, .int .u16 q2, .int .i64 st, .int .i64 dl, .slice o' n c'], .bool bk] W (Ret1 (.agg #[.int .u32 ta, .int .u16 tp, .int .u32 tb, .int .u16 tq]) W))
    (kin : ∀ W, Calls Tryd.prog 12 #[.agg #[.int .u8 r, .int .u32 a, .int .u16 p, .int .u32 b, .int .u16 q, .int .u8 r2, .int .u32 a2, .int .u16 p2, .int .u32 b2, .int .u16 q2, .int .i64 st, .int .i64 dl, .slice ad n c], .bool bk] W (Ret1 (.agg #[.int .u32 ja, .int .u16 jp, .int .u32 jb, .int .u16 jq]) W))
    (krin : ∀ W o' c', Calls Tryd.prog 28 #[.agg #[.int .u8 r, .int .u32 a, .int .u16 p, .int .u32 b, .int .u16 q, .int .u8 r2, .int .u32 a2, .int .u16 p2, .int .u32 b2, .int .u16 q2, .int .i64 st, .int .i64 dl, .slice o' n c'], .bool bk] W (Ret1 (.agg #[.int .u32 ja, .int .u16 jp, .int .u32 jb, .int .u16 jq]) W))
    (ksxy : ∀ W, NoW w W → Calls Tryd.prog 29 #[.agg #[.int .u8 r, .int .u32 a, .int .u16 p, .int .u32 b, .int .u16 q, .int .u8 r2, .int .u32 a2, .int .u16 p2, .int .u32 b2, .int .u16 q2, .int .i64 st, .int .i64 dl, .slice ad n c], .agg #[.int .u8 r3, .int .u32 a3, .int .u16 p3, .int .u32 b3, .int .u16 q3, .int .u8 r4, .int .u32 a4, .int .u16 p4, .int .u32 b4, .int .u16 q4, .int .i64 st2, .int .i64 dl2, .slice ad2 m c2]] W (Ret1 (.bool sxy) W))
    (krsxy : ∀ W o1 c1 o2 c2, HoldsIn W o1 n (holdsV oa op ia ip n) → HoldsIn W o2 m (holdsV oa2 op2 ia2 ip2 m) → Calls Tryd.prog 25 #[.agg #[.int .u8 r, .int .u32 a, .int .u16 p, .int .u32 b, .int .u16 q, .int .u8 r2, .int .u32 a2, .int .u16 p2, .int .u32 b2, .int .u16 q2, .int .i64 st, .int .i64 dl, .slice o1 n c1], .agg #[.int .u8 r3, .int .u32 a3, .int .u16 p3, .int .u32 b3, .int .u16 q3, .int .u8 r4, .int .u32 a4, .int .u16 p4, .int .u32 b4, .int .u16 q4, .int .i64 st2, .int .i64 dl2, .slice o2 m c2]] W (Ret1 (.bool sxy) W))
    (ksxx : ∀ W, NoW w W → Calls Tryd.prog 29 #[.agg #[.int .u8 r, .int .u32 a, .int .u16 p, .int .u32 b, .int .u16 q, .int .u8 r2, .int .u32 a2, .int .u16 p2, .int .u32 b2, .int .u16 q2, .int .i64 st, .int .i64 dl, .slice ad n c], .agg #[.int .u8 r, .int .u32 a, .int .u16 p, .int .u32 b, .int .u16 q, .int .u8 r2, .int .u32 a2, .int .u16 p2, .int .u32 b2, .int .u16 q2, .int .i64 st, .int .i64 dl, .slice ad n c]] W (Ret1 (.bool true) W))
    (kle : ∀ W, Calls Tryd.prog 17 #[.agg #[.int .u8 r, .int .u32 a, .int .u16 p, .int .u32 b, .int .u16 q, .int .u8 r2, .int .u32 a2, .int .u16 p2, .int .u32 b2, .int .u16 q2, .int .i64 st, .int .i64 dl, .slice ad n c], .agg #[.int .u8 r3, .int .u32 a3, .int .u16 p3, .int .u32 b3, .int .u16 q3, .int .u8 r4, .int .u32 a4, .int .u16 p4, .int .u32 b4, .int .u16 q4, .int .i64 st2, .int .i64 dl2, .slice ad2 m c2]] W (Ret1 (.bool lxy) W))
    (krle : ∀ W o1 c1 o2 c2, Calls Tryd.prog 30 #[.agg #[.int .u8 r, .int .u32 a, .int .u16 p, .int .u32 b, .int .u16 q, .int .u8 r2, .int .u32 a2, .int .u16 p2, .int .u32 b2, .int .u16 q2, .int .i64 st, .int .i64 dl, .slice o1 n c1], .agg #[.int .u8 r3, .int .u32 a3, .int .u16 p3, .int .u32 b3, .int .u16 q3, .int .u8 r4, .int .u32 a4, .int .u16 p4, .int .u32 b4, .int .u16 q4, .int .i64 st2, .int .i64 dl2, .slice o2 m c2]] W (Ret1 (.bool lxy) W))
    (kdy : ∀ W, NoW w W → Calls Tryd.prog 18 #[.agg #[.int .u8 r3, .int .u32 a3, .int .u16 p3, .int .u32 b3, .int .u16 q3, .int .u8 r4, .int .u32 a4, .int .u16 p4, .int .u32 b4, .int .u16 q4, .int .i64 st2, .int .i64 dl2, .slice ad2 m c2]] W fun e w' => ∃ o' c', e = .returned (.agg #[.int .u8 r3, .int .u32 a3, .int .u16 p3, .int .u32 b3, .int .u16 q3, .int .u8 r4, .int .u32 a4, .int .u16 p4, .int .u32 b4, .int .u16 q4, .int .i64 st2, .int .i64 dl2, .slice o' m c']) ∧ m ≤ c' ∧ HoldsIn w' o' m (holdsV oa2 op2 ia2 ip2 m) ∧ NoW W w')
    :
    Code.wp Tryd.prog r11 (fun e a w' => match e with | .normal => a.defers = [] ∧ a.tmps[6]? = some (.bool true) ∧ NoW W w' | _ => False) ⟨#[cc0, cc1, cc2, .pointer (some ⟨gBX, 0, none⟩), .pointer (some ⟨gBY, 0, none⟩), .pointer (some ⟨gBP, 0, none⟩), cc6, .pointer (some ⟨gB7, 0, none⟩), cc8, cc9, cc10, cc11, cc12, cc13, cc14, cc15, cc16, cc17, cc18, cc19, cc20, cc21, cc22, cc23, cc24, cc25, cc26, cc27, cc28, cc29, cc30, cc31, cc32, cc33, cc34, cc35, cc36, cc37, cc38, cc39, cc40, cc41, cc42, cc43, cc44, cc45, cc46, cc47, cc48, cc49, cc50, cc51, cc52, cc53, cc54, cc55, cc56, cc57, cc58, cc59, cc60, cc61, cc62, cc63, cc64, cc65, cc66, cc67, cc68, cc69, cc70, cc71, cc72, cc73, cc74, cc75, cc76, cc77, cc78, cc79, cc80, cc81, cc82, cc83, cc84, cc85, cc86, cc87, cc88, cc89, cc90, cc91, cc92, cc93, cc94, cc95, cc96, cc97, cc98, cc99, cc100, cc101, cc102, cc103, cc104, cc105, cc106, cc107, undef, undef, undef, undef, undef, undef, undef, undef, undef, undef, undef, undef, undef, undef, undef, undef, undef, undef, undef, undef, undef, undef, undef, undef, undef, undef, undef, undef, undef, undef, undef, undef, undef, undef, undef, undef, undef, undef, undef, undef, undef, undef, undef, undef, undef, undef, undef, undef], []⟩ W := by
  have Ktn := Lib.hid ktn
  have Krtn := Lib.hid krtn
  have Kin := Lib.hid kin
  have Krin := Lib.hid krin
  have Ksxy := Lib.hid ksxy
  have Krsxy := Lib.hid krsxy
  have Ksxx := Lib.hid ksxx
  have Kle := Lib.hid kle
  have Krle := Lib.hid krle
  have Kdy := Lib.hid kdy
  have Ht := Lib.hid ht
  have HU := Lib.hid hU
  have Hin7b := Lib.hid hin7
  have kp := fun W (hW : Tb W) => passes18 W hW
  have Kp := Lib.hid kp
  clear ht hU hin7 kp ktn krtn kin krin ksxy krsxy ksxx kle krle kdy
  conv => arg 2; whnf
  have dBX0 : W.cell? ⟨gBX, 0, none⟩ = some (.int .u8 r) := by simp [World.cell?, hbBX]
  have dBX1 : W.cell? ⟨gBX, 1, none⟩ = some (.int .u32 a) := by simp [World.cell?, hbBX]
  have dBX2 : W.cell? ⟨gBX, 2, none⟩ = some (.int .u16 p) := by simp [World.cell?, hbBX]
  have dBX3 : W.cell? ⟨gBX, 3, none⟩ = some (.int .u32 b) := by simp [World.cell?, hbBX]
  have dBX4 : W.cell? ⟨gBX, 4, none⟩ = some (.int .u16 q) := by simp [World.cell?, hbBX]
  have dBX5 : W.cell? ⟨gBX, 5, none⟩ = some (.int .u8 r2) := by simp [World.cell?, hbBX]
  have dBX6 : W.cell? ⟨gBX, 6, none⟩ = some (.int .u32 a2) := by simp [World.cell?, hbBX]
  have dBX7 : W.cell? ⟨gBX, 7, none⟩ = some (.int .u16 p2) := by simp [World.cell?, hbBX]
  have dBX8 : W.cell? ⟨gBX, 8, none⟩ = some (.int .u32 b2) := by simp [World.cell?, hbBX]
  have dBX9 : W.cell? ⟨gBX, 9, none⟩ = some (.int .u16 q2) := by simp [World.cell?, hbBX]
  have dBX10 : W.cell? ⟨gBX, 10, none⟩ = some (.int .i64 st) := by simp [World.cell?, hbBX]
  have dBX11 : W.cell? ⟨gBX, 11, none⟩ = some (.int .i64 dl) := by simp [World.cell?, hbBX]
  have dBX12 : W.cell? ⟨gBX, 12, none⟩ = some (.slice ad n c) := by simp [World.cell?, hbBX]
  have ldBX : gBX < W.heap.size := cell_lt dBX0
  have dBY0 : W.cell? ⟨gBY, 0, none⟩ = some (.int .u8 r3) := by simp [World.cell?, hbBY]
  have dBY1 : W.cell? ⟨gBY, 1, none⟩ = some (.int .u32 a3) := by simp [World.cell?, hbBY]
  have dBY2 : W.cell? ⟨gBY, 2, none⟩ = some (.int .u16 p3) := by simp [World.cell?, hbBY]
  have dBY3 : W.cell? ⟨gBY, 3, none⟩ = some (.int .u32 b3) := by simp [World.cell?, hbBY]
  have dBY4 : W.cell? ⟨gBY, 4, none⟩ = some (.int .u16 q3) := by simp [World.cell?, hbBY]
  have dBY5 : W.cell? ⟨gBY, 5, none⟩ = some (.int .u8 r4) := by simp [World.cell?, hbBY]
  have dBY6 : W.cell? ⟨gBY, 6, none⟩ = some (.int .u32 a4) := by simp [World.cell?, hbBY]
  have dBY7 : W.cell? ⟨gBY, 7, none⟩ = some (.int .u16 p4) := by simp [World.cell?, hbBY]
  have dBY8 : W.cell? ⟨gBY, 8, none⟩ = some (.int .u32 b4) := by simp [World.cell?, hbBY]
  have dBY9 : W.cell? ⟨gBY, 9, none⟩ = some (.int .u16 q4) := by simp [World.cell?, hbBY]
  have dBY10 : W.cell? ⟨gBY, 10, none⟩ = some (.int .i64 st2) := by simp [World.cell?, hbBY]
  have dBY11 : W.cell? ⟨gBY, 11, none⟩ = some (.int .i64 dl2) := by simp [World.cell?, hbBY]
  have dBY12 : W.cell? ⟨gBY, 12, none⟩ = some (.slice ad2 m c2) := by simp [World.cell?, hbBY]
  have ldBY : gBY < W.heap.size := cell_lt dBY0
  have dBP0 : W.cell? ⟨gBP, 0, none⟩ = some (.int .u8 r7) := by simp [World.cell?, hbBP]
  have dBP1 : W.cell? ⟨gBP, 1, none⟩ = some (.int .u32 a7) := by simp [World.cell?, hbBP]
  have dBP2 : W.cell? ⟨gBP, 2, none⟩ = some (.int .u16 p7) := by simp [World.cell?, hbBP]
  have dBP3 : W.cell? ⟨gBP, 3, none⟩ = some (.int .u32 b7) := by simp [World.cell?, hbBP]
  have dBP4 : W.cell? ⟨gBP, 4, none⟩ = some (.int .u16 q7) := by simp [World.cell?, hbBP]
  have dBP5 : W.cell? ⟨gBP, 5, none⟩ = some (.bool bk) := by simp [World.cell?, hbBP]
  have dBP6 : W.cell? ⟨gBP, 6, none⟩ = some (.int .u8 fl) := by simp [World.cell?, hbBP]
  have dBP7 : W.cell? ⟨gBP, 7, none⟩ = some (.int .i64 now) := by simp [World.cell?, hbBP]
  have ldBP : gBP < W.heap.size := cell_lt dBP0
  have dB70 : W.cell? ⟨gB7, 0, none⟩ = some (.int .u8 r) := by simp [World.cell?, hbB7]
  have dB71 : W.cell? ⟨gB7, 1, none⟩ = some (.int .u32 a) := by simp [World.cell?, hbB7]
  have dB72 : W.cell? ⟨gB7, 2, none⟩ = some (.int .u16 p) := by simp [World.cell?, hbB7]
  have dB73 : W.cell? ⟨gB7, 3, none⟩ = some (.int .u32 b) := by simp [World.cell?, hbB7]
  have dB74 : W.cell? ⟨gB7, 4, none⟩ = some (.int .u16 q) := by simp [World.cell?, hbB7]
  have dB75 : W.cell? ⟨gB7, 5, none⟩ = some (.int .u8 r2) := by simp [World.cell?, hbB7]
  have dB76 : W.cell? ⟨gB7, 6, none⟩ = some (.int .u32 a2) := by simp [World.cell?, hbB7]
  have dB77 : W.cell? ⟨gB7, 7, none⟩ = some (.int .u16 p2) := by simp [World.cell?, hbB7]
  have dB78 : W.cell? ⟨gB7, 8, none⟩ = some (.int .u32 b2) := by simp [World.cell?, hbB7]
  have dB79 : W.cell? ⟨gB7, 9, none⟩ = some (.int .u16 q2) := by simp [World.cell?, hbB7]
  have dB710 : W.cell? ⟨gB7, 10, none⟩ = some (.int .i64 st) := by simp [World.cell?, hbB7]
  have dB711 : W.cell? ⟨gB7, 11, none⟩ = some (.int .i64 dl) := by simp [World.cell?, hbB7]
  have dB712 : W.cell? ⟨gB7, 12, none⟩ = some (.slice o7 n c7) := by simp [World.cell?, hbB7]
  have ldB7 : gB7 < W.heap.size := cell_lt dB70
  clear hbBX hbBY hbBP hbB7
  refine wp_region_held_drew (S := fun wx => NoW W wx) (by kernel_rfl) (Fp.drew (Fp.refl _ _)) (fun hHeld => ?_)
  (refine take_at 0 (some 108) rfl rfl (by kernel_rfl) (by kernel_rfl) (by kernel_rfl) (fun _ _ _ h => h) (v := ?_) (by kernel_rfl) ?_ (by assumption) ?_; rotate_left; (focus (intro wS hSw; (have qBX0 := (hSw.cell (p := ⟨gBX, 0, none⟩) ldBX id).trans dBX0); (have qBX1 := (hSw.cell (p := ⟨gBX, 1, none⟩) ldBX id).trans dBX1); (have qBX2 := (hSw.cell (p := ⟨gBX, 2, none⟩) ldBX id).trans dBX2); (have qBX3 := (hSw.cell (p := ⟨gBX, 3, none⟩) ldBX id).trans dBX3); (have qBX4 := (hSw.cell (p := ⟨gBX, 4, none⟩) ldBX id).trans dBX4); (have qBX5 := (hSw.cell (p := ⟨gBX, 5, none⟩) ldBX id).trans dBX5); (have qBX6 := (hSw.cell (p := ⟨gBX, 6, none⟩) ldBX id).trans dBX6); (have qBX7 := (hSw.cell (p := ⟨gBX, 7, none⟩) ldBX id).trans dBX7); (have qBX8 := (hSw.cell (p := ⟨gBX, 8, none⟩) ldBX id).trans dBX8); (have qBX9 := (hSw.cell (p := ⟨gBX, 9, none⟩) ldBX id).trans dBX9); (have qBX10 := (hSw.cell (p := ⟨gBX, 10, none⟩) ldBX id).trans dBX10); (have qBX11 := (hSw.cell (p := ⟨gBX, 11, none⟩) ldBX id).trans dBX11); (have qBX12 := (hSw.cell (p := ⟨gBX, 12, none⟩) ldBX id).trans dBX12); go_simp; try with_reducible rfl)); (try simp only [Act.put, List.setIfInBounds_toArray, List.set_cons_zero, List.set_cons_succ]))
  (refine take_at 1 (some 109) rfl rfl (by kernel_rfl) (by kernel_rfl) (by kernel_rfl) (fun _ _ _ h => h) (v := ?_) (by kernel_rfl) ?_ (by assumption) ?_; rotate_left; (focus (intro wS hSw; skip; go_simp; try with_reducible rfl)); (try simp only [Act.put, List.setIfInBounds_toArray, List.set_cons_zero, List.set_cons_succ]))
  (refine take_at 2 (some 110) rfl rfl (by kernel_rfl) (by kernel_rfl) (by kernel_rfl) (fun _ _ _ h => h) (v := ?_) (by kernel_rfl) ?_ (by assumption) ?_; rotate_left; (focus (intro wS hSw; (have qBP5 := (hSw.cell (p := ⟨gBP, 5, none⟩) ldBP id).trans dBP5); go_simp; try with_reducible rfl)); (try simp only [Act.put, List.setIfInBounds_toArray, List.set_cons_zero, List.set_cons_succ]))
  (refine take_at 4 (some 112) rfl rfl (by kernel_rfl) (by kernel_rfl) (by kernel_rfl) (fun _ _ _ h => h) (v := ?_) (by kernel_rfl) ?_ (by assumption) ?_; rotate_left; (focus (intro wS hSw; (have qB70 := (hSw.cell (p := ⟨gB7, 0, none⟩) ldB7 id).trans dB70); (have qB71 := (hSw.cell (p := ⟨gB7, 1, none⟩) ldB7 id).trans dB71); (have qB72 := (hSw.cell (p := ⟨gB7, 2, none⟩) ldB7 id).trans dB72); (have qB73 := (hSw.cell (p := ⟨gB7, 3, none⟩) ldB7 id).trans dB73); (have qB74 := (hSw.cell (p := ⟨gB7, 4, none⟩) ldB7 id).trans dB74); (have qB75 := (hSw.cell (p := ⟨gB7, 5, none⟩) ldB7 id).trans dB75); (have qB76 := (hSw.cell (p := ⟨gB7, 6, none⟩) ldB7 id).trans dB76); (have qB77 := (hSw.cell (p := ⟨gB7, 7, none⟩) ldB7 id).trans dB77); (have qB78 := (hSw.cell (p := ⟨gB7, 8, none⟩) ldB7 id).trans dB78); (have qB79 := (hSw.cell (p := ⟨gB7, 9, none⟩) ldB7 id).trans dB79); (have qB710 := (hSw.cell (p := ⟨gB7, 10, none⟩) ldB7 id).trans dB710); (have qB711 := (hSw.cell (p := ⟨gB7, 11, none⟩) ldB7 id).trans dB711); (have qB712 := (hSw.cell (p := ⟨gB7, 12, none⟩) ldB7 id).trans dB712); go_simp; try with_reducible rfl)); (try simp only [Act.put, List.setIfInBounds_toArray, List.set_cons_zero, List.set_cons_succ]))
  (refine take_at 5 (some 113) rfl rfl (by kernel_rfl) (by kernel_rfl) (by kernel_rfl) (fun _ _ _ h => h) (v := ?_) (by kernel_rfl) ?_ (by assumption) ?_; rotate_left; (focus (intro wS hSw; skip; go_simp; try with_reducible rfl)); (try simp only [Act.put, List.setIfInBounds_toArray, List.set_cons_zero, List.set_cons_succ]))
  (refine take_at 6 (some 114) rfl rfl (by kernel_rfl) (by kernel_rfl) (by kernel_rfl) (fun _ _ _ h => h) (v := ?_) (by kernel_rfl) ?_ (by assumption) ?_; rotate_left; (focus (intro wS hSw; (have qBP5 := (hSw.cell (p := ⟨gBP, 5, none⟩) ldBP id).trans dBP5); go_simp; try with_reducible rfl)); (try simp only [Act.put, List.setIfInBounds_toArray, List.set_cons_zero, List.set_cons_succ]))
  refine wpAnyH_ready (rs := [3]) (by kernel_rfl) (by simp) ?_
  refine AllReadyH.cons rfl (fun K hK => ?_) AllReadyH.nil
  go_simp
  go_at_call 10
  refine (Ktn.out _).mono ?_
  rintro e y1 ⟨rfl, hp⟩
  have hn1 : NoW W y1 := Fp.trans hHeld hp (fun _ _ h => h)
  skip
  clear hp hHeld
  refine hK.out _ _ hn1 (fun hHeld => ?_)
  clear hK K
  try simp only [Act.put, List.setIfInBounds_toArray, List.set_cons_zero, List.set_cons_succ]
  refine wpAnyH_ready (rs := [7]) (by kernel_rfl) (by simp) ?_
  refine AllReadyH.cons rfl (fun K hK => ?_) AllReadyH.nil
  go_simp
  go_at_call 27
  refine (Krtn.out _ o7 c7).mono ?_
  rintro e y2 ⟨rfl, hp⟩
  have hn2 : NoW W y2 := Fp.trans hHeld hp (fun _ _ h => h)
  skip
  clear hp hHeld hn1
  refine hK.out _ _ hn2 (fun hHeld => ?_)
  clear hK K
  try simp only [Act.put, List.setIfInBounds_toArray, List.set_cons_zero, List.set_cons_succ]
  refine wpAnyH_ready (rs := [8]) (by kernel_rfl) (by simp) ?_
  refine AllReadyH.cons rfl (fun K hK => ?_) AllReadyH.nil
  go_simp
  go_at_call 26
  refine (change_ok _ _ _ _ _).mono ?_
  rintro e y3 ⟨rfl, hp⟩
  have hn3 : NoW W y3 := Fp.trans hHeld hp (fun _ _ h => h)
  skip
  clear hp hHeld hn2
  refine hK.out _ _ hn3 (fun hHeld => ?_)
  clear hK K
  try simp only [Act.put, List.setIfInBounds_toArray, List.set_cons_zero, List.set_cons_succ]
  (refine take_at 9 (some 117) rfl rfl (by kernel_rfl) (by kernel_rfl) (by kernel_rfl) (fun _ _ _ h => h) (v := ?_) (by kernel_rfl) ?_ (by assumption) ?_; rotate_left; (focus (intro wS hSw; skip; go_simp; try with_reducible rfl)); (try simp only [Act.put, List.setIfInBounds_toArray, List.set_cons_zero, List.set_cons_succ]))
  (refine take_at 10 (some 118) rfl rfl (by kernel_rfl) (by kernel_rfl) (by kernel_rfl) (fun _ _ _ h => h) (v := ?_) (by kernel_rfl) ?_ (by assumption) ?_; rotate_left; (focus (intro wS hSw; (have qBX0 := (hSw.cell (p := ⟨gBX, 0, none⟩) ldBX id).trans dBX0); (have qBX1 := (hSw.cell (p := ⟨gBX, 1, none⟩) ldBX id).trans dBX1); (have qBX2 := (hSw.cell (p := ⟨gBX, 2, none⟩) ldBX id).trans dBX2); (have qBX3 := (hSw.cell (p := ⟨gBX, 3, none⟩) ldBX id).trans dBX3); (have qBX4 := (hSw.cell (p := ⟨gBX, 4, none⟩) ldBX id).trans dBX4); (have qBX5 := (hSw.cell (p := ⟨gBX, 5, none⟩) ldBX id).trans dBX5); (have qBX6 := (hSw.cell (p := ⟨gBX, 6, none⟩) ldBX id).trans dBX6); (have qBX7 := (hSw.cell (p := ⟨gBX, 7, none⟩) ldBX id).trans dBX7); (have qBX8 := (hSw.cell (p := ⟨gBX, 8, none⟩) ldBX id).trans dBX8); (have qBX9 := (hSw.cell (p := ⟨gBX, 9, none⟩) ldBX id).trans dBX9); (have qBX10 := (hSw.cell (p := ⟨gBX, 10, none⟩) ldBX id).trans dBX10); (have qBX11 := (hSw.cell (p := ⟨gBX, 11, none⟩) ldBX id).trans dBX11); (have qBX12 := (hSw.cell (p := ⟨gBX, 12, none⟩) ldBX id).trans dBX12); go_simp; try with_reducible rfl)); (try simp only [Act.put, List.setIfInBounds_toArray, List.set_cons_zero, List.set_cons_succ]))
  (refine take_at 11 (some 119) rfl rfl (by kernel_rfl) (by kernel_rfl) (by kernel_rfl) (fun _ _ _ h => h) (v := ?_) (by kernel_rfl) ?_ (by assumption) ?_; rotate_left; (focus (intro wS hSw; skip; go_simp; try with_reducible rfl)); (try simp only [Act.put, List.setIfInBounds_toArray, List.set_cons_zero, List.set_cons_succ]))
  (refine take_at 12 (some 120) rfl rfl (by kernel_rfl) (by kernel_rfl) (by kernel_rfl) (fun _ _ _ h => h) (v := ?_) (by kernel_rfl) ?_ (by assumption) ?_; rotate_left; (focus (intro wS hSw; (have qBP5 := (hSw.cell (p := ⟨gBP, 5, none⟩) ldBP id).trans dBP5); go_simp; try with_reducible rfl)); (try simp only [Act.put, List.setIfInBounds_toArray, List.set_cons_zero, List.set_cons_succ]))
  (refine take_at 14 (some 122) rfl rfl (by kernel_rfl) (by kernel_rfl) (by kernel_rfl) (fun _ _ _ h => h) (v := ?_) (by kernel_rfl) ?_ (by assumption) ?_; rotate_left; (focus (intro wS hSw; (have qB70 := (hSw.cell (p := ⟨gB7, 0, none⟩) ldB7 id).trans dB70); (have qB71 := (hSw.cell (p := ⟨gB7, 1, none⟩) ldB7 id).trans dB71); (have qB72 := (hSw.cell (p := ⟨gB7, 2, none⟩) ldB7 id).trans dB72); (have qB73 := (hSw.cell (p := ⟨gB7, 3, none⟩) ldB7 id).trans dB73); (have qB74 := (hSw.cell (p := ⟨gB7, 4, none⟩) ldB7 id).trans dB74); (have qB75 := (hSw.cell (p := ⟨gB7, 5, none⟩) ldB7 id).trans dB75); (have qB76 := (hSw.cell (p := ⟨gB7, 6, none⟩) ldB7 id).trans dB76); (have qB77 := (hSw.cell (p := ⟨gB7, 7, none⟩) ldB7 id).trans dB77); (have qB78 := (hSw.cell (p := ⟨gB7, 8, none⟩) ldB7 id).trans dB78); (have qB79 := (hSw.cell (p := ⟨gB7, 9, none⟩) ldB7 id).trans dB79); (have qB710 := (hSw.cell (p := ⟨gB7, 10, none⟩) ldB7 id).trans dB710); (have qB711 := (hSw.cell (p := ⟨gB7, 11, none⟩) ldB7 id).trans dB711); (have qB712 := (hSw.cell (p := ⟨gB7, 12, none⟩) ldB7 id).trans dB712); go_simp; try with_reducible rfl)); (try simp only [Act.put, List.setIfInBounds_toArray, List.set_cons_zero, List.set_cons_succ]))
  (refine take_at 15 (some 123) rfl rfl (by kernel_rfl) (by kernel_rfl) (by kernel_rfl) (fun _ _ _ h => h) (v := ?_) (by kernel_rfl) ?_ (by assumption) ?_; rotate_left; (focus (intro wS hSw; skip; go_simp; try with_reducible rfl)); (try simp only [Act.put, List.setIfInBounds_toArray, List.set_cons_zero, List.set_cons_succ]))
  (refine take_at 16 (some 124) rfl rfl (by kernel_rfl) (by kernel_rfl) (by kernel_rfl) (fun _ _ _ h => h) (v := ?_) (by kernel_rfl) ?_ (by assumption) ?_; rotate_left; (focus (intro wS hSw; (have qBP5 := (hSw.cell (p := ⟨gBP, 5, none⟩) ldBP id).trans dBP5); go_simp; try with_reducible rfl)); (try simp only [Act.put, List.setIfInBounds_toArray, List.set_cons_zero, List.set_cons_succ]))
  refine wpAnyH_ready (rs := [13]) (by kernel_rfl) (by simp) ?_
  refine AllReadyH.cons rfl (fun K hK => ?_) AllReadyH.nil
  go_simp
  go_at_call 12
  refine (Kin.out _).mono ?_
  rintro e y4 ⟨rfl, hp⟩
  have hn4 : NoW W y4 := Fp.trans hHeld hp (fun _ _ h => h)
  skip
  clear hp hHeld hn3
  refine hK.out _ _ hn4 (fun hHeld => ?_)
  clear hK K
  try simp only [Act.put, List.setIfInBounds_toArray, List.set_cons_zero, List.set_cons_succ]
  refine wpAnyH_ready (rs := [17]) (by kernel_rfl) (by simp) ?_
  refine AllReadyH.cons rfl (fun K hK => ?_) AllReadyH.nil
  go_simp
  go_at_call 28
  refine (Krin.out _ o7 c7).mono ?_
  rintro e y5 ⟨rfl, hp⟩
  have hn5 : NoW W y5 := Fp.trans hHeld hp (fun _ _ h => h)
  skip
  clear hp hHeld hn4
  refine hK.out _ _ hn5 (fun hHeld => ?_)
  clear hK K
  try simp only [Act.put, List.setIfInBounds_toArray, List.set_cons_zero, List.set_cons_succ]
  refine wpAnyH_ready (rs := [18]) (by kernel_rfl) (by simp) ?_
  refine AllReadyH.cons rfl (fun K hK => ?_) AllReadyH.nil
  go_simp
  go_at_call 26
  refine (change_ok _ _ _ _ _).mono ?_
  rintro e y6 ⟨rfl, hp⟩
  have hn6 : NoW W y6 := Fp.trans hHeld hp (fun _ _ h => h)
  skip
  clear hp hHeld hn5
  refine hK.out _ _ hn6 (fun hHeld => ?_)
  clear hK K
  try simp only [Act.put, List.setIfInBounds_toArray, List.set_cons_zero, List.set_cons_succ]
  (refine take_at 19 (some 127) rfl rfl (by kernel_rfl) (by kernel_rfl) (by kernel_rfl) (fun _ _ _ h => h) (v := ?_) (by kernel_rfl) ?_ (by assumption) ?_; rotate_left; (focus (intro wS hSw; skip; go_simp; try with_reducible rfl)); (try simp only [Act.put, List.setIfInBounds_toArray, List.set_cons_zero, List.set_cons_succ]))
  (refine take_at 20 (some 128) rfl rfl (by kernel_rfl) (by kernel_rfl) (by kernel_rfl) (fun _ _ _ h => h) (v := ?_) (by kernel_rfl) ?_ (by assumption) ?_; rotate_left; (focus (intro wS hSw; skip; go_simp; try with_reducible rfl)); (try simp only [Act.put, List.setIfInBounds_toArray, List.set_cons_zero, List.set_cons_succ]))
  (refine take_at 21 (some 129) rfl rfl (by kernel_rfl) (by kernel_rfl) (by kernel_rfl) (fun _ _ _ h => h) (v := ?_) (by kernel_rfl) ?_ (by assumption) ?_; rotate_left; (focus (intro wS hSw; (have qBX0 := (hSw.cell (p := ⟨gBX, 0, none⟩) ldBX id).trans dBX0); (have qBX1 := (hSw.cell (p := ⟨gBX, 1, none⟩) ldBX id).trans dBX1); (have qBX2 := (hSw.cell (p := ⟨gBX, 2, none⟩) ldBX id).trans dBX2); (have qBX3 := (hSw.cell (p := ⟨gBX, 3, none⟩) ldBX id).trans dBX3); (have qBX4 := (hSw.cell (p := ⟨gBX, 4, none⟩) ldBX id).trans dBX4); (have qBX5 := (hSw.cell (p := ⟨gBX, 5, none⟩) ldBX id).trans dBX5); (have qBX6 := (hSw.cell (p := ⟨gBX, 6, none⟩) ldBX id).trans dBX6); (have qBX7 := (hSw.cell (p := ⟨gBX, 7, none⟩) ldBX id).trans dBX7); (have qBX8 := (hSw.cell (p := ⟨gBX, 8, none⟩) ldBX id).trans dBX8); (have qBX9 := (hSw.cell (p := ⟨gBX, 9, none⟩) ldBX id).trans dBX9); (have qBX10 := (hSw.cell (p := ⟨gBX, 10, none⟩) ldBX id).trans dBX10); (have qBX11 := (hSw.cell (p := ⟨gBX, 11, none⟩) ldBX id).trans dBX11); (have qBX12 := (hSw.cell (p := ⟨gBX, 12, none⟩) ldBX id).trans dBX12); go_simp; try with_reducible rfl)); (try simp only [Act.put, List.setIfInBounds_toArray, List.set_cons_zero, List.set_cons_succ]))
  (refine take_at 22 (some 130) rfl rfl (by kernel_rfl) (by kernel_rfl) (by kernel_rfl) (fun _ _ _ h => h) (v := ?_) (by kernel_rfl) ?_ (by assumption) ?_; rotate_left; (focus (intro wS hSw; (have qBY0 := (hSw.cell (p := ⟨gBY, 0, none⟩) ldBY id).trans dBY0); (have qBY1 := (hSw.cell (p := ⟨gBY, 1, none⟩) ldBY id).trans dBY1); (have qBY2 := (hSw.cell (p := ⟨gBY, 2, none⟩) ldBY id).trans dBY2); (have qBY3 := (hSw.cell (p := ⟨gBY, 3, none⟩) ldBY id).trans dBY3); (have qBY4 := (hSw.cell (p := ⟨gBY, 4, none⟩) ldBY id).trans dBY4); (have qBY5 := (hSw.cell (p := ⟨gBY, 5, none⟩) ldBY id).trans dBY5); (have qBY6 := (hSw.cell (p := ⟨gBY, 6, none⟩) ldBY id).trans dBY6); (have qBY7 := (hSw.cell (p := ⟨gBY, 7, none⟩) ldBY id).trans dBY7); (have qBY8 := (hSw.cell (p := ⟨gBY, 8, none⟩) ldBY id).trans dBY8); (have qBY9 := (hSw.cell (p := ⟨gBY, 9, none⟩) ldBY id).trans dBY9); (have qBY10 := (hSw.cell (p := ⟨gBY, 10, none⟩) ldBY id).trans dBY10); (have qBY11 := (hSw.cell (p := ⟨gBY, 11, none⟩) ldBY id).trans dBY11); (have qBY12 := (hSw.cell (p := ⟨gBY, 12, none⟩) ldBY id).trans dBY12); go_simp; try with_reducible rfl)); (try simp only [Act.put, List.setIfInBounds_toArray, List.set_cons_zero, List.set_cons_succ]))
  (refine take_at 24 (some 132) rfl rfl (by kernel_rfl) (by kernel_rfl) (by kernel_rfl) (fun _ _ _ h => h) (v := ?_) (by kernel_rfl) ?_ (by assumption) ?_; rotate_left; (focus (intro wS hSw; (have qB70 := (hSw.cell (p := ⟨gB7, 0, none⟩) ldB7 id).trans dB70); (have qB71 := (hSw.cell (p := ⟨gB7, 1, none⟩) ldB7 id).trans dB71); (have qB72 := (hSw.cell (p := ⟨gB7, 2, none⟩) ldB7 id).trans dB72); (have qB73 := (hSw.cell (p := ⟨gB7, 3, none⟩) ldB7 id).trans dB73); (have qB74 := (hSw.cell (p := ⟨gB7, 4, none⟩) ldB7 id).trans dB74); (have qB75 := (hSw.cell (p := ⟨gB7, 5, none⟩) ldB7 id).trans dB75); (have qB76 := (hSw.cell (p := ⟨gB7, 6, none⟩) ldB7 id).trans dB76); (have qB77 := (hSw.cell (p := ⟨gB7, 7, none⟩) ldB7 id).trans dB77); (have qB78 := (hSw.cell (p := ⟨gB7, 8, none⟩) ldB7 id).trans dB78); (have qB79 := (hSw.cell (p := ⟨gB7, 9, none⟩) ldB7 id).trans dB79); (have qB710 := (hSw.cell (p := ⟨gB7, 10, none⟩) ldB7 id).trans dB710); (have qB711 := (hSw.cell (p := ⟨gB7, 11, none⟩) ldB7 id).trans dB711); (have qB712 := (hSw.cell (p := ⟨gB7, 12, none⟩) ldB7 id).trans dB712); go_simp; try with_reducible rfl)); (try simp only [Act.put, List.setIfInBounds_toArray, List.set_cons_zero, List.set_cons_succ]))
  (refine take_at 25 (some 133) rfl rfl (by kernel_rfl) (by kernel_rfl) (by kernel_rfl) (fun _ _ _ h => h) (v := ?_) (by kernel_rfl) ?_ (by assumption) ?_; rotate_left; (focus (intro wS hSw; (have qBY0 := (hSw.cell (p := ⟨gBY, 0, none⟩) ldBY id).trans dBY0); (have qBY1 := (hSw.cell (p := ⟨gBY, 1, none⟩) ldBY id).trans dBY1); (have qBY2 := (hSw.cell (p := ⟨gBY, 2, none⟩) ldBY id).trans dBY2); (have qBY3 := (hSw.cell (p := ⟨gBY, 3, none⟩) ldBY id).trans dBY3); (have qBY4 := (hSw.cell (p := ⟨gBY, 4, none⟩) ldBY id).trans dBY4); (have qBY5 := (hSw.cell (p := ⟨gBY, 5, none⟩) ldBY id).trans dBY5); (have qBY6 := (hSw.cell (p := ⟨gBY, 6, none⟩) ldBY id).trans dBY6); (have qBY7 := (hSw.cell (p := ⟨gBY, 7, none⟩) ldBY id).trans dBY7); (have qBY8 := (hSw.cell (p := ⟨gBY, 8, none⟩) ldBY id).trans dBY8); (have qBY9 := (hSw.cell (p := ⟨gBY, 9, none⟩) ldBY id).trans dBY9); (have qBY10 := (hSw.cell (p := ⟨gBY, 10, none⟩) ldBY id).trans dBY10); (have qBY11 := (hSw.cell (p := ⟨gBY, 11, none⟩) ldBY id).trans dBY11); (have qBY12 := (hSw.cell (p := ⟨gBY, 12, none⟩) ldBY id).trans dBY12); go_simp; try with_reducible rfl)); (try simp only [Act.put, List.setIfInBounds_toArray, List.set_cons_zero, List.set_cons_succ]))
  refine wpAnyH_ready (rs := [23]) (by kernel_rfl) (by simp) ?_
  refine AllReadyH.cons rfl (fun K hK => ?_) AllReadyH.nil
  go_simp
  go_at_call 29
  refine (Ksxy.out _ (HU.out.trans hHeld (fun _ _ h => h))).mono ?_
  rintro e y7 ⟨rfl, hp⟩
  have hn7 : NoW W y7 := Fp.trans hHeld hp (fun _ _ h => h)
  skip
  clear hp hHeld hn6
  refine hK.out _ _ hn7 (fun hHeld => ?_)
  clear hK K
  try simp only [Act.put, List.setIfInBounds_toArray, List.set_cons_zero, List.set_cons_succ]
  refine wpAnyH_ready (rs := [26]) (by kernel_rfl) (by simp) ?_
  refine AllReadyH.cons rfl (fun K hK => ?_) AllReadyH.nil
  go_simp
  go_at_call 18
  refine (Kdy.out _ (HU.out.trans hHeld (fun _ _ h => h))).mono ?_
  rintro e y8 ⟨o17, o17c, rfl, hcx, hin, hp⟩
  have hn8 : NoW W y8 := Fp.trans hHeld hp (fun _ _ h => h)
  have HinE := Lib.hid hin
  clear hp hHeld hin hcx hn7
  refine hK.out _ _ hn8 (fun hHeld => ?_)
  clear hK K
  try simp only [Act.put, List.setIfInBounds_toArray, List.set_cons_zero, List.set_cons_succ]
  refine wpAnyH_ready (rs := [27]) (by kernel_rfl) (by simp) ?_
  refine AllReadyH.cons rfl (fun K hK => ?_) AllReadyH.nil
  go_simp
  go_at_call 25
  refine (Krsxy.out _ _ _ _ _ (Hin7b.out.low hHeld) HinE.out).mono ?_
  rintro e y9 ⟨rfl, hp⟩
  have hn9 : NoW W y9 := Fp.trans hHeld hp (fun _ _ h => h)
  skip
  clear hp hHeld hn8
  refine hK.out _ _ hn9 (fun hHeld => ?_)
  clear hK K
  try simp only [Act.put, List.setIfInBounds_toArray, List.set_cons_zero, List.set_cons_succ]
  (refine take_at 28 (some 136) rfl rfl (by kernel_rfl) (by kernel_rfl) (by kernel_rfl) (fun _ _ _ h => h) (v := ?_) (by kernel_rfl) ?_ (by assumption) ?_; rotate_left; (focus (intro wS hSw; skip; go_simp; try with_reducible rfl)); (try simp only [Act.put, List.setIfInBounds_toArray, List.set_cons_zero, List.set_cons_succ]))
  (refine take_at 29 (some 137) rfl rfl (by kernel_rfl) (by kernel_rfl) (by kernel_rfl) (fun _ _ _ h => h) (v := ?_) (by kernel_rfl) ?_ (by assumption) ?_; rotate_left; (focus (intro wS hSw; skip; go_simp; try with_reducible rfl)); (try simp only [Act.put, List.setIfInBounds_toArray, List.set_cons_zero, List.set_cons_succ]))
  (refine take_at 30 (some 138) rfl rfl (by kernel_rfl) (by kernel_rfl) (by kernel_rfl) (fun _ _ _ h => h) (v := ?_) (by kernel_rfl) ?_ (by assumption) ?_; rotate_left; (focus (intro wS hSw; skip; go_simp; try with_reducible rfl)); (try simp only [Act.put, List.setIfInBounds_toArray, List.set_cons_zero, List.set_cons_succ]))
  (refine take_at 31 (some 139) rfl rfl (by kernel_rfl) (by kernel_rfl) (by kernel_rfl) (fun _ _ _ h => h) (v := ?_) (by kernel_rfl) ?_ (by assumption) ?_; rotate_left; (focus (intro wS hSw; (have qBX0 := (hSw.cell (p := ⟨gBX, 0, none⟩) ldBX id).trans dBX0); (have qBX1 := (hSw.cell (p := ⟨gBX, 1, none⟩) ldBX id).trans dBX1); (have qBX2 := (hSw.cell (p := ⟨gBX, 2, none⟩) ldBX id).trans dBX2); (have qBX3 := (hSw.cell (p := ⟨gBX, 3, none⟩) ldBX id).trans dBX3); (have qBX4 := (hSw.cell (p := ⟨gBX, 4, none⟩) ldBX id).trans dBX4); (have qBX5 := (hSw.cell (p := ⟨gBX, 5, none⟩) ldBX id).trans dBX5); (have qBX6 := (hSw.cell (p := ⟨gBX, 6, none⟩) ldBX id).trans dBX6); (have qBX7 := (hSw.cell (p := ⟨gBX, 7, none⟩) ldBX id).trans dBX7); (have qBX8 := (hSw.cell (p := ⟨gBX, 8, none⟩) ldBX id).trans dBX8); (have qBX9 := (hSw.cell (p := ⟨gBX, 9, none⟩) ldBX id).trans dBX9); (have qBX10 := (hSw.cell (p := ⟨gBX, 10, none⟩) ldBX id).trans dBX10); (have qBX11 := (hSw.cell (p := ⟨gBX, 11, none⟩) ldBX id).trans dBX11); (have qBX12 := (hSw.cell (p := ⟨gBX, 12, none⟩) ldBX id).trans dBX12); go_simp; try with_reducible rfl)); (try simp only [Act.put, List.setIfInBounds_toArray, List.set_cons_zero, List.set_cons_succ]))
  (refine take_at 32 (some 140) rfl rfl (by kernel_rfl) (by kernel_rfl) (by kernel_rfl) (fun _ _ _ h => h) (v := ?_) (by kernel_rfl) ?_ (by assumption) ?_; rotate_left; (focus (intro wS hSw; (have qBX0 := (hSw.cell (p := ⟨gBX, 0, none⟩) ldBX id).trans dBX0); (have qBX1 := (hSw.cell (p := ⟨gBX, 1, none⟩) ldBX id).trans dBX1); (have qBX2 := (hSw.cell (p := ⟨gBX, 2, none⟩) ldBX id).trans dBX2); (have qBX3 := (hSw.cell (p := ⟨gBX, 3, none⟩) ldBX id).trans dBX3); (have qBX4 := (hSw.cell (p := ⟨gBX, 4, none⟩) ldBX id).trans dBX4); (have qBX5 := (hSw.cell (p := ⟨gBX, 5, none⟩) ldBX id).trans dBX5); (have qBX6 := (hSw.cell (p := ⟨gBX, 6, none⟩) ldBX id).trans dBX6); (have qBX7 := (hSw.cell (p := ⟨gBX, 7, none⟩) ldBX id).trans dBX7); (have qBX8 := (hSw.cell (p := ⟨gBX, 8, none⟩) ldBX id).trans dBX8); (have qBX9 := (hSw.cell (p := ⟨gBX, 9, none⟩) ldBX id).trans dBX9); (have qBX10 := (hSw.cell (p := ⟨gBX, 10, none⟩) ldBX id).trans dBX10); (have qBX11 := (hSw.cell (p := ⟨gBX, 11, none⟩) ldBX id).trans dBX11); (have qBX12 := (hSw.cell (p := ⟨gBX, 12, none⟩) ldBX id).trans dBX12); go_simp; try with_reducible rfl)); (try simp only [Act.put, List.setIfInBounds_toArray, List.set_cons_zero, List.set_cons_succ]))
  refine wpAnyH_ready (rs := [33]) (by kernel_rfl) (by simp) ?_
  refine AllReadyH.cons rfl (fun K hK => ?_) AllReadyH.nil
  go_simp
  go_at_call 29
  refine (Ksxx.out _ (HU.out.trans hHeld (fun _ _ h => h))).mono ?_
  rintro e y10 ⟨rfl, hp⟩
  have hn10 : NoW W y10 := Fp.trans hHeld hp (fun _ _ h => h)
  skip
  clear hp hHeld hn9
  refine hK.out _ _ hn10 (fun hHeld => ?_)
  clear hK K
  try simp only [Act.put, List.setIfInBounds_toArray, List.set_cons_zero, List.set_cons_succ]
  (refine take_at 34 (some 142) rfl rfl (by kernel_rfl) (by kernel_rfl) (by kernel_rfl) (fun _ _ _ h => h) (v := ?_) (by kernel_rfl) ?_ (by assumption) ?_; rotate_left; (focus (intro wS hSw; skip; go_simp; try with_reducible rfl)); (try simp only [Act.put, List.setIfInBounds_toArray, List.set_cons_zero, List.set_cons_succ]))
  (refine take_at 35 (some 143) rfl rfl (by kernel_rfl) (by kernel_rfl) (by kernel_rfl) (fun _ _ _ h => h) (v := ?_) (by kernel_rfl) ?_ (by assumption) ?_; rotate_left; (focus (intro wS hSw; skip; go_simp; try with_reducible rfl)); (try simp only [Act.put, List.setIfInBounds_toArray, List.set_cons_zero, List.set_cons_succ]))
  (refine take_at 36 (some 144) rfl rfl (by kernel_rfl) (by kernel_rfl) (by kernel_rfl) (fun _ _ _ h => h) (v := ?_) (by kernel_rfl) ?_ (by assumption) ?_; rotate_left; (focus (intro wS hSw; (have qBX0 := (hSw.cell (p := ⟨gBX, 0, none⟩) ldBX id).trans dBX0); (have qBX1 := (hSw.cell (p := ⟨gBX, 1, none⟩) ldBX id).trans dBX1); (have qBX2 := (hSw.cell (p := ⟨gBX, 2, none⟩) ldBX id).trans dBX2); (have qBX3 := (hSw.cell (p := ⟨gBX, 3, none⟩) ldBX id).trans dBX3); (have qBX4 := (hSw.cell (p := ⟨gBX, 4, none⟩) ldBX id).trans dBX4); (have qBX5 := (hSw.cell (p := ⟨gBX, 5, none⟩) ldBX id).trans dBX5); (have qBX6 := (hSw.cell (p := ⟨gBX, 6, none⟩) ldBX id).trans dBX6); (have qBX7 := (hSw.cell (p := ⟨gBX, 7, none⟩) ldBX id).trans dBX7); (have qBX8 := (hSw.cell (p := ⟨gBX, 8, none⟩) ldBX id).trans dBX8); (have qBX9 := (hSw.cell (p := ⟨gBX, 9, none⟩) ldBX id).trans dBX9); (have qBX10 := (hSw.cell (p := ⟨gBX, 10, none⟩) ldBX id).trans dBX10); (have qBX11 := (hSw.cell (p := ⟨gBX, 11, none⟩) ldBX id).trans dBX11); (have qBX12 := (hSw.cell (p := ⟨gBX, 12, none⟩) ldBX id).trans dBX12); go_simp; try with_reducible rfl)); (try simp only [Act.put, List.setIfInBounds_toArray, List.set_cons_zero, List.set_cons_succ]))
  (refine take_at 37 (some 145) rfl rfl (by kernel_rfl) (by kernel_rfl) (by kernel_rfl) (fun _ _ _ h => h) (v := ?_) (by kernel_rfl) ?_ (by assumption) ?_; rotate_left; (focus (intro wS hSw; (have qBY0 := (hSw.cell (p := ⟨gBY, 0, none⟩) ldBY id).trans dBY0); (have qBY1 := (hSw.cell (p := ⟨gBY, 1, none⟩) ldBY id).trans dBY1); (have qBY2 := (hSw.cell (p := ⟨gBY, 2, none⟩) ldBY id).trans dBY2); (have qBY3 := (hSw.cell (p := ⟨gBY, 3, none⟩) ldBY id).trans dBY3); (have qBY4 := (hSw.cell (p := ⟨gBY, 4, none⟩) ldBY id).trans dBY4); (have qBY5 := (hSw.cell (p := ⟨gBY, 5, none⟩) ldBY id).trans dBY5); (have qBY6 := (hSw.cell (p := ⟨gBY, 6, none⟩) ldBY id).trans dBY6); (have qBY7 := (hSw.cell (p := ⟨gBY, 7, none⟩) ldBY id).trans dBY7); (have qBY8 := (hSw.cell (p := ⟨gBY, 8, none⟩) ldBY id).trans dBY8); (have qBY9 := (hSw.cell (p := ⟨gBY, 9, none⟩) ldBY id).trans dBY9); (have qBY10 := (hSw.cell (p := ⟨gBY, 10, none⟩) ldBY id).trans dBY10); (have qBY11 := (hSw.cell (p := ⟨gBY, 11, none⟩) ldBY id).trans dBY11); (have qBY12 := (hSw.cell (p := ⟨gBY, 12, none⟩) ldBY id).trans dBY12); go_simp; try with_reducible rfl)); (try simp only [Act.put, List.setIfInBounds_toArray, List.set_cons_zero, List.set_cons_succ]))
  (refine take_at 39 (some 147) rfl rfl (by kernel_rfl) (by kernel_rfl) (by kernel_rfl) (fun _ _ _ h => h) (v := ?_) (by kernel_rfl) ?_ (by assumption) ?_; rotate_left; (focus (intro wS hSw; (have qB70 := (hSw.cell (p := ⟨gB7, 0, none⟩) ldB7 id).trans dB70); (have qB71 := (hSw.cell (p := ⟨gB7, 1, none⟩) ldB7 id).trans dB71); (have qB72 := (hSw.cell (p := ⟨gB7, 2, none⟩) ldB7 id).trans dB72); (have qB73 := (hSw.cell (p := ⟨gB7, 3, none⟩) ldB7 id).trans dB73); (have qB74 := (hSw.cell (p := ⟨gB7, 4, none⟩) ldB7 id).trans dB74); (have qB75 := (hSw.cell (p := ⟨gB7, 5, none⟩) ldB7 id).trans dB75); (have qB76 := (hSw.cell (p := ⟨gB7, 6, none⟩) ldB7 id).trans dB76); (have qB77 := (hSw.cell (p := ⟨gB7, 7, none⟩) ldB7 id).trans dB77); (have qB78 := (hSw.cell (p := ⟨gB7, 8, none⟩) ldB7 id).trans dB78); (have qB79 := (hSw.cell (p := ⟨gB7, 9, none⟩) ldB7 id).trans dB79); (have qB710 := (hSw.cell (p := ⟨gB7, 10, none⟩) ldB7 id).trans dB710); (have qB711 := (hSw.cell (p := ⟨gB7, 11, none⟩) ldB7 id).trans dB711); (have qB712 := (hSw.cell (p := ⟨gB7, 12, none⟩) ldB7 id).trans dB712); go_simp; try with_reducible rfl)); (try simp only [Act.put, List.setIfInBounds_toArray, List.set_cons_zero, List.set_cons_succ]))
  (refine take_at 40 (some 148) rfl rfl (by kernel_rfl) (by kernel_rfl) (by kernel_rfl) (fun _ _ _ h => h) (v := ?_) (by kernel_rfl) ?_ (by assumption) ?_; rotate_left; (focus (intro wS hSw; (have qBY0 := (hSw.cell (p := ⟨gBY, 0, none⟩) ldBY id).trans dBY0); (have qBY1 := (hSw.cell (p := ⟨gBY, 1, none⟩) ldBY id).trans dBY1); (have qBY2 := (hSw.cell (p := ⟨gBY, 2, none⟩) ldBY id).trans dBY2); (have qBY3 := (hSw.cell (p := ⟨gBY, 3, none⟩) ldBY id).trans dBY3); (have qBY4 := (hSw.cell (p := ⟨gBY, 4, none⟩) ldBY id).trans dBY4); (have qBY5 := (hSw.cell (p := ⟨gBY, 5, none⟩) ldBY id).trans dBY5); (have qBY6 := (hSw.cell (p := ⟨gBY, 6, none⟩) ldBY id).trans dBY6); (have qBY7 := (hSw.cell (p := ⟨gBY, 7, none⟩) ldBY id).trans dBY7); (have qBY8 := (hSw.cell (p := ⟨gBY, 8, none⟩) ldBY id).trans dBY8); (have qBY9 := (hSw.cell (p := ⟨gBY, 9, none⟩) ldBY id).trans dBY9); (have qBY10 := (hSw.cell (p := ⟨gBY, 10, none⟩) ldBY id).trans dBY10); (have qBY11 := (hSw.cell (p := ⟨gBY, 11, none⟩) ldBY id).trans dBY11); (have qBY12 := (hSw.cell (p := ⟨gBY, 12, none⟩) ldBY id).trans dBY12); go_simp; try with_reducible rfl)); (try simp only [Act.put, List.setIfInBounds_toArray, List.set_cons_zero, List.set_cons_succ]))
  refine wpAnyH_ready (rs := [38]) (by kernel_rfl) (by simp) ?_
  refine AllReadyH.cons rfl (fun K hK => ?_) AllReadyH.nil
  go_simp
  go_at_call 17
  refine (Kle.out _).mono ?_
  rintro e y11 ⟨rfl, hp⟩
  have hn11 : NoW W y11 := Fp.trans hHeld hp (fun _ _ h => h)
  skip
  clear hp hHeld hn10
  refine hK.out _ _ hn11 (fun hHeld => ?_)
  clear hK K
  try simp only [Act.put, List.setIfInBounds_toArray, List.set_cons_zero, List.set_cons_succ]
  refine wpAnyH_ready (rs := [41]) (by kernel_rfl) (by simp) ?_
  refine AllReadyH.cons rfl (fun K hK => ?_) AllReadyH.nil
  go_simp
  go_at_call 18
  refine (Kdy.out _ (HU.out.trans hHeld (fun _ _ h => h))).mono ?_
  rintro e y12 ⟨o18, o18c, rfl, hcx, hin, hp⟩
  have hn12 : NoW W y12 := Fp.trans hHeld hp (fun _ _ h => h)
  have HinF := Lib.hid hin
  clear hp hHeld hin hcx hn11
  refine hK.out _ _ hn12 (fun hHeld => ?_)
  clear hK K
  try simp only [Act.put, List.setIfInBounds_toArray, List.set_cons_zero, List.set_cons_succ]
  refine wpAnyH_ready (rs := [42]) (by kernel_rfl) (by simp) ?_
  refine AllReadyH.cons rfl (fun K hK => ?_) AllReadyH.nil
  go_simp
  go_at_call 30
  refine (Krle.out _ _ _ _ _).mono ?_
  rintro e y13 ⟨rfl, hp⟩
  have hn13 : NoW W y13 := Fp.trans hHeld hp (fun _ _ h => h)
  skip
  clear hp hHeld hn12
  refine hK.out _ _ hn13 (fun hHeld => ?_)
  clear hK K
  try simp only [Act.put, List.setIfInBounds_toArray, List.set_cons_zero, List.set_cons_succ]
  (refine take_at 43 (some 151) rfl rfl (by kernel_rfl) (by kernel_rfl) (by kernel_rfl) (fun _ _ _ h => h) (v := ?_) (by kernel_rfl) ?_ (by assumption) ?_; rotate_left; (focus (intro wS hSw; skip; go_simp; try with_reducible rfl)); (try simp only [Act.put, List.setIfInBounds_toArray, List.set_cons_zero, List.set_cons_succ]))
  (refine take_at 44 (some 152) rfl rfl (by kernel_rfl) (by kernel_rfl) (by kernel_rfl) (fun _ _ _ h => h) (v := ?_) (by kernel_rfl) ?_ (by assumption) ?_; rotate_left; (focus (intro wS hSw; skip; go_simp; try with_reducible rfl)); (try simp only [Act.put, List.setIfInBounds_toArray, List.set_cons_zero, List.set_cons_succ]))
  (refine take_at 45 (some 153) rfl rfl (by kernel_rfl) (by kernel_rfl) (by kernel_rfl) (fun _ _ _ h => h) (v := ?_) (by kernel_rfl) ?_ (by assumption) ?_; rotate_left; (focus (intro wS hSw; skip; go_simp; try with_reducible rfl)); (try simp only [Act.put, List.setIfInBounds_toArray, List.set_cons_zero, List.set_cons_succ]))
  refine wpAnyH_ready (rs := [46]) (by kernel_rfl) (by simp) ?_
  refine AllReadyH.cons rfl (fun K hK => ?_) AllReadyH.nil
  go_simp
  go_at_call 9
  refine (Kp.out _ (Ht.out.low (HU.out.trans hHeld (fun _ _ h => h)))).mono ?_
  rintro e y14 ⟨rfl, hp⟩
  have hn14 : NoW W y14 := Fp.trans hHeld hp (fun _ _ h => h)
  skip
  clear hp hHeld hn13
  refine hK.out _ _ hn14 (fun hHeld => ?_)
  clear hK K
  try simp only [Act.put, List.setIfInBounds_toArray, List.set_cons_zero, List.set_cons_succ]
  (refine take_at 47 (some 155) rfl rfl (by kernel_rfl) (by kernel_rfl) (by kernel_rfl) (fun _ _ _ h => h) (v := ?_) (by kernel_rfl) ?_ (by assumption) ?_; rotate_left; (focus (intro wS hSw; skip; go_simp; try with_reducible rfl)); (try simp only [Act.put, List.setIfInBounds_toArray, List.set_cons_zero, List.set_cons_succ]))
  (refine take_at 48 (some 6) rfl rfl (by kernel_rfl) (by kernel_rfl) (by kernel_rfl) (fun _ _ _ h => h) (v := ?_) (by kernel_rfl) ?_ (by assumption) ?_; rotate_left; (focus (intro wS hSw; skip; go_simp; try with_reducible rfl)); (try simp only [Act.put, List.setIfInBounds_toArray, List.set_cons_zero, List.set_cons_succ]))
  refine wpAnyH_done (by kernel_rfl) ?_ _
  exact ⟨rfl, rfl, hHeld⟩
end Go.Proofs.YtdmbjndhdldggaaDoor
