/- Texts of this proof, merged: EnD Sees EnF EnI EnJ EnG. -/
import Derived.Test.YtdmbjndhdldggaaDoorMa
import Derived.ProofKit
import Derived.OpenShut
import Derived.ShutString
import Derived.ChangeOld
namespace Go.Proofs.YtdmbjndhdldggaaDoor
set_option linter.unusedVariables false
set_option linter.unusedSimpArgs false
open Go.RowKit Go.Lib Go.Sort

/-- Two tuples, compared. -/
theorem tup_eql (r a p b q r2 a2 p2 b2 q2 : Nat) (W : World) : (binOp .eql 28 (.agg #[.int .u8 r2, .int .u32 a2, .int .u16 p2, .int .u32 b2, .int .u16 q2]) (.agg #[.int .u8 r, .int .u32 a, .int .u16 p, .int .u32 b, .int .u16 q])).run Tryd.prog W =
    .ok (.bool (decide (r2 = r ∧ a2 = a ∧ p2 = p ∧ b2 = b ∧ q2 = q))) W := by
  have beq : ∀ x y : Nat, x ≠ y → ((x : Int) == (y : Int)) = false := fun x y h => beq_eq_false_iff_ne.2 (by omega)
  by_cases h1 : r2 = r
  · subst h1
    by_cases h2 : a2 = a
    · subst h2
      by_cases h3 : p2 = p
      · subst h3
        by_cases h4 : b2 = b
        · subst h4
          by_cases h5 : q2 = q
          · subst h5; simp only [and_self, decide_true]; go_simp
          · have e := beq _ _ h5
            rw [decide_eq_false (by simp [h5])]; go_simp
        · have e := beq _ _ h4
          rw [decide_eq_false (by simp [h4])]; go_simp
      · have e := beq _ _ h3
        rw [decide_eq_false (by simp [h3])]; go_simp
    · have e := beq _ _ h2
      rw [decide_eq_false (by simp [h2])]; go_simp
  · have e := beq _ _ h1
    rw [decide_eq_false (by simp [h1])]; go_simp

/-- May an entry be? -/
def chkB (r p q r2 p2 q2 : Nat) (same : Bool) (st dl : Int) (n : Nat) : Bool :=
  tupB r p q && tupB r2 p2 q2 && !same && decide (r = r2) && decide (0 < toN (flowN r) st) && decide (0 ≤ dl ∧ dl ≤ 1099511635216) && decide (1 ≤ n ∧ n ≤ 2)

set_option maxHeartbeats 2000000 in
set_option maxRecDepth 100000 in
theorem check_t1 (r a p b q r2 a2 p2 b2 q2 : Nat) (st dl : Int) (o : Option Addr) (n c : Nat) (hr : r < 256) (hr2 : r2 < 256) (w : World) (ht : Tb w) (h1 : tupB r p q = false) :
    Calls Tryd.prog 19 #[.agg #[.int .u8 r, .int .u32 a, .int .u16 p, .int .u32 b, .int .u16 q, .int .u8 r2, .int .u32 a2, .int .u16 p2, .int .u32 b2, .int .u16 q2, .int .i64 st, .int .i64 dl, .slice o n c]] w (Ret1 (.int .i64 2) w) := by
  have k1 := fun W hW => tup_ok r a p b q hr W hW
  have k2 := fun W hW => tup_ok r2 a2 p2 b2 q2 hr2 W hW
  have k3 := fun W => flow_ok r W
  have k4 := fun W hW => tmay_ok (flowN r) (flowN_lt r) st W hW
  rw [h1] at k1
  have K1 := Lib.hid k1
  have K2 := Lib.hid k2
  have K3 := Lib.hid k3
  have K4 := Lib.hid k4
  have Ht := Lib.hid ht
  clear k1 k2 k3 k4 ht
  go_enter Tryd.func19, Tryd.ntmps19
  go_wp2_with fail
  have hn0 : NoW w (w.alloc (.cells #[.int .u8 r, .int .u32 a, .int .u16 p, .int .u32 b, .int .u16 q, .int .u8 r2, .int .u32 a2, .int .u16 p2, .int .u32 b2, .int .u16 q2, .int .i64 st, .int .i64 dl, .slice o n c] 31)) := (Fp.refl _ _).alloc _
  have hb0 := heap_alloc_new w (.cells #[.int .u8 r, .int .u32 a, .int .u16 p, .int .u32 b, .int .u16 q, .int .u8 r2, .int .u32 a2, .int .u16 p2, .int .u32 b2, .int .u16 q2, .int .i64 st, .int .i64 dl, .slice o n c] 31)
  generalize w.alloc (.cells #[.int .u8 r, .int .u32 a, .int .u16 p, .int .u32 b, .int .u16 q, .int .u8 r2, .int .u32 a2, .int .u16 p2, .int .u32 b2, .int .u16 q2, .int .i64 st, .int .i64 dl, .slice o n c] 31) = w0 at *
  generalize w.heap.size = g at *
  have Hn0 := Lib.hid hn0
  have B := Lib.hid hb0
  clear hn0 hb0
  refine (K1.out _ (Ht.out.low Hn0.out)).mono ?_
  rintro e v0 ⟨rfl, hp⟩
  have Hm0 := Lib.hid (Hn0.out.trans hp (fun _ _ h => h))
  have hb := (hp.block _ (Array.getElem?_eq_some_iff.1 B.out).1 id).trans B.out
  clear B hp Hn0
  have B := Lib.hid hb
  clear hb
  have c0 : v0.cell? ⟨g, 0, none⟩ = some (.int .u8 r) := by simp [World.cell?, B.out]
  have c1 : v0.cell? ⟨g, 1, none⟩ = some (.int .u32 a) := by simp [World.cell?, B.out]
  have c2 : v0.cell? ⟨g, 2, none⟩ = some (.int .u16 p) := by simp [World.cell?, B.out]
  have c3 : v0.cell? ⟨g, 3, none⟩ = some (.int .u32 b) := by simp [World.cell?, B.out]
  have c4 : v0.cell? ⟨g, 4, none⟩ = some (.int .u16 q) := by simp [World.cell?, B.out]
  have c5 : v0.cell? ⟨g, 5, none⟩ = some (.int .u8 r2) := by simp [World.cell?, B.out]
  have c6 : v0.cell? ⟨g, 6, none⟩ = some (.int .u32 a2) := by simp [World.cell?, B.out]
  have c7 : v0.cell? ⟨g, 7, none⟩ = some (.int .u16 p2) := by simp [World.cell?, B.out]
  have c8 : v0.cell? ⟨g, 8, none⟩ = some (.int .u32 b2) := by simp [World.cell?, B.out]
  have c9 : v0.cell? ⟨g, 9, none⟩ = some (.int .u16 q2) := by simp [World.cell?, B.out]
  have c10 : v0.cell? ⟨g, 10, none⟩ = some (.int .i64 st) := by simp [World.cell?, B.out]
  have c11 : v0.cell? ⟨g, 11, none⟩ = some (.int .i64 dl) := by simp [World.cell?, B.out]
  have c12 : v0.cell? ⟨g, 12, none⟩ = some (.slice o n c) := by simp [World.cell?, B.out]
  go_wp2_with fail
  go_ret
  exact ⟨rfl, Hm0.out⟩

set_option maxHeartbeats 2000000 in
set_option maxRecDepth 100000 in
theorem check_t2 (r a p b q r2 a2 p2 b2 q2 : Nat) (st dl : Int) (o : Option Addr) (n c : Nat) (hr : r < 256) (hr2 : r2 < 256) (w : World) (ht : Tb w) (h1 : tupB r p q = true) (h2 : tupB r2 p2 q2 = false) :
    Calls Tryd.prog 19 #[.agg #[.int .u8 r, .int .u32 a, .int .u16 p, .int .u32 b, .int .u16 q, .int .u8 r2, .int .u32 a2, .int .u16 p2, .int .u32 b2, .int .u16 q2, .int .i64 st, .int .i64 dl, .slice o n c]] w (Ret1 (.int .i64 2) w) := by
  have k1 := fun W hW => tup_ok r a p b q hr W hW
  have k2 := fun W hW => tup_ok r2 a2 p2 b2 q2 hr2 W hW
  have k3 := fun W => flow_ok r W
  have k4 := fun W hW => tmay_ok (flowN r) (flowN_lt r) st W hW
  rw [h1] at k1
  rw [h2] at k2
  have K1 := Lib.hid k1
  have K2 := Lib.hid k2
  have K3 := Lib.hid k3
  have K4 := Lib.hid k4
  have Ht := Lib.hid ht
  clear k1 k2 k3 k4 ht
  go_enter Tryd.func19, Tryd.ntmps19
  go_wp2_with fail
  have hn0 : NoW w (w.alloc (.cells #[.int .u8 r, .int .u32 a, .int .u16 p, .int .u32 b, .int .u16 q, .int .u8 r2, .int .u32 a2, .int .u16 p2, .int .u32 b2, .int .u16 q2, .int .i64 st, .int .i64 dl, .slice o n c] 31)) := (Fp.refl _ _).alloc _
  have hb0 := heap_alloc_new w (.cells #[.int .u8 r, .int .u32 a, .int .u16 p, .int .u32 b, .int .u16 q, .int .u8 r2, .int .u32 a2, .int .u16 p2, .int .u32 b2, .int .u16 q2, .int .i64 st, .int .i64 dl, .slice o n c] 31)
  generalize w.alloc (.cells #[.int .u8 r, .int .u32 a, .int .u16 p, .int .u32 b, .int .u16 q, .int .u8 r2, .int .u32 a2, .int .u16 p2, .int .u32 b2, .int .u16 q2, .int .i64 st, .int .i64 dl, .slice o n c] 31) = w0 at *
  generalize w.heap.size = g at *
  have Hn0 := Lib.hid hn0
  have B := Lib.hid hb0
  clear hn0 hb0
  refine (K1.out _ (Ht.out.low Hn0.out)).mono ?_
  rintro e v0 ⟨rfl, hp⟩
  have Hm0 := Lib.hid (Hn0.out.trans hp (fun _ _ h => h))
  have hb := (hp.block _ (Array.getElem?_eq_some_iff.1 B.out).1 id).trans B.out
  clear B hp Hn0
  have B := Lib.hid hb
  clear hb
  have c0 : v0.cell? ⟨g, 0, none⟩ = some (.int .u8 r) := by simp [World.cell?, B.out]
  have c1 : v0.cell? ⟨g, 1, none⟩ = some (.int .u32 a) := by simp [World.cell?, B.out]
  have c2 : v0.cell? ⟨g, 2, none⟩ = some (.int .u16 p) := by simp [World.cell?, B.out]
  have c3 : v0.cell? ⟨g, 3, none⟩ = some (.int .u32 b) := by simp [World.cell?, B.out]
  have c4 : v0.cell? ⟨g, 4, none⟩ = some (.int .u16 q) := by simp [World.cell?, B.out]
  have c5 : v0.cell? ⟨g, 5, none⟩ = some (.int .u8 r2) := by simp [World.cell?, B.out]
  have c6 : v0.cell? ⟨g, 6, none⟩ = some (.int .u32 a2) := by simp [World.cell?, B.out]
  have c7 : v0.cell? ⟨g, 7, none⟩ = some (.int .u16 p2) := by simp [World.cell?, B.out]
  have c8 : v0.cell? ⟨g, 8, none⟩ = some (.int .u32 b2) := by simp [World.cell?, B.out]
  have c9 : v0.cell? ⟨g, 9, none⟩ = some (.int .u16 q2) := by simp [World.cell?, B.out]
  have c10 : v0.cell? ⟨g, 10, none⟩ = some (.int .i64 st) := by simp [World.cell?, B.out]
  have c11 : v0.cell? ⟨g, 11, none⟩ = some (.int .i64 dl) := by simp [World.cell?, B.out]
  have c12 : v0.cell? ⟨g, 12, none⟩ = some (.slice o n c) := by simp [World.cell?, B.out]
  go_wp2_with fail
  clear c0 c1 c2 c3 c4 c5 c6 c7 c8 c9 c10 c11 c12
  refine (K2.out _ (Ht.out.low Hm0.out)).mono ?_
  rintro e v1 ⟨rfl, hp⟩
  have Hm1 := Lib.hid (Hm0.out.trans hp (fun _ _ h => h))
  have hb := (hp.block _ (Array.getElem?_eq_some_iff.1 B.out).1 id).trans B.out
  clear B hp Hm0
  have B := Lib.hid hb
  clear hb
  have c0 : v1.cell? ⟨g, 0, none⟩ = some (.int .u8 r) := by simp [World.cell?, B.out]
  have c1 : v1.cell? ⟨g, 1, none⟩ = some (.int .u32 a) := by simp [World.cell?, B.out]
  have c2 : v1.cell? ⟨g, 2, none⟩ = some (.int .u16 p) := by simp [World.cell?, B.out]
  have c3 : v1.cell? ⟨g, 3, none⟩ = some (.int .u32 b) := by simp [World.cell?, B.out]
  have c4 : v1.cell? ⟨g, 4, none⟩ = some (.int .u16 q) := by simp [World.cell?, B.out]
  have c5 : v1.cell? ⟨g, 5, none⟩ = some (.int .u8 r2) := by simp [World.cell?, B.out]
  have c6 : v1.cell? ⟨g, 6, none⟩ = some (.int .u32 a2) := by simp [World.cell?, B.out]
  have c7 : v1.cell? ⟨g, 7, none⟩ = some (.int .u16 p2) := by simp [World.cell?, B.out]
  have c8 : v1.cell? ⟨g, 8, none⟩ = some (.int .u32 b2) := by simp [World.cell?, B.out]
  have c9 : v1.cell? ⟨g, 9, none⟩ = some (.int .u16 q2) := by simp [World.cell?, B.out]
  have c10 : v1.cell? ⟨g, 10, none⟩ = some (.int .i64 st) := by simp [World.cell?, B.out]
  have c11 : v1.cell? ⟨g, 11, none⟩ = some (.int .i64 dl) := by simp [World.cell?, B.out]
  have c12 : v1.cell? ⟨g, 12, none⟩ = some (.slice o n c) := by simp [World.cell?, B.out]
  go_wp2_with fail
  go_ret
  exact ⟨rfl, Hm1.out⟩

set_option maxHeartbeats 2000000 in
set_option maxRecDepth 100000 in
theorem check_same (r a p b q r2 a2 p2 b2 q2 : Nat) (st dl : Int) (o : Option Addr) (n c : Nat) (hr : r < 256) (hr2 : r2 < 256) (w : World) (ht : Tb w) (h1 : tupB r p q = true) (h2 : tupB r2 p2 q2 = true) (hne : decide (r = r2 ∧ a = a2 ∧ p = p2 ∧ b = b2 ∧ q = q2) = true) :
    Calls Tryd.prog 19 #[.agg #[.int .u8 r, .int .u32 a, .int .u16 p, .int .u32 b, .int .u16 q, .int .u8 r2, .int .u32 a2, .int .u16 p2, .int .u32 b2, .int .u16 q2, .int .i64 st, .int .i64 dl, .slice o n c]] w (Ret1 (.int .i64 2) w) := by
  have k1 := fun W hW => tup_ok r a p b q hr W hW
  have k2 := fun W hW => tup_ok r2 a2 p2 b2 q2 hr2 W hW
  have k3 := fun W => flow_ok r W
  have k4 := fun W hW => tmay_ok (flowN r) (flowN_lt r) st W hW
  rw [h1] at k1
  rw [h2] at k2
  have heq := fun W => tup_eql r2 a2 p2 b2 q2 r a p b q W
  rw [hne] at heq
  clear hne
  have K1 := Lib.hid k1
  have K2 := Lib.hid k2
  have K3 := Lib.hid k3
  have K4 := Lib.hid k4
  have Ht := Lib.hid ht
  clear k1 k2 k3 k4 ht
  go_enter Tryd.func19, Tryd.ntmps19
  go_wp2_with fail
  have hn0 : NoW w (w.alloc (.cells #[.int .u8 r, .int .u32 a, .int .u16 p, .int .u32 b, .int .u16 q, .int .u8 r2, .int .u32 a2, .int .u16 p2, .int .u32 b2, .int .u16 q2, .int .i64 st, .int .i64 dl, .slice o n c] 31)) := (Fp.refl _ _).alloc _
  have hb0 := heap_alloc_new w (.cells #[.int .u8 r, .int .u32 a, .int .u16 p, .int .u32 b, .int .u16 q, .int .u8 r2, .int .u32 a2, .int .u16 p2, .int .u32 b2, .int .u16 q2, .int .i64 st, .int .i64 dl, .slice o n c] 31)
  generalize w.alloc (.cells #[.int .u8 r, .int .u32 a, .int .u16 p, .int .u32 b, .int .u16 q, .int .u8 r2, .int .u32 a2, .int .u16 p2, .int .u32 b2, .int .u16 q2, .int .i64 st, .int .i64 dl, .slice o n c] 31) = w0 at *
  generalize w.heap.size = g at *
  have Hn0 := Lib.hid hn0
  have B := Lib.hid hb0
  clear hn0 hb0
  refine (K1.out _ (Ht.out.low Hn0.out)).mono ?_
  rintro e v0 ⟨rfl, hp⟩
  have Hm0 := Lib.hid (Hn0.out.trans hp (fun _ _ h => h))
  have hb := (hp.block _ (Array.getElem?_eq_some_iff.1 B.out).1 id).trans B.out
  clear B hp Hn0
  have B := Lib.hid hb
  clear hb
  have c0 : v0.cell? ⟨g, 0, none⟩ = some (.int .u8 r) := by simp [World.cell?, B.out]
  have c1 : v0.cell? ⟨g, 1, none⟩ = some (.int .u32 a) := by simp [World.cell?, B.out]
  have c2 : v0.cell? ⟨g, 2, none⟩ = some (.int .u16 p) := by simp [World.cell?, B.out]
  have c3 : v0.cell? ⟨g, 3, none⟩ = some (.int .u32 b) := by simp [World.cell?, B.out]
  have c4 : v0.cell? ⟨g, 4, none⟩ = some (.int .u16 q) := by simp [World.cell?, B.out]
  have c5 : v0.cell? ⟨g, 5, none⟩ = some (.int .u8 r2) := by simp [World.cell?, B.out]
  have c6 : v0.cell? ⟨g, 6, none⟩ = some (.int .u32 a2) := by simp [World.cell?, B.out]
  have c7 : v0.cell? ⟨g, 7, none⟩ = some (.int .u16 p2) := by simp [World.cell?, B.out]
  have c8 : v0.cell? ⟨g, 8, none⟩ = some (.int .u32 b2) := by simp [World.cell?, B.out]
  have c9 : v0.cell? ⟨g, 9, none⟩ = some (.int .u16 q2) := by simp [World.cell?, B.out]
  have c10 : v0.cell? ⟨g, 10, none⟩ = some (.int .i64 st) := by simp [World.cell?, B.out]
  have c11 : v0.cell? ⟨g, 11, none⟩ = some (.int .i64 dl) := by simp [World.cell?, B.out]
  have c12 : v0.cell? ⟨g, 12, none⟩ = some (.slice o n c) := by simp [World.cell?, B.out]
  go_wp2_with fail
  clear c0 c1 c2 c3 c4 c5 c6 c7 c8 c9 c10 c11 c12
  refine (K2.out _ (Ht.out.low Hm0.out)).mono ?_
  rintro e v1 ⟨rfl, hp⟩
  have Hm1 := Lib.hid (Hm0.out.trans hp (fun _ _ h => h))
  have hb := (hp.block _ (Array.getElem?_eq_some_iff.1 B.out).1 id).trans B.out
  clear B hp Hm0
  have B := Lib.hid hb
  clear hb
  have c0 : v1.cell? ⟨g, 0, none⟩ = some (.int .u8 r) := by simp [World.cell?, B.out]
  have c1 : v1.cell? ⟨g, 1, none⟩ = some (.int .u32 a) := by simp [World.cell?, B.out]
  have c2 : v1.cell? ⟨g, 2, none⟩ = some (.int .u16 p) := by simp [World.cell?, B.out]
  have c3 : v1.cell? ⟨g, 3, none⟩ = some (.int .u32 b) := by simp [World.cell?, B.out]
  have c4 : v1.cell? ⟨g, 4, none⟩ = some (.int .u16 q) := by simp [World.cell?, B.out]
  have c5 : v1.cell? ⟨g, 5, none⟩ = some (.int .u8 r2) := by simp [World.cell?, B.out]
  have c6 : v1.cell? ⟨g, 6, none⟩ = some (.int .u32 a2) := by simp [World.cell?, B.out]
  have c7 : v1.cell? ⟨g, 7, none⟩ = some (.int .u16 p2) := by simp [World.cell?, B.out]
  have c8 : v1.cell? ⟨g, 8, none⟩ = some (.int .u32 b2) := by simp [World.cell?, B.out]
  have c9 : v1.cell? ⟨g, 9, none⟩ = some (.int .u16 q2) := by simp [World.cell?, B.out]
  have c10 : v1.cell? ⟨g, 10, none⟩ = some (.int .i64 st) := by simp [World.cell?, B.out]
  have c11 : v1.cell? ⟨g, 11, none⟩ = some (.int .i64 dl) := by simp [World.cell?, B.out]
  have c12 : v1.cell? ⟨g, 12, none⟩ = some (.slice o n c) := by simp [World.cell?, B.out]
  go_wp2_with fail
  go_ret
  exact ⟨rfl, Hm1.out⟩

set_option maxHeartbeats 2000000 in
set_option maxRecDepth 100000 in
theorem check_proto (r a p b q r2 a2 p2 b2 q2 : Nat) (st dl : Int) (o : Option Addr) (n c : Nat) (hr : r < 256) (hr2 : r2 < 256) (w : World) (ht : Tb w) (h1 : tupB r p q = true) (h2 : tupB r2 p2 q2 = true) (hne : decide (r = r2 ∧ a = a2 ∧ p = p2 ∧ b = b2 ∧ q = q2) = false) (hpr : r ≠ r2) :
    Calls Tryd.prog 19 #[.agg #[.int .u8 r, .int .u32 a, .int .u16 p, .int .u32 b, .int .u16 q, .int .u8 r2, .int .u32 a2, .int .u16 p2, .int .u32 b2, .int .u16 q2, .int .i64 st, .int .i64 dl, .slice o n c]] w (Ret1 (.int .i64 2) w) := by
  have k1 := fun W hW => tup_ok r a p b q hr W hW
  have k2 := fun W hW => tup_ok r2 a2 p2 b2 q2 hr2 W hW
  have k3 := fun W => flow_ok r W
  have k4 := fun W hW => tmay_ok (flowN r) (flowN_lt r) st W hW
  rw [h1] at k1
  rw [h2] at k2
  have heq := fun W => tup_eql r2 a2 p2 b2 q2 r a p b q W
  rw [hne] at heq
  clear hne
  have hp1 : ((r : Int) == (r2 : Int)) = false := beq_eq_false_iff_ne.2 (by omega)
  have hp2 : ((r : Int) != (r2 : Int)) = true := by simp; omega
  clear hpr
  have K1 := Lib.hid k1
  have K2 := Lib.hid k2
  have K3 := Lib.hid k3
  have K4 := Lib.hid k4
  have Ht := Lib.hid ht
  clear k1 k2 k3 k4 ht
  go_enter Tryd.func19, Tryd.ntmps19
  go_wp2_with fail
  have hn0 : NoW w (w.alloc (.cells #[.int .u8 r, .int .u32 a, .int .u16 p, .int .u32 b, .int .u16 q, .int .u8 r2, .int .u32 a2, .int .u16 p2, .int .u32 b2, .int .u16 q2, .int .i64 st, .int .i64 dl, .slice o n c] 31)) := (Fp.refl _ _).alloc _
  have hb0 := heap_alloc_new w (.cells #[.int .u8 r, .int .u32 a, .int .u16 p, .int .u32 b, .int .u16 q, .int .u8 r2, .int .u32 a2, .int .u16 p2, .int .u32 b2, .int .u16 q2, .int .i64 st, .int .i64 dl, .slice o n c] 31)
  generalize w.alloc (.cells #[.int .u8 r, .int .u32 a, .int .u16 p, .int .u32 b, .int .u16 q, .int .u8 r2, .int .u32 a2, .int .u16 p2, .int .u32 b2, .int .u16 q2, .int .i64 st, .int .i64 dl, .slice o n c] 31) = w0 at *
  generalize w.heap.size = g at *
  have Hn0 := Lib.hid hn0
  have B := Lib.hid hb0
  clear hn0 hb0
  refine (K1.out _ (Ht.out.low Hn0.out)).mono ?_
  rintro e v0 ⟨rfl, hp⟩
  have Hm0 := Lib.hid (Hn0.out.trans hp (fun _ _ h => h))
  have hb := (hp.block _ (Array.getElem?_eq_some_iff.1 B.out).1 id).trans B.out
  clear B hp Hn0
  have B := Lib.hid hb
  clear hb
  have c0 : v0.cell? ⟨g, 0, none⟩ = some (.int .u8 r) := by simp [World.cell?, B.out]
  have c1 : v0.cell? ⟨g, 1, none⟩ = some (.int .u32 a) := by simp [World.cell?, B.out]
  have c2 : v0.cell? ⟨g, 2, none⟩ = some (.int .u16 p) := by simp [World.cell?, B.out]
  have c3 : v0.cell? ⟨g, 3, none⟩ = some (.int .u32 b) := by simp [World.cell?, B.out]
  have c4 : v0.cell? ⟨g, 4, none⟩ = some (.int .u16 q) := by simp [World.cell?, B.out]
  have c5 : v0.cell? ⟨g, 5, none⟩ = some (.int .u8 r2) := by simp [World.cell?, B.out]
  have c6 : v0.cell? ⟨g, 6, none⟩ = some (.int .u32 a2) := by simp [World.cell?, B.out]
  have c7 : v0.cell? ⟨g, 7, none⟩ = some (.int .u16 p2) := by simp [World.cell?, B.out]
  have c8 : v0.cell? ⟨g, 8, none⟩ = some (.int .u32 b2) := by simp [World.cell?, B.out]
  have c9 : v0.cell? ⟨g, 9, none⟩ = some (.int .u16 q2) := by simp [World.cell?, B.out]
  have c10 : v0.cell? ⟨g, 10, none⟩ = some (.int .i64 st) := by simp [World.cell?, B.out]
  have c11 : v0.cell? ⟨g, 11, none⟩ = some (.int .i64 dl) := by simp [World.cell?, B.out]
  have c12 : v0.cell? ⟨g, 12, none⟩ = some (.slice o n c) := by simp [World.cell?, B.out]
  go_wp2_with fail
  clear c0 c1 c2 c3 c4 c5 c6 c7 c8 c9 c10 c11 c12
  refine (K2.out _ (Ht.out.low Hm0.out)).mono ?_
  rintro e v1 ⟨rfl, hp⟩
  have Hm1 := Lib.hid (Hm0.out.trans hp (fun _ _ h => h))
  have hb := (hp.block _ (Array.getElem?_eq_some_iff.1 B.out).1 id).trans B.out
  clear B hp Hm0
  have B := Lib.hid hb
  clear hb
  have c0 : v1.cell? ⟨g, 0, none⟩ = some (.int .u8 r) := by simp [World.cell?, B.out]
  have c1 : v1.cell? ⟨g, 1, none⟩ = some (.int .u32 a) := by simp [World.cell?, B.out]
  have c2 : v1.cell? ⟨g, 2, none⟩ = some (.int .u16 p) := by simp [World.cell?, B.out]
  have c3 : v1.cell? ⟨g, 3, none⟩ = some (.int .u32 b) := by simp [World.cell?, B.out]
  have c4 : v1.cell? ⟨g, 4, none⟩ = some (.int .u16 q) := by simp [World.cell?, B.out]
  have c5 : v1.cell? ⟨g, 5, none⟩ = some (.int .u8 r2) := by simp [World.cell?, B.out]
  have c6 : v1.cell? ⟨g, 6, none⟩ = some (.int .u32 a2) := by simp [World.cell?, B.out]
  have c7 : v1.cell? ⟨g, 7, none⟩ = some (.int .u16 p2) := by simp [World.cell?, B.out]
  have c8 : v1.cell? ⟨g, 8, none⟩ = some (.int .u32 b2) := by simp [World.cell?, B.out]
  have c9 : v1.cell? ⟨g, 9, none⟩ = some (.int .u16 q2) := by simp [World.cell?, B.out]
  have c10 : v1.cell? ⟨g, 10, none⟩ = some (.int .i64 st) := by simp [World.cell?, B.out]
  have c11 : v1.cell? ⟨g, 11, none⟩ = some (.int .i64 dl) := by simp [World.cell?, B.out]
  have c12 : v1.cell? ⟨g, 12, none⟩ = some (.slice o n c) := by simp [World.cell?, B.out]
  go_wp2_with fail
  go_ret
  exact ⟨rfl, Hm1.out⟩

set_option maxHeartbeats 2000000 in
set_option maxRecDepth 100000 in
theorem check_track (r a p b q r2 a2 p2 b2 q2 : Nat) (st dl : Int) (o : Option Addr) (n c : Nat) (hr : r < 256) (hr2 : r2 < 256) (w : World) (ht : Tb w) (h1 : tupB r p q = true) (h2 : tupB r2 p2 q2 = true) (hne : decide (r = r2 ∧ a = a2 ∧ p = p2 ∧ b = b2 ∧ q = q2) = false) (hpr : r = r2) (h4 : decide (0 < toN (flowN r) st) = false) :
    Calls Tryd.prog 19 #[.agg #[.int .u8 r, .int .u32 a, .int .u16 p, .int .u32 b, .int .u16 q, .int .u8 r2, .int .u32 a2, .int .u16 p2, .int .u32 b2, .int .u16 q2, .int .i64 st, .int .i64 dl, .slice o n c]] w (Ret1 (.int .i64 2) w) := by
  have k1 := fun W hW => tup_ok r a p b q hr W hW
  have k2 := fun W hW => tup_ok r2 a2 p2 b2 q2 hr2 W hW
  have k3 := fun W => flow_ok r W
  have k4 := fun W hW => tmay_ok (flowN r) (flowN_lt r) st W hW
  rw [h1] at k1
  rw [h2] at k2
  have heq := fun W => tup_eql r2 a2 p2 b2 q2 r a p b q W
  rw [hne] at heq
  clear hne
  have hp1 : ((r : Int) == (r2 : Int)) = true := by rw [hpr]; simp
  have hp2 : ((r : Int) != (r2 : Int)) = false := by rw [hpr]; simp
  clear hpr
  rw [h4] at k4
  clear h4
  have K1 := Lib.hid k1
  have K2 := Lib.hid k2
  have K3 := Lib.hid k3
  have K4 := Lib.hid k4
  have Ht := Lib.hid ht
  clear k1 k2 k3 k4 ht
  go_enter Tryd.func19, Tryd.ntmps19
  go_wp2_with fail
  have hn0 : NoW w (w.alloc (.cells #[.int .u8 r, .int .u32 a, .int .u16 p, .int .u32 b, .int .u16 q, .int .u8 r2, .int .u32 a2, .int .u16 p2, .int .u32 b2, .int .u16 q2, .int .i64 st, .int .i64 dl, .slice o n c] 31)) := (Fp.refl _ _).alloc _
  have hb0 := heap_alloc_new w (.cells #[.int .u8 r, .int .u32 a, .int .u16 p, .int .u32 b, .int .u16 q, .int .u8 r2, .int .u32 a2, .int .u16 p2, .int .u32 b2, .int .u16 q2, .int .i64 st, .int .i64 dl, .slice o n c] 31)
  generalize w.alloc (.cells #[.int .u8 r, .int .u32 a, .int .u16 p, .int .u32 b, .int .u16 q, .int .u8 r2, .int .u32 a2, .int .u16 p2, .int .u32 b2, .int .u16 q2, .int .i64 st, .int .i64 dl, .slice o n c] 31) = w0 at *
  generalize w.heap.size = g at *
  have Hn0 := Lib.hid hn0
  have B := Lib.hid hb0
  clear hn0 hb0
  refine (K1.out _ (Ht.out.low Hn0.out)).mono ?_
  rintro e v0 ⟨rfl, hp⟩
  have Hm0 := Lib.hid (Hn0.out.trans hp (fun _ _ h => h))
  have hb := (hp.block _ (Array.getElem?_eq_some_iff.1 B.out).1 id).trans B.out
  clear B hp Hn0
  have B := Lib.hid hb
  clear hb
  have c0 : v0.cell? ⟨g, 0, none⟩ = some (.int .u8 r) := by simp [World.cell?, B.out]
  have c1 : v0.cell? ⟨g, 1, none⟩ = some (.int .u32 a) := by simp [World.cell?, B.out]
  have c2 : v0.cell? ⟨g, 2, none⟩ = some (.int .u16 p) := by simp [World.cell?, B.out]
  have c3 : v0.cell? ⟨g, 3, none⟩ = some (.int .u32 b) := by simp [World.cell?, B.out]
  have c4 : v0.cell? ⟨g, 4, none⟩ = some (.int .u16 q) := by simp [World.cell?, B.out]
  have c5 : v0.cell? ⟨g, 5, none⟩ = some (.int .u8 r2) := by simp [World.cell?, B.out]
  have c6 : v0.cell? ⟨g, 6, none⟩ = some (.int .u32 a2) := by simp [World.cell?, B.out]
  have c7 : v0.cell? ⟨g, 7, none⟩ = some (.int .u16 p2) := by simp [World.cell?, B.out]
  have c8 : v0.cell? ⟨g, 8, none⟩ = some (.int .u32 b2) := by simp [World.cell?, B.out]
  have c9 : v0.cell? ⟨g, 9, none⟩ = some (.int .u16 q2) := by simp [World.cell?, B.out]
  have c10 : v0.cell? ⟨g, 10, none⟩ = some (.int .i64 st) := by simp [World.cell?, B.out]
  have c11 : v0.cell? ⟨g, 11, none⟩ = some (.int .i64 dl) := by simp [World.cell?, B.out]
  have c12 : v0.cell? ⟨g, 12, none⟩ = some (.slice o n c) := by simp [World.cell?, B.out]
  go_wp2_with fail
  clear c0 c1 c2 c3 c4 c5 c6 c7 c8 c9 c10 c11 c12
  refine (K2.out _ (Ht.out.low Hm0.out)).mono ?_
  rintro e v1 ⟨rfl, hp⟩
  have Hm1 := Lib.hid (Hm0.out.trans hp (fun _ _ h => h))
  have hb := (hp.block _ (Array.getElem?_eq_some_iff.1 B.out).1 id).trans B.out
  clear B hp Hm0
  have B := Lib.hid hb
  clear hb
  have c0 : v1.cell? ⟨g, 0, none⟩ = some (.int .u8 r) := by simp [World.cell?, B.out]
  have c1 : v1.cell? ⟨g, 1, none⟩ = some (.int .u32 a) := by simp [World.cell?, B.out]
  have c2 : v1.cell? ⟨g, 2, none⟩ = some (.int .u16 p) := by simp [World.cell?, B.out]
  have c3 : v1.cell? ⟨g, 3, none⟩ = some (.int .u32 b) := by simp [World.cell?, B.out]
  have c4 : v1.cell? ⟨g, 4, none⟩ = some (.int .u16 q) := by simp [World.cell?, B.out]
  have c5 : v1.cell? ⟨g, 5, none⟩ = some (.int .u8 r2) := by simp [World.cell?, B.out]
  have c6 : v1.cell? ⟨g, 6, none⟩ = some (.int .u32 a2) := by simp [World.cell?, B.out]
  have c7 : v1.cell? ⟨g, 7, none⟩ = some (.int .u16 p2) := by simp [World.cell?, B.out]
  have c8 : v1.cell? ⟨g, 8, none⟩ = some (.int .u32 b2) := by simp [World.cell?, B.out]
  have c9 : v1.cell? ⟨g, 9, none⟩ = some (.int .u16 q2) := by simp [World.cell?, B.out]
  have c10 : v1.cell? ⟨g, 10, none⟩ = some (.int .i64 st) := by simp [World.cell?, B.out]
  have c11 : v1.cell? ⟨g, 11, none⟩ = some (.int .i64 dl) := by simp [World.cell?, B.out]
  have c12 : v1.cell? ⟨g, 12, none⟩ = some (.slice o n c) := by simp [World.cell?, B.out]
  go_wp2_with fail
  go_quiet ((first | (go_at_call 16; exact Calls.quiet_of_same (K3.out _)) | (go_at_call 41; exact Calls.quiet_of_same (K4.out _ (Tb.low (Ht.out.low Hm1.out) (by first | exact Fp.refl _ _ | exact (Fp.refl _ _).drewN _ | exact (Fp.refl _ _).drew))))))
  go_wp2_with fail
  go_ret
  exact ⟨rfl, Hm1.out.drewN _⟩

set_option maxHeartbeats 2000000 in
set_option maxRecDepth 100000 in
theorem check_low (r a p b q r2 a2 p2 b2 q2 : Nat) (st dl : Int) (o : Option Addr) (n c : Nat) (hr : r < 256) (hr2 : r2 < 256) (w : World) (ht : Tb w) (h1 : tupB r p q = true) (h2 : tupB r2 p2 q2 = true) (hne : decide (r = r2 ∧ a = a2 ∧ p = p2 ∧ b = b2 ∧ q = q2) = false) (hpr : r = r2) (h4 : decide (0 < toN (flowN r) st) = true) (hd : dl < 0) :
    Calls Tryd.prog 19 #[.agg #[.int .u8 r, .int .u32 a, .int .u16 p, .int .u32 b, .int .u16 q, .int .u8 r2, .int .u32 a2, .int .u16 p2, .int .u32 b2, .int .u16 q2, .int .i64 st, .int .i64 dl, .slice o n c]] w (Ret1 (.int .i64 2) w) := by
  have k1 := fun W hW => tup_ok r a p b q hr W hW
  have k2 := fun W hW => tup_ok r2 a2 p2 b2 q2 hr2 W hW
  have k3 := fun W => flow_ok r W
  have k4 := fun W hW => tmay_ok (flowN r) (flowN_lt r) st W hW
  rw [h1] at k1
  rw [h2] at k2
  have heq := fun W => tup_eql r2 a2 p2 b2 q2 r a p b q W
  rw [hne] at heq
  clear hne
  have hp1 : ((r : Int) == (r2 : Int)) = true := by rw [hpr]; simp
  have hp2 : ((r : Int) != (r2 : Int)) = false := by rw [hpr]; simp
  clear hpr
  rw [h4] at k4
  clear h4
  have hd1 : decide (dl < 0) = true := by simpa using hd
  have K1 := Lib.hid k1
  have K2 := Lib.hid k2
  have K3 := Lib.hid k3
  have K4 := Lib.hid k4
  have Ht := Lib.hid ht
  clear k1 k2 k3 k4 ht
  go_enter Tryd.func19, Tryd.ntmps19
  go_wp2_with fail
  have hn0 : NoW w (w.alloc (.cells #[.int .u8 r, .int .u32 a, .int .u16 p, .int .u32 b, .int .u16 q, .int .u8 r2, .int .u32 a2, .int .u16 p2, .int .u32 b2, .int .u16 q2, .int .i64 st, .int .i64 dl, .slice o n c] 31)) := (Fp.refl _ _).alloc _
  have hb0 := heap_alloc_new w (.cells #[.int .u8 r, .int .u32 a, .int .u16 p, .int .u32 b, .int .u16 q, .int .u8 r2, .int .u32 a2, .int .u16 p2, .int .u32 b2, .int .u16 q2, .int .i64 st, .int .i64 dl, .slice o n c] 31)
  generalize w.alloc (.cells #[.int .u8 r, .int .u32 a, .int .u16 p, .int .u32 b, .int .u16 q, .int .u8 r2, .int .u32 a2, .int .u16 p2, .int .u32 b2, .int .u16 q2, .int .i64 st, .int .i64 dl, .slice o n c] 31) = w0 at *
  generalize w.heap.size = g at *
  have Hn0 := Lib.hid hn0
  have B := Lib.hid hb0
  clear hn0 hb0
  refine (K1.out _ (Ht.out.low Hn0.out)).mono ?_
  rintro e v0 ⟨rfl, hp⟩
  have Hm0 := Lib.hid (Hn0.out.trans hp (fun _ _ h => h))
  have hb := (hp.block _ (Array.getElem?_eq_some_iff.1 B.out).1 id).trans B.out
  clear B hp Hn0
  have B := Lib.hid hb
  clear hb
  have c0 : v0.cell? ⟨g, 0, none⟩ = some (.int .u8 r) := by simp [World.cell?, B.out]
  have c1 : v0.cell? ⟨g, 1, none⟩ = some (.int .u32 a) := by simp [World.cell?, B.out]
  have c2 : v0.cell? ⟨g, 2, none⟩ = some (.int .u16 p) := by simp [World.cell?, B.out]
  have c3 : v0.cell? ⟨g, 3, none⟩ = some (.int .u32 b) := by simp [World.cell?, B.out]
  have c4 : v0.cell? ⟨g, 4, none⟩ = some (.int .u16 q) := by simp [World.cell?, B.out]
  have c5 : v0.cell? ⟨g, 5, none⟩ = some (.int .u8 r2) := by simp [World.cell?, B.out]
  have c6 : v0.cell? ⟨g, 6, none⟩ = some (.int .u32 a2) := by simp [World.cell?, B.out]
  have c7 : v0.cell? ⟨g, 7, none⟩ = some (.int .u16 p2) := by simp [World.cell?, B.out]
  have c8 : v0.cell? ⟨g, 8, none⟩ = some (.int .u32 b2) := by simp [World.cell?, B.out]
  have c9 : v0.cell? ⟨g, 9, none⟩ = some (.int .u16 q2) := by simp [World.cell?, B.out]
  have c10 : v0.cell? ⟨g, 10, none⟩ = some (.int .i64 st) := by simp [World.cell?, B.out]
  have c11 : v0.cell? ⟨g, 11, none⟩ = some (.int .i64 dl) := by simp [World.cell?, B.out]
  have c12 : v0.cell? ⟨g, 12, none⟩ = some (.slice o n c) := by simp [World.cell?, B.out]
  go_wp2_with fail
  clear c0 c1 c2 c3 c4 c5 c6 c7 c8 c9 c10 c11 c12
  refine (K2.out _ (Ht.out.low Hm0.out)).mono ?_
  rintro e v1 ⟨rfl, hp⟩
  have Hm1 := Lib.hid (Hm0.out.trans hp (fun _ _ h => h))
  have hb := (hp.block _ (Array.getElem?_eq_some_iff.1 B.out).1 id).trans B.out
  clear B hp Hm0
  have B := Lib.hid hb
  clear hb
  have c0 : v1.cell? ⟨g, 0, none⟩ = some (.int .u8 r) := by simp [World.cell?, B.out]
  have c1 : v1.cell? ⟨g, 1, none⟩ = some (.int .u32 a) := by simp [World.cell?, B.out]
  have c2 : v1.cell? ⟨g, 2, none⟩ = some (.int .u16 p) := by simp [World.cell?, B.out]
  have c3 : v1.cell? ⟨g, 3, none⟩ = some (.int .u32 b) := by simp [World.cell?, B.out]
  have c4 : v1.cell? ⟨g, 4, none⟩ = some (.int .u16 q) := by simp [World.cell?, B.out]
  have c5 : v1.cell? ⟨g, 5, none⟩ = some (.int .u8 r2) := by simp [World.cell?, B.out]
  have c6 : v1.cell? ⟨g, 6, none⟩ = some (.int .u32 a2) := by simp [World.cell?, B.out]
  have c7 : v1.cell? ⟨g, 7, none⟩ = some (.int .u16 p2) := by simp [World.cell?, B.out]
  have c8 : v1.cell? ⟨g, 8, none⟩ = some (.int .u32 b2) := by simp [World.cell?, B.out]
  have c9 : v1.cell? ⟨g, 9, none⟩ = some (.int .u16 q2) := by simp [World.cell?, B.out]
  have c10 : v1.cell? ⟨g, 10, none⟩ = some (.int .i64 st) := by simp [World.cell?, B.out]
  have c11 : v1.cell? ⟨g, 11, none⟩ = some (.int .i64 dl) := by simp [World.cell?, B.out]
  have c12 : v1.cell? ⟨g, 12, none⟩ = some (.slice o n c) := by simp [World.cell?, B.out]
  go_wp2_with fail
  go_quiet ((first | (go_at_call 16; exact Calls.quiet_of_same (K3.out _)) | (go_at_call 41; exact Calls.quiet_of_same (K4.out _ (Tb.low (Ht.out.low Hm1.out) (by first | exact Fp.refl _ _ | exact (Fp.refl _ _).drewN _ | exact (Fp.refl _ _).drew))))))
  go_wp2_with fail
  go_ret
  exact ⟨rfl, Hm1.out.drewN _⟩

set_option maxHeartbeats 2000000 in
set_option maxRecDepth 100000 in
theorem check_high (r a p b q r2 a2 p2 b2 q2 : Nat) (st dl : Int) (o : Option Addr) (n c : Nat) (hr : r < 256) (hr2 : r2 < 256) (w : World) (ht : Tb w) (h1 : tupB r p q = true) (h2 : tupB r2 p2 q2 = true) (hne : decide (r = r2 ∧ a = a2 ∧ p = p2 ∧ b = b2 ∧ q = q2) = false) (hpr : r = r2) (h4 : decide (0 < toN (flowN r) st) = true) (hd : 1099511635216 < dl) :
    Calls Tryd.prog 19 #[.agg #[.int .u8 r, .int .u32 a, .int .u16 p, .int .u32 b, .int .u16 q, .int .u8 r2, .int .u32 a2, .int .u16 p2, .int .u32 b2, .int .u16 q2, .int .i64 st, .int .i64 dl, .slice o n c]] w (Ret1 (.int .i64 2) w) := by
  have k1 := fun W hW => tup_ok r a p b q hr W hW
  have k2 := fun W hW => tup_ok r2 a2 p2 b2 q2 hr2 W hW
  have k3 := fun W => flow_ok r W
  have k4 := fun W hW => tmay_ok (flowN r) (flowN_lt r) st W hW
  rw [h1] at k1
  rw [h2] at k2
  have heq := fun W => tup_eql r2 a2 p2 b2 q2 r a p b q W
  rw [hne] at heq
  clear hne
  have hp1 : ((r : Int) == (r2 : Int)) = true := by rw [hpr]; simp
  have hp2 : ((r : Int) != (r2 : Int)) = false := by rw [hpr]; simp
  clear hpr
  rw [h4] at k4
  clear h4
  have hd0 : decide (dl < 0) = false := by simp; omega
  have hd1 : decide (1099511635216 < dl) = true := by simpa using hd
  have K1 := Lib.hid k1
  have K2 := Lib.hid k2
  have K3 := Lib.hid k3
  have K4 := Lib.hid k4
  have Ht := Lib.hid ht
  clear k1 k2 k3 k4 ht
  go_enter Tryd.func19, Tryd.ntmps19
  go_wp2_with fail
  have hn0 : NoW w (w.alloc (.cells #[.int .u8 r, .int .u32 a, .int .u16 p, .int .u32 b, .int .u16 q, .int .u8 r2, .int .u32 a2, .int .u16 p2, .int .u32 b2, .int .u16 q2, .int .i64 st, .int .i64 dl, .slice o n c] 31)) := (Fp.refl _ _).alloc _
  have hb0 := heap_alloc_new w (.cells #[.int .u8 r, .int .u32 a, .int .u16 p, .int .u32 b, .int .u16 q, .int .u8 r2, .int .u32 a2, .int .u16 p2, .int .u32 b2, .int .u16 q2, .int .i64 st, .int .i64 dl, .slice o n c] 31)
  generalize w.alloc (.cells #[.int .u8 r, .int .u32 a, .int .u16 p, .int .u32 b, .int .u16 q, .int .u8 r2, .int .u32 a2, .int .u16 p2, .int .u32 b2, .int .u16 q2, .int .i64 st, .int .i64 dl, .slice o n c] 31) = w0 at *
  generalize w.heap.size = g at *
  have Hn0 := Lib.hid hn0
  have B := Lib.hid hb0
  clear hn0 hb0
  refine (K1.out _ (Ht.out.low Hn0.out)).mono ?_
  rintro e v0 ⟨rfl, hp⟩
  have Hm0 := Lib.hid (Hn0.out.trans hp (fun _ _ h => h))
  have hb := (hp.block _ (Array.getElem?_eq_some_iff.1 B.out).1 id).trans B.out
  clear B hp Hn0
  have B := Lib.hid hb
  clear hb
  have c0 : v0.cell? ⟨g, 0, none⟩ = some (.int .u8 r) := by simp [World.cell?, B.out]
  have c1 : v0.cell? ⟨g, 1, none⟩ = some (.int .u32 a) := by simp [World.cell?, B.out]
  have c2 : v0.cell? ⟨g, 2, none⟩ = some (.int .u16 p) := by simp [World.cell?, B.out]
  have c3 : v0.cell? ⟨g, 3, none⟩ = some (.int .u32 b) := by simp [World.cell?, B.out]
  have c4 : v0.cell? ⟨g, 4, none⟩ = some (.int .u16 q) := by simp [World.cell?, B.out]
  have c5 : v0.cell? ⟨g, 5, none⟩ = some (.int .u8 r2) := by simp [World.cell?, B.out]
  have c6 : v0.cell? ⟨g, 6, none⟩ = some (.int .u32 a2) := by simp [World.cell?, B.out]
  have c7 : v0.cell? ⟨g, 7, none⟩ = some (.int .u16 p2) := by simp [World.cell?, B.out]
  have c8 : v0.cell? ⟨g, 8, none⟩ = some (.int .u32 b2) := by simp [World.cell?, B.out]
  have c9 : v0.cell? ⟨g, 9, none⟩ = some (.int .u16 q2) := by simp [World.cell?, B.out]
  have c10 : v0.cell? ⟨g, 10, none⟩ = some (.int .i64 st) := by simp [World.cell?, B.out]
  have c11 : v0.cell? ⟨g, 11, none⟩ = some (.int .i64 dl) := by simp [World.cell?, B.out]
  have c12 : v0.cell? ⟨g, 12, none⟩ = some (.slice o n c) := by simp [World.cell?, B.out]
  go_wp2_with fail
  clear c0 c1 c2 c3 c4 c5 c6 c7 c8 c9 c10 c11 c12
  refine (K2.out _ (Ht.out.low Hm0.out)).mono ?_
  rintro e v1 ⟨rfl, hp⟩
  have Hm1 := Lib.hid (Hm0.out.trans hp (fun _ _ h => h))
  have hb := (hp.block _ (Array.getElem?_eq_some_iff.1 B.out).1 id).trans B.out
  clear B hp Hm0
  have B := Lib.hid hb
  clear hb
  have c0 : v1.cell? ⟨g, 0, none⟩ = some (.int .u8 r) := by simp [World.cell?, B.out]
  have c1 : v1.cell? ⟨g, 1, none⟩ = some (.int .u32 a) := by simp [World.cell?, B.out]
  have c2 : v1.cell? ⟨g, 2, none⟩ = some (.int .u16 p) := by simp [World.cell?, B.out]
  have c3 : v1.cell? ⟨g, 3, none⟩ = some (.int .u32 b) := by simp [World.cell?, B.out]
  have c4 : v1.cell? ⟨g, 4, none⟩ = some (.int .u16 q) := by simp [World.cell?, B.out]
  have c5 : v1.cell? ⟨g, 5, none⟩ = some (.int .u8 r2) := by simp [World.cell?, B.out]
  have c6 : v1.cell? ⟨g, 6, none⟩ = some (.int .u32 a2) := by simp [World.cell?, B.out]
  have c7 : v1.cell? ⟨g, 7, none⟩ = some (.int .u16 p2) := by simp [World.cell?, B.out]
  have c8 : v1.cell? ⟨g, 8, none⟩ = some (.int .u32 b2) := by simp [World.cell?, B.out]
  have c9 : v1.cell? ⟨g, 9, none⟩ = some (.int .u16 q2) := by simp [World.cell?, B.out]
  have c10 : v1.cell? ⟨g, 10, none⟩ = some (.int .i64 st) := by simp [World.cell?, B.out]
  have c11 : v1.cell? ⟨g, 11, none⟩ = some (.int .i64 dl) := by simp [World.cell?, B.out]
  have c12 : v1.cell? ⟨g, 12, none⟩ = some (.slice o n c) := by simp [World.cell?, B.out]
  go_wp2_with fail
  go_quiet ((first | (go_at_call 16; exact Calls.quiet_of_same (K3.out _)) | (go_at_call 41; exact Calls.quiet_of_same (K4.out _ (Tb.low (Ht.out.low Hm1.out) (by first | exact Fp.refl _ _ | exact (Fp.refl _ _).drewN _ | exact (Fp.refl _ _).drew))))))
  go_wp2_with fail
  go_ret
  exact ⟨rfl, Hm1.out.drewN _⟩

set_option maxHeartbeats 2000000 in
set_option maxRecDepth 100000 in
theorem check_few (r a p b q r2 a2 p2 b2 q2 : Nat) (st dl : Int) (o : Option Addr) (n c : Nat) (hr : r < 256) (hr2 : r2 < 256) (w : World) (ht : Tb w) (h1 : tupB r p q = true) (h2 : tupB r2 p2 q2 = true) (hne : decide (r = r2 ∧ a = a2 ∧ p = p2 ∧ b = b2 ∧ q = q2) = false) (hpr : r = r2) (h4 : decide (0 < toN (flowN r) st) = true) (hda : 0 ≤ dl) (hdb : dl ≤ 1099511635216) (hn : n < 1) :
    Calls Tryd.prog 19 #[.agg #[.int .u8 r, .int .u32 a, .int .u16 p, .int .u32 b, .int .u16 q, .int .u8 r2, .int .u32 a2, .int .u16 p2, .int .u32 b2, .int .u16 q2, .int .i64 st, .int .i64 dl, .slice o n c]] w (Ret1 (.int .i64 2) w) := by
  have k1 := fun W hW => tup_ok r a p b q hr W hW
  have k2 := fun W hW => tup_ok r2 a2 p2 b2 q2 hr2 W hW
  have k3 := fun W => flow_ok r W
  have k4 := fun W hW => tmay_ok (flowN r) (flowN_lt r) st W hW
  rw [h1] at k1
  rw [h2] at k2
  have heq := fun W => tup_eql r2 a2 p2 b2 q2 r a p b q W
  rw [hne] at heq
  clear hne
  have hp1 : ((r : Int) == (r2 : Int)) = true := by rw [hpr]; simp
  have hp2 : ((r : Int) != (r2 : Int)) = false := by rw [hpr]; simp
  clear hpr
  rw [h4] at k4
  clear h4
  have hd0 : decide (dl < 0) = false := by simp; omega
  have hd1 : decide (1099511635216 < dl) = false := by simp; omega
  have hn1 : decide ((n : Int) < 1) = true := by simp; omega
  have K1 := Lib.hid k1
  have K2 := Lib.hid k2
  have K3 := Lib.hid k3
  have K4 := Lib.hid k4
  have Ht := Lib.hid ht
  clear k1 k2 k3 k4 ht
  go_enter Tryd.func19, Tryd.ntmps19
  go_wp2_with fail
  have hn0 : NoW w (w.alloc (.cells #[.int .u8 r, .int .u32 a, .int .u16 p, .int .u32 b, .int .u16 q, .int .u8 r2, .int .u32 a2, .int .u16 p2, .int .u32 b2, .int .u16 q2, .int .i64 st, .int .i64 dl, .slice o n c] 31)) := (Fp.refl _ _).alloc _
  have hb0 := heap_alloc_new w (.cells #[.int .u8 r, .int .u32 a, .int .u16 p, .int .u32 b, .int .u16 q, .int .u8 r2, .int .u32 a2, .int .u16 p2, .int .u32 b2, .int .u16 q2, .int .i64 st, .int .i64 dl, .slice o n c] 31)
  generalize w.alloc (.cells #[.int .u8 r, .int .u32 a, .int .u16 p, .int .u32 b, .int .u16 q, .int .u8 r2, .int .u32 a2, .int .u16 p2, .int .u32 b2, .int .u16 q2, .int .i64 st, .int .i64 dl, .slice o n c] 31) = w0 at *
  generalize w.heap.size = g at *
  have Hn0 := Lib.hid hn0
  have B := Lib.hid hb0
  clear hn0 hb0
  refine (K1.out _ (Ht.out.low Hn0.out)).mono ?_
  rintro e v0 ⟨rfl, hp⟩
  have Hm0 := Lib.hid (Hn0.out.trans hp (fun _ _ h => h))
  have hb := (hp.block _ (Array.getElem?_eq_some_iff.1 B.out).1 id).trans B.out
  clear B hp Hn0
  have B := Lib.hid hb
  clear hb
  have c0 : v0.cell? ⟨g, 0, none⟩ = some (.int .u8 r) := by simp [World.cell?, B.out]
  have c1 : v0.cell? ⟨g, 1, none⟩ = some (.int .u32 a) := by simp [World.cell?, B.out]
  have c2 : v0.cell? ⟨g, 2, none⟩ = some (.int .u16 p) := by simp [World.cell?, B.out]
  have c3 : v0.cell? ⟨g, 3, none⟩ = some (.int .u32 b) := by simp [World.cell?, B.out]
  have c4 : v0.cell? ⟨g, 4, none⟩ = some (.int .u16 q) := by simp [World.cell?, B.out]
  have c5 : v0.cell? ⟨g, 5, none⟩ = some (.int .u8 r2) := by simp [World.cell?, B.out]
  have c6 : v0.cell? ⟨g, 6, none⟩ = some (.int .u32 a2) := by simp [World.cell?, B.out]
  have c7 : v0.cell? ⟨g, 7, none⟩ = some (.int .u16 p2) := by simp [World.cell?, B.out]
  have c8 : v0.cell? ⟨g, 8, none⟩ = some (.int .u32 b2) := by simp [World.cell?, B.out]
  have c9 : v0.cell? ⟨g, 9, none⟩ = some (.int .u16 q2) := by simp [World.cell?, B.out]
  have c10 : v0.cell? ⟨g, 10, none⟩ = some (.int .i64 st) := by simp [World.cell?, B.out]
  have c11 : v0.cell? ⟨g, 11, none⟩ = some (.int .i64 dl) := by simp [World.cell?, B.out]
  have c12 : v0.cell? ⟨g, 12, none⟩ = some (.slice o n c) := by simp [World.cell?, B.out]
  go_wp2_with fail
  clear c0 c1 c2 c3 c4 c5 c6 c7 c8 c9 c10 c11 c12
  refine (K2.out _ (Ht.out.low Hm0.out)).mono ?_
  rintro e v1 ⟨rfl, hp⟩
  have Hm1 := Lib.hid (Hm0.out.trans hp (fun _ _ h => h))
  have hb := (hp.block _ (Array.getElem?_eq_some_iff.1 B.out).1 id).trans B.out
  clear B hp Hm0
  have B := Lib.hid hb
  clear hb
  have c0 : v1.cell? ⟨g, 0, none⟩ = some (.int .u8 r) := by simp [World.cell?, B.out]
  have c1 : v1.cell? ⟨g, 1, none⟩ = some (.int .u32 a) := by simp [World.cell?, B.out]
  have c2 : v1.cell? ⟨g, 2, none⟩ = some (.int .u16 p) := by simp [World.cell?, B.out]
  have c3 : v1.cell? ⟨g, 3, none⟩ = some (.int .u32 b) := by simp [World.cell?, B.out]
  have c4 : v1.cell? ⟨g, 4, none⟩ = some (.int .u16 q) := by simp [World.cell?, B.out]
  have c5 : v1.cell? ⟨g, 5, none⟩ = some (.int .u8 r2) := by simp [World.cell?, B.out]
  have c6 : v1.cell? ⟨g, 6, none⟩ = some (.int .u32 a2) := by simp [World.cell?, B.out]
  have c7 : v1.cell? ⟨g, 7, none⟩ = some (.int .u16 p2) := by simp [World.cell?, B.out]
  have c8 : v1.cell? ⟨g, 8, none⟩ = some (.int .u32 b2) := by simp [World.cell?, B.out]
  have c9 : v1.cell? ⟨g, 9, none⟩ = some (.int .u16 q2) := by simp [World.cell?, B.out]
  have c10 : v1.cell? ⟨g, 10, none⟩ = some (.int .i64 st) := by simp [World.cell?, B.out]
  have c11 : v1.cell? ⟨g, 11, none⟩ = some (.int .i64 dl) := by simp [World.cell?, B.out]
  have c12 : v1.cell? ⟨g, 12, none⟩ = some (.slice o n c) := by simp [World.cell?, B.out]
  go_wp2_with fail
  go_quiet ((first | (go_at_call 16; exact Calls.quiet_of_same (K3.out _)) | (go_at_call 41; exact Calls.quiet_of_same (K4.out _ (Tb.low (Ht.out.low Hm1.out) (by first | exact Fp.refl _ _ | exact (Fp.refl _ _).drewN _ | exact (Fp.refl _ _).drew))))))
  go_wp2_with fail
  go_ret
  exact ⟨rfl, Hm1.out.drewN _⟩

set_option maxHeartbeats 2000000 in
set_option maxRecDepth 100000 in
theorem check_many (r a p b q r2 a2 p2 b2 q2 : Nat) (st dl : Int) (o : Option Addr) (n c : Nat) (hr : r < 256) (hr2 : r2 < 256) (w : World) (ht : Tb w) (h1 : tupB r p q = true) (h2 : tupB r2 p2 q2 = true) (hne : decide (r = r2 ∧ a = a2 ∧ p = p2 ∧ b = b2 ∧ q = q2) = false) (hpr : r = r2) (h4 : decide (0 < toN (flowN r) st) = true) (hda : 0 ≤ dl) (hdb : dl ≤ 1099511635216) (hn : 2 < n) :
    Calls Tryd.prog 19 #[.agg #[.int .u8 r, .int .u32 a, .int .u16 p, .int .u32 b, .int .u16 q, .int .u8 r2, .int .u32 a2, .int .u16 p2, .int .u32 b2, .int .u16 q2, .int .i64 st, .int .i64 dl, .slice o n c]] w (Ret1 (.int .i64 2) w) := by
  have k1 := fun W hW => tup_ok r a p b q hr W hW
  have k2 := fun W hW => tup_ok r2 a2 p2 b2 q2 hr2 W hW
  have k3 := fun W => flow_ok r W
  have k4 := fun W hW => tmay_ok (flowN r) (flowN_lt r) st W hW
  rw [h1] at k1
  rw [h2] at k2
  have heq := fun W => tup_eql r2 a2 p2 b2 q2 r a p b q W
  rw [hne] at heq
  clear hne
  have hp1 : ((r : Int) == (r2 : Int)) = true := by rw [hpr]; simp
  have hp2 : ((r : Int) != (r2 : Int)) = false := by rw [hpr]; simp
  clear hpr
  rw [h4] at k4
  clear h4
  have hd0 : decide (dl < 0) = false := by simp; omega
  have hd1 : decide (1099511635216 < dl) = false := by simp; omega
  have hn1 : decide ((n : Int) < 1) = false := by simp; omega
  have hn2 : decide (2 < (n : Int)) = true := by simp; omega
  have K1 := Lib.hid k1
  have K2 := Lib.hid k2
  have K3 := Lib.hid k3
  have K4 := Lib.hid k4
  have Ht := Lib.hid ht
  clear k1 k2 k3 k4 ht
  go_enter Tryd.func19, Tryd.ntmps19
  go_wp2_with fail
  have hn0 : NoW w (w.alloc (.cells #[.int .u8 r, .int .u32 a, .int .u16 p, .int .u32 b, .int .u16 q, .int .u8 r2, .int .u32 a2, .int .u16 p2, .int .u32 b2, .int .u16 q2, .int .i64 st, .int .i64 dl, .slice o n c] 31)) := (Fp.refl _ _).alloc _
  have hb0 := heap_alloc_new w (.cells #[.int .u8 r, .int .u32 a, .int .u16 p, .int .u32 b, .int .u16 q, .int .u8 r2, .int .u32 a2, .int .u16 p2, .int .u32 b2, .int .u16 q2, .int .i64 st, .int .i64 dl, .slice o n c] 31)
  generalize w.alloc (.cells #[.int .u8 r, .int .u32 a, .int .u16 p, .int .u32 b, .int .u16 q, .int .u8 r2, .int .u32 a2, .int .u16 p2, .int .u32 b2, .int .u16 q2, .int .i64 st, .int .i64 dl, .slice o n c] 31) = w0 at *
  generalize w.heap.size = g at *
  have Hn0 := Lib.hid hn0
  have B := Lib.hid hb0
  clear hn0 hb0
  refine (K1.out _ (Ht.out.low Hn0.out)).mono ?_
  rintro e v0 ⟨rfl, hp⟩
  have Hm0 := Lib.hid (Hn0.out.trans hp (fun _ _ h => h))
  have hb := (hp.block _ (Array.getElem?_eq_some_iff.1 B.out).1 id).trans B.out
  clear B hp Hn0
  have B := Lib.hid hb
  clear hb
  have c0 : v0.cell? ⟨g, 0, none⟩ = some (.int .u8 r) := by simp [World.cell?, B.out]
  have c1 : v0.cell? ⟨g, 1, none⟩ = some (.int .u32 a) := by simp [World.cell?, B.out]
  have c2 : v0.cell? ⟨g, 2, none⟩ = some (.int .u16 p) := by simp [World.cell?, B.out]
  have c3 : v0.cell? ⟨g, 3, none⟩ = some (.int .u32 b) := by simp [World.cell?, B.out]
  have c4 : v0.cell? ⟨g, 4, none⟩ = some (.int .u16 q) := by simp [World.cell?, B.out]
  have c5 : v0.cell? ⟨g, 5, none⟩ = some (.int .u8 r2) := by simp [World.cell?, B.out]
  have c6 : v0.cell? ⟨g, 6, none⟩ = some (.int .u32 a2) := by simp [World.cell?, B.out]
  have c7 : v0.cell? ⟨g, 7, none⟩ = some (.int .u16 p2) := by simp [World.cell?, B.out]
  have c8 : v0.cell? ⟨g, 8, none⟩ = some (.int .u32 b2) := by simp [World.cell?, B.out]
  have c9 : v0.cell? ⟨g, 9, none⟩ = some (.int .u16 q2) := by simp [World.cell?, B.out]
  have c10 : v0.cell? ⟨g, 10, none⟩ = some (.int .i64 st) := by simp [World.cell?, B.out]
  have c11 : v0.cell? ⟨g, 11, none⟩ = some (.int .i64 dl) := by simp [World.cell?, B.out]
  have c12 : v0.cell? ⟨g, 12, none⟩ = some (.slice o n c) := by simp [World.cell?, B.out]
  go_wp2_with fail
  clear c0 c1 c2 c3 c4 c5 c6 c7 c8 c9 c10 c11 c12
  refine (K2.out _ (Ht.out.low Hm0.out)).mono ?_
  rintro e v1 ⟨rfl, hp⟩
  have Hm1 := Lib.hid (Hm0.out.trans hp (fun _ _ h => h))
  have hb := (hp.block _ (Array.getElem?_eq_some_iff.1 B.out).1 id).trans B.out
  clear B hp Hm0
  have B := Lib.hid hb
  clear hb
  have c0 : v1.cell? ⟨g, 0, none⟩ = some (.int .u8 r) := by simp [World.cell?, B.out]
  have c1 : v1.cell? ⟨g, 1, none⟩ = some (.int .u32 a) := by simp [World.cell?, B.out]
  have c2 : v1.cell? ⟨g, 2, none⟩ = some (.int .u16 p) := by simp [World.cell?, B.out]
  have c3 : v1.cell? ⟨g, 3, none⟩ = some (.int .u32 b) := by simp [World.cell?, B.out]
  have c4 : v1.cell? ⟨g, 4, none⟩ = some (.int .u16 q) := by simp [World.cell?, B.out]
  have c5 : v1.cell? ⟨g, 5, none⟩ = some (.int .u8 r2) := by simp [World.cell?, B.out]
  have c6 : v1.cell? ⟨g, 6, none⟩ = some (.int .u32 a2) := by simp [World.cell?, B.out]
  have c7 : v1.cell? ⟨g, 7, none⟩ = some (.int .u16 p2) := by simp [World.cell?, B.out]
  have c8 : v1.cell? ⟨g, 8, none⟩ = some (.int .u32 b2) := by simp [World.cell?, B.out]
  have c9 : v1.cell? ⟨g, 9, none⟩ = some (.int .u16 q2) := by simp [World.cell?, B.out]
  have c10 : v1.cell? ⟨g, 10, none⟩ = some (.int .i64 st) := by simp [World.cell?, B.out]
  have c11 : v1.cell? ⟨g, 11, none⟩ = some (.int .i64 dl) := by simp [World.cell?, B.out]
  have c12 : v1.cell? ⟨g, 12, none⟩ = some (.slice o n c) := by simp [World.cell?, B.out]
  go_wp2_with fail
  go_quiet ((first | (go_at_call 16; exact Calls.quiet_of_same (K3.out _)) | (go_at_call 41; exact Calls.quiet_of_same (K4.out _ (Tb.low (Ht.out.low Hm1.out) (by first | exact Fp.refl _ _ | exact (Fp.refl _ _).drewN _ | exact (Fp.refl _ _).drew))))))
  go_wp2_with fail
  go_ret
  exact ⟨rfl, Hm1.out.drewN _⟩

set_option maxHeartbeats 2000000 in
set_option maxRecDepth 100000 in
theorem check_good (r a p b q r2 a2 p2 b2 q2 : Nat) (st dl : Int) (o : Option Addr) (n c : Nat) (hr : r < 256) (hr2 : r2 < 256) (w : World) (ht : Tb w) (h1 : tupB r p q = true) (h2 : tupB r2 p2 q2 = true) (hne : decide (r = r2 ∧ a = a2 ∧ p = p2 ∧ b = b2 ∧ q = q2) = false) (hpr : r = r2) (h4 : decide (0 < toN (flowN r) st) = true) (hda : 0 ≤ dl) (hdb : dl ≤ 1099511635216) (hn : 1 ≤ n ∧ n ≤ 2) :
    Calls Tryd.prog 19 #[.agg #[.int .u8 r, .int .u32 a, .int .u16 p, .int .u32 b, .int .u16 q, .int .u8 r2, .int .u32 a2, .int .u16 p2, .int .u32 b2, .int .u16 q2, .int .i64 st, .int .i64 dl, .slice o n c]] w (Ret1 (.int .i64 0) w) := by
  have k1 := fun W hW => tup_ok r a p b q hr W hW
  have k2 := fun W hW => tup_ok r2 a2 p2 b2 q2 hr2 W hW
  have k3 := fun W => flow_ok r W
  have k4 := fun W hW => tmay_ok (flowN r) (flowN_lt r) st W hW
  rw [h1] at k1
  rw [h2] at k2
  have heq := fun W => tup_eql r2 a2 p2 b2 q2 r a p b q W
  rw [hne] at heq
  clear hne
  have hp1 : ((r : Int) == (r2 : Int)) = true := by rw [hpr]; simp
  have hp2 : ((r : Int) != (r2 : Int)) = false := by rw [hpr]; simp
  clear hpr
  rw [h4] at k4
  clear h4
  have hd0 : decide (dl < 0) = false := by simp; omega
  have hd1 : decide (1099511635216 < dl) = false := by simp; omega
  have hn1 : decide ((n : Int) < 1) = false := by simp; omega
  have hn2 : decide (2 < (n : Int)) = false := by simp; omega
  have K1 := Lib.hid k1
  have K2 := Lib.hid k2
  have K3 := Lib.hid k3
  have K4 := Lib.hid k4
  have Ht := Lib.hid ht
  clear k1 k2 k3 k4 ht
  go_enter Tryd.func19, Tryd.ntmps19
  go_wp2_with fail
  have hn0 : NoW w (w.alloc (.cells #[.int .u8 r, .int .u32 a, .int .u16 p, .int .u32 b, .int .u16 q, .int .u8 r2, .int .u32 a2, .int .u16 p2, .int .u32 b2, .int .u16 q2, .int .i64 st, .int .i64 dl, .slice o n c] 31)) := (Fp.refl _ _).alloc _
  have hb0 := heap_alloc_new w (.cells #[.int .u8 r, .int .u32 a, .int .u16 p, .int .u32 b, .int .u16 q, .int .u8 r2, .int .u32 a2, .int .u16 p2, .int .u32 b2, .int .u16 q2, .int .i64 st, .int .i64 dl, .slice o n c] 31)
  generalize w.alloc (.cells #[.int .u8 r, .int .u32 a, .int .u16 p, .int .u32 b, .int .u16 q, .int .u8 r2, .int .u32 a2, .int .u16 p2, .int .u32 b2, .int .u16 q2, .int .i64 st, .int .i64 dl, .slice o n c] 31) = w0 at *
  generalize w.heap.size = g at *
  have Hn0 := Lib.hid hn0
  have B := Lib.hid hb0
  clear hn0 hb0
  refine (K1.out _ (Ht.out.low Hn0.out)).mono ?_
  rintro e v0 ⟨rfl, hp⟩
  have Hm0 := Lib.hid (Hn0.out.trans hp (fun _ _ h => h))
  have hb := (hp.block _ (Array.getElem?_eq_some_iff.1 B.out).1 id).trans B.out
  clear B hp Hn0
  have B := Lib.hid hb
  clear hb
  have c0 : v0.cell? ⟨g, 0, none⟩ = some (.int .u8 r) := by simp [World.cell?, B.out]
  have c1 : v0.cell? ⟨g, 1, none⟩ = some (.int .u32 a) := by simp [World.cell?, B.out]
  have c2 : v0.cell? ⟨g, 2, none⟩ = some (.int .u16 p) := by simp [World.cell?, B.out]
  have c3 : v0.cell? ⟨g, 3, none⟩ = some (.int .u32 b) := by simp [World.cell?, B.out]
  have c4 : v0.cell? ⟨g, 4, none⟩ = some (.int .u16 q) := by simp [World.cell?, B.out]
  have c5 : v0.cell? ⟨g, 5, none⟩ = some (.int .u8 r2) := by simp [World.cell?, B.out]
  have c6 : v0.cell? ⟨g, 6, none⟩ = some (.int .u32 a2) := by simp [World.cell?, B.out]
  have c7 : v0.cell? ⟨g, 7, none⟩ = some (.int .u16 p2) := by simp [World.cell?, B.out]
  have c8 : v0.cell? ⟨g, 8, none⟩ = some (.int .u32 b2) := by simp [World.cell?, B.out]
  have c9 : v0.cell? ⟨g, 9, none⟩ = some (.int .u16 q2) := by simp [World.cell?, B.out]
  have c10 : v0.cell? ⟨g, 10, none⟩ = some (.int .i64 st) := by simp [World.cell?, B.out]
  have c11 : v0.cell? ⟨g, 11, none⟩ = some (.int .i64 dl) := by simp [World.cell?, B.out]
  have c12 : v0.cell? ⟨g, 12, none⟩ = some (.slice o n c) := by simp [World.cell?, B.out]
  go_wp2_with fail
  clear c0 c1 c2 c3 c4 c5 c6 c7 c8 c9 c10 c11 c12
  refine (K2.out _ (Ht.out.low Hm0.out)).mono ?_
  rintro e v1 ⟨rfl, hp⟩
  have Hm1 := Lib.hid (Hm0.out.trans hp (fun _ _ h => h))
  have hb := (hp.block _ (Array.getElem?_eq_some_iff.1 B.out).1 id).trans B.out
  clear B hp Hm0
  have B := Lib.hid hb
  clear hb
  have c0 : v1.cell? ⟨g, 0, none⟩ = some (.int .u8 r) := by simp [World.cell?, B.out]
  have c1 : v1.cell? ⟨g, 1, none⟩ = some (.int .u32 a) := by simp [World.cell?, B.out]
  have c2 : v1.cell? ⟨g, 2, none⟩ = some (.int .u16 p) := by simp [World.cell?, B.out]
  have c3 : v1.cell? ⟨g, 3, none⟩ = some (.int .u32 b) := by simp [World.cell?, B.out]
  have c4 : v1.cell? ⟨g, 4, none⟩ = some (.int .u16 q) := by simp [World.cell?, B.out]
  have c5 : v1.cell? ⟨g, 5, none⟩ = some (.int .u8 r2) := by simp [World.cell?, B.out]
  have c6 : v1.cell? ⟨g, 6, none⟩ = some (.int .u32 a2) := by simp [World.cell?, B.out]
  have c7 : v1.cell? ⟨g, 7, none⟩ = some (.int .u16 p2) := by simp [World.cell?, B.out]
  have c8 : v1.cell? ⟨g, 8, none⟩ = some (.int .u32 b2) := by simp [World.cell?, B.out]
  have c9 : v1.cell? ⟨g, 9, none⟩ = some (.int .u16 q2) := by simp [World.cell?, B.out]
  have c10 : v1.cell? ⟨g, 10, none⟩ = some (.int .i64 st) := by simp [World.cell?, B.out]
  have c11 : v1.cell? ⟨g, 11, none⟩ = some (.int .i64 dl) := by simp [World.cell?, B.out]
  have c12 : v1.cell? ⟨g, 12, none⟩ = some (.slice o n c) := by simp [World.cell?, B.out]
  go_wp2_with fail
  go_quiet ((first | (go_at_call 16; exact Calls.quiet_of_same (K3.out _)) | (go_at_call 41; exact Calls.quiet_of_same (K4.out _ (Tb.low (Ht.out.low Hm1.out) (by first | exact Fp.refl _ _ | exact (Fp.refl _ _).drewN _ | exact (Fp.refl _ _).drew))))))
  go_wp2_with fail
  go_ret
  exact ⟨rfl, Hm1.out.drewN _⟩

theorem check_ok (r a p b q r2 a2 p2 b2 q2 : Nat) (st dl : Int) (o : Option Addr) (n c : Nat) (hr : r < 256) (hr2 : r2 < 256) (w : World) (ht : Tb w) :
    Calls Tryd.prog 19 #[.agg #[.int .u8 r, .int .u32 a, .int .u16 p, .int .u32 b, .int .u16 q, .int .u8 r2, .int .u32 a2, .int .u16 p2, .int .u32 b2, .int .u16 q2, .int .i64 st, .int .i64 dl, .slice o n c]] w (Ret1 (.int .i64 (if chkB r p q r2 p2 q2 (decide (r = r2 ∧ a = a2 ∧ p = p2 ∧ b = b2 ∧ q = q2)) st dl n = true then 0 else 2)) w) := by
  unfold chkB
  rcases h1 : tupB r p q with _ | _
  · simpa using check_t1 r a p b q r2 a2 p2 b2 q2 st dl o n c hr hr2 w ht h1
  rcases h2 : tupB r2 p2 q2 with _ | _
  · simpa using check_t2 r a p b q r2 a2 p2 b2 q2 st dl o n c hr hr2 w ht h1 h2
  rcases hne : decide (r = r2 ∧ a = a2 ∧ p = p2 ∧ b = b2 ∧ q = q2) with _ | _
  · by_cases hpr : r = r2
    · rcases h4 : decide (0 < toN (flowN r) st) with _ | _
      · simpa using check_track r a p b q r2 a2 p2 b2 q2 st dl o n c hr hr2 w ht h1 h2 hne hpr h4
      · by_cases hd0 : dl < 0
        · rw [if_neg (by simp; omega)]; exact check_low r a p b q r2 a2 p2 b2 q2 st dl o n c hr hr2 w ht h1 h2 hne hpr h4 hd0
        · by_cases hd1 : 1099511635216 < dl
          · rw [if_neg (by simp; omega)]; exact check_high r a p b q r2 a2 p2 b2 q2 st dl o n c hr hr2 w ht h1 h2 hne hpr h4 hd1
          · by_cases hn : n < 1
            · rw [if_neg (by simp; omega)]; exact check_few r a p b q r2 a2 p2 b2 q2 st dl o n c hr hr2 w ht h1 h2 hne hpr h4 (by omega) (by omega) hn
            · by_cases hn2 : 2 < n
              · rw [if_neg (by simp; omega)]; exact check_many r a p b q r2 a2 p2 b2 q2 st dl o n c hr hr2 w ht h1 h2 hne hpr h4 (by omega) (by omega) hn2
              · rw [if_pos (by simp; omega)]; exact check_good r a p b q r2 a2 p2 b2 q2 st dl o n c hr hr2 w ht h1 h2 hne hpr h4 (by omega) (by omega) (by omega)
    · rw [if_neg (by simp [hpr])]
      exact check_proto r a p b q r2 a2 p2 b2 q2 st dl o n c hr hr2 w ht h1 h2 hne hpr
  · simpa using check_same r a p b q r2 a2 p2 b2 q2 st dl o n c hr hr2 w ht h1 h2 hne
end Go.Proofs.YtdmbjndhdldggaaDoor

namespace Go.Proofs.YtdmbjndhdldggaaDoor
set_option linter.unusedVariables false
set_option linter.unusedSimpArgs false
open Go.RowKit Go.ChangeShapes Go.WideShapes Go.ChangeAt

/-- The cells of a value of a type, as far as a law's walk wants them. -/
def Sees (P : Program) (w : World) : Nat → TypeId → List Value → Prop
  | 0, _, _ => False
  | n + 1, t, cs => match P.underlying t with
    | some .bool => ∃ b, cs = [.bool b]
    | some (.int k) => ∃ x, cs = [.int k x] ∧ (Lit.int k x).wf = true
    | some .string => ∃ s, cs = [.string s] ∧ s.size ≤ maxLen
    | some (.slice e) => cs = [.slice none 0 0] ∨ ∃ a len cap, cs = [.slice (some a) len cap] ∧ len ≤ cap ∧ cap ≤ maxLen ∧ ∀ i, i < cap → ∃ ds, w.cells? 0 (a.add (i * P.cellsOf e)) (P.cellsOf e) = some ds ∧ Sees P w n e ds
    | some (.struct fs) => cs.length = P.cellsOf t ∧ ∀ f, f ∈ fs.toList → Sees P w n f.type ((cs.drop f.offset).take (P.cellsOf f.type))
    | some (.array m e) => cs.length = P.cellsOf t ∧ ∀ i, i < m → Sees P w n e ((cs.drop (i * P.cellsOf e)).take (P.cellsOf e))
    | _ => True

theorem mapM_some {α β : Type} {f : α → Option β} : ∀ {l : List α} {r : List β}, l.mapM f = some r → ∀ a, a ∈ l → ∃ b, f a = some b
  | [], _, _, a, ha => by cases ha
  | x :: xs, r, h, a, ha => by
    simp only [List.mapM_cons, Option.bind_eq_bind, Option.bind_eq_some_iff] at h
    obtain ⟨b, hb, bs, hbs, _⟩ := h
    rcases List.mem_cons.1 ha with rfl | ha
    · exact ⟨b, hb⟩
    · exact mapM_some hbs a ha

theorem sees_of_trod {H : Type} {enc : TypeId × Value → H} {P : Program} {w : World} {held : Bool} : ∀ (n : Nat) (t : TypeId) (cs : List Value) (x : DataW H × List MemPlace),
    DataW.trod enc P w 0 (fun _ => true) held n t cs = some x → Sees P w n t cs
  | 0, _, _, _, h => by simp [DataW.trod] at h
  | n + 1, t, cs, x, h => by
    unfold Sees
    rcases hu : P.underlying t with _ | d
    · trivial
    cases d with
    | bool =>
      simp only [DataW.trod, hu] at h
      split at h <;> first | (simp_all; done) | skip
    | int k =>
      simp only [DataW.trod, hu] at h
      split at h <;> first | (simp_all; done) | skip
    | string =>
      simp only [DataW.trod, hu] at h
      split at h <;> first | (simp_all; done) | skip
    | slice e =>
      simp only [DataW.trod, hu] at h
      split at h <;> first | (simp_all; done) | skip
      rename_i a len cap heq
      cases heq
      refine Or.inr ⟨a, len, cap, rfl, ?_⟩
      split at h
      · rename_i hc
        refine ⟨hc.2.1, hc.2.2, fun i hi => ?_⟩
        simp only [Option.bind_eq_some_iff, Option.map_eq_some_iff, if_true] at h
        obtain ⟨elems, he, rest, hr, _⟩ := h
        have key : ∃ b, ((w.cells? 0 (a.add (i * P.cellsOf e)) (P.cellsOf e)).bind (DataW.trod enc P w 0 (fun _ => true) held n e)) = some b := by
          by_cases hl : i < len
          · exact mapM_some he i (List.mem_range.2 hl)
          · have := mapM_some hr (i - len) (List.mem_range.2 (by omega))
            rw [show len + (i - len) = i from by omega] at this
            exact this
        obtain ⟨b, hb⟩ := key
        obtain ⟨ds, h1, h2⟩ := Option.bind_eq_some_iff.1 hb
        exact ⟨ds, h1, sees_of_trod n e ds b h2⟩
      · cases h
    | struct fs =>
      simp only [DataW.trod, hu] at h
      split at h <;> first | (simp_all; done) | skip
      rename_i hc
      refine ⟨hc, fun f hf => ?_⟩
      obtain ⟨xs, hx, _⟩ := Option.map_eq_some_iff.1 h
      obtain ⟨b, hb⟩ := mapM_some hx f hf
      exact sees_of_trod n _ _ b hb
    | array m e =>
      simp only [DataW.trod, hu] at h
      split at h <;> first | (simp_all; done) | skip
      rename_i hc
      refine ⟨hc, fun i hi => ?_⟩
      obtain ⟨xs, hx, _⟩ := Option.map_eq_some_iff.1 h
      obtain ⟨b, hb⟩ := mapM_some hx i (List.mem_range.2 hi)
      exact sees_of_trod n _ _ b hb
    | _ => trivial

/-- A value of a type, and its cells. -/
def Good (P : Program) (w : World) (t : TypeId) (v : Value) : Prop :=
  (∃ n, Sees P w n t v.cells.toList) ∧ match P.underlying t with
    | some (.struct _) | some (.array _ _) => ∃ cs, v = .agg cs
    | _ => v.cells = #[v]

theorem good_of {H : Type} {enc : TypeId × Value → H} {P : Program} {w : World} {r : Reach} {base : Nat} {held : Bool} {t : TypeId} {v : Value} {d : DataW H} {ps : List MemPlace}
    (hv : Value.okWide P w r base t v) (h : DataW.Trod enc P w 0 (fun _ => true) held t v d ps) : Good P w t v := by
  obtain ⟨n, hn⟩ := h
  refine ⟨⟨n, sees_of_trod n t _ _ hn⟩, ?_⟩
  unfold Value.okWide at hv
  rcases hu : P.underlying t with _ | q
  · simp only [hu] at hv ⊢
    cases v <;> simp_all [Cell.okWide, Cell.ok, Value.cells]
  · cases q <;> simp only [hu] at hv ⊢ <;> first | (obtain ⟨cs, h1, _⟩ := hv; exact ⟨cs, h1⟩) | (cases v <;> simp_all [Cell.okWide, Cell.ok, Value.cells]; done) | skip

section
variable {P : Program} {w : World} {n : Nat} {t e : TypeId} {cs : List Value}
theorem sees_int {k : IntKind} (hu : P.underlying t = some (.int k)) (h : Sees P w n t cs) : ∃ x, cs = [.int k x] ∧ (Lit.int k x).wf = true := by
  cases n with
  | zero => exact h.elim
  | succ n => simpa only [Sees, hu] using h
theorem sees_bool (hu : P.underlying t = some .bool) (h : Sees P w n t cs) : ∃ b, cs = [.bool b] := by
  cases n with
  | zero => exact h.elim
  | succ n => simpa only [Sees, hu] using h
theorem sees_string (hu : P.underlying t = some .string) (h : Sees P w n t cs) : ∃ s, cs = [.string s] ∧ s.size ≤ maxLen := by
  cases n with
  | zero => exact h.elim
  | succ n => simpa only [Sees, hu] using h
theorem sees_slice (hu : P.underlying t = some (.slice e)) (h : Sees P w n t cs) : cs = [.slice none 0 0] ∨ ∃ m a len cap, cs = [.slice (some a) len cap] ∧ len ≤ cap ∧ cap ≤ maxLen ∧ ∀ i, i < cap → ∃ ds, w.cells? 0 (a.add (i * P.cellsOf e)) (P.cellsOf e) = some ds ∧ Sees P w m e ds := by
  cases n with
  | zero => exact h.elim
  | succ n => simp only [Sees, hu] at h; exact h.imp id fun ⟨a, len, cap, r⟩ => ⟨n, a, len, cap, r⟩
theorem sees_struct {fs : Array Field} (hu : P.underlying t = some (.struct fs)) (h : Sees P w n t cs) : cs.length = P.cellsOf t ∧ ∃ m, ∀ f, f ∈ fs.toList → Sees P w m f.type ((cs.drop f.offset).take (P.cellsOf f.type)) := by
  cases n with
  | zero => exact h.elim
  | succ n => simp only [Sees, hu] at h; exact ⟨h.1, n, h.2⟩
theorem sees_array {m : Nat} (hu : P.underlying t = some (.array m e)) (h : Sees P w n t cs) : cs.length = P.cellsOf t ∧ ∃ q, ∀ i, i < m → Sees P w q e ((cs.drop (i * P.cellsOf e)).take (P.cellsOf e)) := by
  cases n with
  | zero => exact h.elim
  | succ n => simp only [Sees, hu] at h; exact ⟨h.1, n, h.2⟩
theorem good_int {v : Value} {k : IntKind} (hu : P.underlying t = some (.int k)) (h : Good P w t v) : ∃ x, v = .int k x ∧ (Lit.int k x).wf = true := by
  obtain ⟨⟨n, hs⟩, hv⟩ := h
  simp only [hu] at hv
  rw [hv] at hs
  obtain ⟨x, e, hw⟩ := sees_int hu hs
  simp at e
  exact ⟨x, e, hw⟩
theorem good_bool {v : Value} (hu : P.underlying t = some .bool) (h : Good P w t v) : ∃ b, v = .bool b := by
  obtain ⟨⟨n, hs⟩, hv⟩ := h
  simp only [hu] at hv
  rw [hv] at hs
  obtain ⟨x, e⟩ := sees_bool hu hs
  simp at e
  exact ⟨x, e⟩
theorem good_string {v : Value} (hu : P.underlying t = some .string) (h : Good P w t v) : ∃ s, v = .string s ∧ s.size ≤ maxLen := by
  obtain ⟨⟨n, hs⟩, hv⟩ := h
  simp only [hu] at hv
  rw [hv] at hs
  obtain ⟨x, e, hw⟩ := sees_string hu hs
  simp at e
  exact ⟨x, e, hw⟩
theorem good_slice {v : Value} (hu : P.underlying t = some (.slice e)) (h : Good P w t v) : v = .slice none 0 0 ∨ ∃ m a len cap, v = .slice (some a) len cap ∧ len ≤ cap ∧ cap ≤ maxLen ∧ ∀ i, i < cap → ∃ ds, w.cells? 0 (a.add (i * P.cellsOf e)) (P.cellsOf e) = some ds ∧ Sees P w m e ds := by
  obtain ⟨⟨n, hs⟩, hv⟩ := h
  simp only [hu] at hv
  rw [hv] at hs
  rcases sees_slice hu hs with e | ⟨m, a, len, cap, e, r⟩
  · simp at e; exact Or.inl e
  · simp at e; exact Or.inr ⟨m, a, len, cap, e, r⟩
theorem good_struct {v : Value} {fs : Array Field} (hu : P.underlying t = some (.struct fs)) (h : Good P w t v) : ∃ cs n, v = .agg cs ∧ Sees P w n t cs.toList := by
  obtain ⟨⟨n, hs⟩, hv⟩ := h
  simp only [hu] at hv
  obtain ⟨cs, rfl⟩ := hv
  exact ⟨cs, n, rfl, hs⟩
end

theorem wf_u8 {x : Int} (h : (Lit.int .u8 x).wf = true) : 0 ≤ x ∧ x ≤ 255 := by
  simp [Lit.wf, IntKind.has, IntKind.min, IntKind.max, IntKind.signed, IntKind.bits] at h
  omega

theorem mapM_get {α β : Type} {f : α → Option β} : ∀ {l : List α} {r : List β}, l.mapM f = some r → r.length = l.length ∧ ∀ (j : Nat) (a : α), l[j]? = some a → f a = r[j]?
  | [], r, h => by simp at h; subst h; exact ⟨rfl, fun j a ha => by simp at ha⟩
  | x :: xs, r, h => by
    simp only [List.mapM_cons, Option.bind_eq_bind, Option.bind_eq_some_iff] at h
    obtain ⟨b, hb, bs, hbs, hr⟩ := h
    have hr : b :: bs = r := by simpa using hr
    subst hr
    obtain ⟨h1, h2⟩ := mapM_get hbs
    refine ⟨by simp [h1], fun j a ha => ?_⟩
    cases j with
    | zero => simp at ha; subst ha; simpa using hb
    | succ j => simp at ha; simpa using h2 j a ha

theorem add_eq (b o i : Nat) : (⟨b, o, none⟩ : Addr).add i = ⟨b, o + i, none⟩ := by
  unfold Addr.add
  split
  · subst_vars; rfl
  · rfl

/-- A slice that came in, its elements of 'size' cells each. -/
theorem good_rows {P : Program} {w : World} {t e : TypeId} {v : Value} {size : Nat} (hu : P.underlying t = some (.slice e)) (hc : P.cellsOf e = size) (hs : 0 < size) (h : Good P w t v) :
    ∃ a len cap, v = .slice a len cap ∧ len ≤ cap ∧ cap ≤ maxLen ∧ ∃ (m : Nat) (rows : Nat → List Value), (∀ i, i < cap → (rows i).length = size ∧ Sees P w m e (rows i)) ∧
      (0 < cap → ∃ b o, a = some ⟨b, o, none⟩ ∧ ∀ i, i < cap → ∀ j, j < size → w.cell? ⟨b, o + i * size + j, none⟩ = (rows i)[j]?) := by
  rcases good_slice hu h with rfl | ⟨m, a, len, cap, rfl, h1, h2, h3⟩
  · exact ⟨none, 0, 0, rfl, Nat.le_refl _, Nat.zero_le _, 0, fun _ => [], fun i hi => by omega, fun h => by omega⟩
  · rw [hc] at h3
    have key : ∀ i, ∃ ds, i < cap → w.cells? 0 (a.add (i * size)) size = some ds ∧ Sees P w m e ds := fun i => by
      by_cases hi : i < cap
      · obtain ⟨ds, hd⟩ := h3 i hi; exact ⟨ds, fun _ => hd⟩
      · exact ⟨[], fun h => absurd h hi⟩
    obtain ⟨rows, hrows⟩ : ∃ rows : Nat → List Value, ∀ i, i < cap → w.cells? 0 (a.add (i * size)) size = some (rows i) ∧ Sees P w m e (rows i) := ⟨fun i => Classical.choose (key i), fun i hi => Classical.choose_spec (key i) hi⟩
    clear key h3
    refine ⟨some a, len, cap, rfl, h1, h2, m, rows, fun i hi => ?_, fun hpos => ?_⟩
    · obtain ⟨k1, k2⟩ := hrows i hi
      refine ⟨?_, k2⟩
      unfold World.cells? at k1
      rw [if_pos (Nat.zero_le _)] at k1
      have := (mapM_get k1).1
      simpa using this
    · have hsp : a.spot = none := by
        obtain ⟨k1, _⟩ := hrows 0 hpos
        unfold World.cells? at k1
        rw [if_pos (Nat.zero_le _)] at k1
        have hk := mapM_get k1
        have h0 := hk.2 0 0 (by simp [hs])
        rw [List.getElem?_eq_getElem (by rw [hk.1]; simpa using hs)] at h0
        have e : (a.add 0).add 0 = a := by simp [Addr.add]
        have h0' := World.cell?_spot h0
        simp only [Nat.zero_mul] at h0'
        rw [e] at h0'
        exact h0'
      obtain ⟨b, o, sp⟩ := a
      obtain rfl : sp = none := hsp
      refine ⟨b, o, rfl, fun i hi j hj => ?_⟩
      obtain ⟨k1, _⟩ := hrows i hi
      unfold World.cells? at k1
      rw [if_pos (Nat.zero_le _)] at k1
      have := (mapM_get k1).2 j j (by simp [hj])
      rw [add_eq, add_eq] at this
      exact this

/-- A slice of bytes that came in. -/
theorem good_bytes {P : Program} {w : World} {t e : TypeId} {v : Value} (hu : P.underlying t = some (.slice e)) (he : P.underlying e = some (.int .u8)) (hc : P.cellsOf e = 1) (h : Good P w t v) :
    ∃ a len cap, v = .slice a len cap ∧ len ≤ maxLen ∧ ∃ z : Nat → Int, (∀ i, i < len → 0 ≤ z i ∧ z i ≤ 255) ∧ (0 < len → ∃ b o, a = some ⟨b, o, none⟩ ∧ ∀ i, i < len → w.cell? ⟨b, o + i, none⟩ = some (.int .u8 (z i))) := by
  obtain ⟨a, len, cap, rfl, h1, h2, m, rows, h3, h4⟩ := good_rows hu hc (by omega) h
  have key : ∀ i, ∃ x, i < cap → rows i = [.int .u8 x] ∧ 0 ≤ x ∧ x ≤ 255 := fun i => by
    by_cases hi : i < cap
    · obtain ⟨x, e, hw⟩ := sees_int he (h3 i hi).2
      exact ⟨x, fun _ => ⟨e, wf_u8 hw⟩⟩
    · exact ⟨0, fun h => absurd h hi⟩
  obtain ⟨z, hz⟩ : ∃ z : Nat → Int, ∀ i, i < cap → rows i = [.int .u8 (z i)] ∧ 0 ≤ z i ∧ z i ≤ 255 := ⟨fun i => Classical.choose (key i), fun i hi => Classical.choose_spec (key i) hi⟩
  refine ⟨a, len, cap, rfl, by omega, z, fun i hi => (hz i (by omega)).2, fun hpos => ?_⟩
  obtain ⟨b, o, e, hcell⟩ := h4 (by omega)
  refine ⟨b, o, e, fun i hi => ?_⟩
  have := hcell i (by omega) 0 (by omega)
  rw [(hz i (by omega)).1] at this
  simpa using this
end Go.Proofs.YtdmbjndhdldggaaDoor

namespace Go.Proofs.YtdmbjndhdldggaaDoor
set_option linter.unusedVariables false
set_option linter.unusedSimpArgs false
open Go.RowKit Go.Lib Go.Sort

def holdZ : Value := .agg #[.int .u32 0, .int .u16 0, .int .u32 0, .int .u16 0]
theorem infoHold : ∃ i, Tryd.prog.info? 74 = some i ∧ i.zero = some holdZ ∧ i.size = 4 ∧ i.bytes ≤ 65536 := by
  have h : ((Tryd.prog.info? 74).map fun i => (i.zero, i.size, decide (i.bytes ≤ 65536))) = some (some holdZ, 4, true) := by kernel_rfl
  rcases hi : Tryd.prog.info? 74 with _ | i
  · simp [hi] at h
  · simp [hi] at h
    exact ⟨i, rfl, h.1, h.2.1, h.2.2⟩

/-- A slice of holds, as it stands in memory. -/
structure Holds (w : World) (b o n : Nat) (ys : List Value) : Prop where
  len : ys.length = n * 4
  cell : ∀ j x, ys[j]? = some x → w.cell? ⟨b, o + j, none⟩ = some x
  one : ∀ x ∈ ys, x.oneCell' = true
  lt : b < w.heap.size
theorem Holds.low {w w' : World} {b o n : Nat} {ys : List Value} (h : Holds w b o n ys) (hf : NoW w w') : Holds w' b o n ys :=
  ⟨h.len, fun j x hj => (hf.cell (p := ⟨b, o + j, none⟩) h.lt id).trans (h.cell j x hj), h.one, Nat.lt_of_lt_of_le h.lt hf.size⟩
theorem Holds.set {w : World} {b o n : Nat} {ys : List Value} (h : Holds w b o n ys) {p : Addr} (hp : p.block ≠ b) (v : Value) : Holds (w.setCell p v) b o n ys :=
  ⟨h.len, fun j x hj => (World.cell?_setCell_other _ _ _ _ (fun e => hp (by rw [e]))).trans (h.cell j x hj), h.one, by simpa [World.setCell] using h.lt⟩
theorem holds_of_own {w : World} {B n : Nat} {v : Value} {ys : List Value} (h : w.ownsRow B 74 4 v n ys) (h1 : ∀ x ∈ ys, x.oneCell' = true) (hn : v ≠ .slice none 0 0) :
    ∃ b c, v = .slice (some ⟨b, 0, none⟩) n c ∧ n ≤ c ∧ B ≤ b ∧ Holds w b 0 n ys := by
  have hc := h
  obtain ⟨hl, h2⟩ := h
  rcases h2 with ⟨rfl, _⟩ | ⟨g, cap, cur, rfl, hB, hg, hcap, _⟩
  · exact absurd rfl hn
  · refine ⟨g, cap, rfl, hcap, hB, hl, fun j x hj => ?_, h1, (Array.getElem?_eq_some_iff.1 hg).1⟩
    have := World.ownsRow.cells hc rfl j x hj
    rw [add_eq] at this
    simpa using this

set_option maxHeartbeats 2000000 in
theorem clone_ok (b o n c : Nat) (ys : List Value) (hn : n ≤ 100) (w : World) (hh : Holds w b o n ys) :
    Calls Tryd.prog 67 #[.slice (some ⟨b, o, none⟩) n c] w fun e w' => ∃ b' c', e = .returned (.slice (some ⟨b', 0, none⟩) n c') ∧ n ≤ c' ∧ w.heap.size ≤ b' ∧ Holds w' b' 0 n ys ∧ NoW w w' := by
  have q1 : ∀ W, (binOp .eql 29 (.slice (some ⟨b, o, none⟩) n c) (.slice none 0 0)).run Tryd.prog W = .ok (.bool false) W := fun W => Lib.run_eql_slice_nil W _ _ _ n c 0 0 Tryd.underlying29
  have hl := hh.len
  have hone := hh.one
  have Hh := Lib.hid hh
  have Hone := Lib.hid hone
  clear hh hone
  go_enter Tryd.func67, Tryd.ntmps67
  go_wp2_with (at_builtin; go_must (obtain ⟨i, hi, hz, hs4, hb⟩ := infoHold; refine wp_append_at rfl _ _ 29 rfl w.heap.size 74 i holdZ Tryd.underlying29 hi hz (by rw [hs4]; rfl) (by omega) _ 0 [] rfl ?_ ⟨b, o, none⟩ n c ys rfl (by rw [hs4]; exact hl) ?_ Hone.out ?_ ?_ (by simp) ?_))
  · rw [hs4]
    exact World.ownsRow_made w #[] 0 (Nat.le_refl _) (Nat.zero_le _) rfl
  · intro j x hj
    rw [add_eq]
    exact (((Fp.refl (fun _ => False) w).alloc (.cells #[] 74)).cell (p := ⟨b, o + j, none⟩) Hh.out.lt id).trans (Hh.out.cell j x hj)
  · unfold maxLen; omega
  · have := Nat.mul_le_mul (show 0 + n ≤ 100 by omega) hb; omega
  intro v' w' hown hgrow hnil _
  have hf : NoW w w' := ((Fp.refl (fun _ => False) w).alloc (.cells #[] 74)).grown hgrow (fun k e => by simp [Value.ownBlock] at e; omega)
  obtain ⟨b', c', rfl, hc', hB', hh'⟩ := holds_of_own hown Hone.out hnil
  go_wp2_with fail
  go_ret
  exact ⟨b', c', rfl, hc', hB', hh', hf⟩
end Go.Proofs.YtdmbjndhdldggaaDoor

namespace Go.Proofs.YtdmbjndhdldggaaDoor
set_option linter.unusedVariables false
set_option linter.unusedSimpArgs false
open Go.RowKit Go.Lib Go.Sort
theorem heap_set_other (w : World) (g b i : Nat) (v : Value) (hne : g ≠ b) : (w.setCell ⟨g, i, none⟩ v).heap[b]? = w.heap[b]? := by
  by_cases hb : b < w.heap.size
  · exact ((Fp.refl (fun k => k = g) w).setCell (p := ⟨g, i, none⟩) (Or.inr rfl) v).block b hb (fun e => hne e.symm)
  · rw [Array.getElem?_eq_none (by simp [World.setCell] at *; omega), Array.getElem?_eq_none (by omega)]
theorem set4 (w : World) (g : Nat) (T : TypeId) (z0 z1 z2 z3 : Value) (h : w.heap[g]? = some (.cells #[z0, z1, z2, z3] T (0, 0))) (x0 x1 x2 x3 : Value) :
    ∃ W, W = ((((w.setCell ⟨g, 0, none⟩ x0).setCell ⟨g, 1, none⟩ x1).setCell ⟨g, 2, none⟩ x2).setCell ⟨g, 3, none⟩ x3) ∧ W.heap[g]? = some (.cells #[x0, x1, x2, x3] T (0, 0)) ∧ Fp (fun k => k = g) w W := by
  refine ⟨_, rfl, ?_, ?_⟩
  · have h0 := heap_set w g 0 _ T x0 h
    have h1 := heap_set _ g 1 _ T x1 h0
    have h2 := heap_set _ g 2 _ T x2 h1
    have h3 := heap_set _ g 3 _ T x3 h2
    rw [h3]; simp
  · exact (((((Fp.refl (fun k => k = g) w).setCell (p := ⟨g, 0, none⟩) (Or.inr rfl) x0).setCell (p := ⟨g, 1, none⟩) (Or.inr rfl) x1).setCell (p := ⟨g, 2, none⟩) (Or.inr rfl) x2).setCell (p := ⟨g, 3, none⟩) (Or.inr rfl) x3)
theorem set13 (w : World) (g : Nat) (T : TypeId) (z0 z1 z2 z3 z4 z5 z6 z7 z8 z9 z10 z11 z12 : Value) (h : w.heap[g]? = some (.cells #[z0, z1, z2, z3, z4, z5, z6, z7, z8, z9, z10, z11, z12] T (0, 0))) (x0 x1 x2 x3 x4 x5 x6 x7 x8 x9 x10 x11 x12 : Value) :
    ∃ W, W = (((((((((((((w.setCell ⟨g, 0, none⟩ x0).setCell ⟨g, 1, none⟩ x1).setCell ⟨g, 2, none⟩ x2).setCell ⟨g, 3, none⟩ x3).setCell ⟨g, 4, none⟩ x4).setCell ⟨g, 5, none⟩ x5).setCell ⟨g, 6, none⟩ x6).setCell ⟨g, 7, none⟩ x7).setCell ⟨g, 8, none⟩ x8).setCell ⟨g, 9, none⟩ x9).setCell ⟨g, 10, none⟩ x10).setCell ⟨g, 11, none⟩ x11).setCell ⟨g, 12, none⟩ x12) ∧ W.heap[g]? = some (.cells #[x0, x1, x2, x3, x4, x5, x6, x7, x8, x9, x10, x11, x12] T (0, 0)) ∧ Fp (fun k => k = g) w W := by
  refine ⟨_, rfl, ?_, ?_⟩
  · have h0 := heap_set w g 0 _ T x0 h
    have h1 := heap_set _ g 1 _ T x1 h0
    have h2 := heap_set _ g 2 _ T x2 h1
    have h3 := heap_set _ g 3 _ T x3 h2
    have h4 := heap_set _ g 4 _ T x4 h3
    have h5 := heap_set _ g 5 _ T x5 h4
    have h6 := heap_set _ g 6 _ T x6 h5
    have h7 := heap_set _ g 7 _ T x7 h6
    have h8 := heap_set _ g 8 _ T x8 h7
    have h9 := heap_set _ g 9 _ T x9 h8
    have h10 := heap_set _ g 10 _ T x10 h9
    have h11 := heap_set _ g 11 _ T x11 h10
    have h12 := heap_set _ g 12 _ T x12 h11
    rw [h12]; simp
  · exact ((((((((((((((Fp.refl (fun k => k = g) w).setCell (p := ⟨g, 0, none⟩) (Or.inr rfl) x0).setCell (p := ⟨g, 1, none⟩) (Or.inr rfl) x1).setCell (p := ⟨g, 2, none⟩) (Or.inr rfl) x2).setCell (p := ⟨g, 3, none⟩) (Or.inr rfl) x3).setCell (p := ⟨g, 4, none⟩) (Or.inr rfl) x4).setCell (p := ⟨g, 5, none⟩) (Or.inr rfl) x5).setCell (p := ⟨g, 6, none⟩) (Or.inr rfl) x6).setCell (p := ⟨g, 7, none⟩) (Or.inr rfl) x7).setCell (p := ⟨g, 8, none⟩) (Or.inr rfl) x8).setCell (p := ⟨g, 9, none⟩) (Or.inr rfl) x9).setCell (p := ⟨g, 10, none⟩) (Or.inr rfl) x10).setCell (p := ⟨g, 11, none⟩) (Or.inr rfl) x11).setCell (p := ⟨g, 12, none⟩) (Or.inr rfl) x12)

set_option maxHeartbeats 4000000 in
set_option maxRecDepth 100000 in
theorem own_ok (r a p b q r2 a2 p2 b2 q2 st dl : Int) (hb ho n hc : Nat) (ys : List Value) (hn : n ≤ 100) (w : World) (hh : Holds w hb ho n ys) :
    Calls Tryd.prog 44 #[.agg #[.int .u8 r, .int .u32 a, .int .u16 p, .int .u32 b, .int .u16 q, .int .u8 r2, .int .u32 a2, .int .u16 p2, .int .u32 b2, .int .u16 q2, .int .i64 st, .int .i64 dl, (.slice (some ⟨hb, ho, none⟩) n hc)]] w fun e w' => ∃ b' c', e = .returned (.agg #[.int .u8 r, .int .u32 a, .int .u16 p, .int .u32 b, .int .u16 q, .int .u8 r2, .int .u32 a2, .int .u16 p2, .int .u32 b2, .int .u16 q2, .int .i64 st, .int .i64 dl, (.slice (some ⟨b', 0, none⟩) n c')]) ∧ n ≤ c' ∧ w.heap.size ≤ b' ∧ Holds w' b' 0 n ys ∧ NoW w w' := by
  have Hh := Lib.hid hh
  clear hh
  go_enter Tryd.func44, Tryd.ntmps44
  go_wp2_with fail
  have hn0 : NoW w ((w.alloc (.cells #[.int .u8 r, .int .u32 a, .int .u16 p, .int .u32 b, .int .u16 q, .int .u8 r2, .int .u32 a2, .int .u16 p2, .int .u32 b2, .int .u16 q2, .int .i64 st, .int .i64 dl, (.slice (some ⟨hb, ho, none⟩) n hc)] 31)).alloc (.cells #[.int .u8 0, .int .u32 0, .int .u16 0, .int .u32 0, .int .u16 0, .int .u8 0, .int .u32 0, .int .u16 0, .int .u32 0, .int .u16 0, .int .i64 0, .int .i64 0, .slice none 0 0] 31)) := ((Fp.refl _ _).alloc _).alloc _
  obtain ⟨hc0, hr0⟩ := box2 w (.cells #[.int .u8 r, .int .u32 a, .int .u16 p, .int .u32 b, .int .u16 q, .int .u8 r2, .int .u32 a2, .int .u16 p2, .int .u32 b2, .int .u16 q2, .int .i64 st, .int .i64 dl, (.slice (some ⟨hb, ho, none⟩) n hc)] 31) (.cells #[.int .u8 0, .int .u32 0, .int .u16 0, .int .u32 0, .int .u16 0, .int .u8 0, .int .u32 0, .int .u16 0, .int .u32 0, .int .u16 0, .int .i64 0, .int .i64 0, .slice none 0 0] 31)
  generalize (w.alloc (.cells #[.int .u8 r, .int .u32 a, .int .u16 p, .int .u32 b, .int .u16 q, .int .u8 r2, .int .u32 a2, .int .u16 p2, .int .u32 b2, .int .u16 q2, .int .i64 st, .int .i64 dl, (.slice (some ⟨hb, ho, none⟩) n hc)] 31)).alloc (.cells #[.int .u8 0, .int .u32 0, .int .u16 0, .int .u32 0, .int .u16 0, .int .u8 0, .int .u32 0, .int .u16 0, .int .u32 0, .int .u16 0, .int .i64 0, .int .i64 0, .slice none 0 0] 31) = w0 at *
  have hle : w.heap.size < w0.heap.size := (Array.getElem?_eq_some_iff.1 hc0).1
  have hg1 : w.heap.size ≤ w.heap.size := Nat.le_refl _
  have hg2 : w.heap.size ≤ w.heap.size + 1 := Nat.le_succ _
  refine (clone_ok hb ho n hc ys hn w0 (Hh.out.low hn0)).mono ?_
  rintro e v ⟨b', c', rfl, hc', hB', hh', hp⟩
  have hs0 : w0.heap.size ≤ b' := hB'
  have hw1 : w.heap.size + 1 < w0.heap.size := (Array.getElem?_eq_some_iff.1 hr0).1
  have hbc := (hp.block _ (Array.getElem?_eq_some_iff.1 hc0).1 id).trans hc0
  have hbr := (hp.block _ (Array.getElem?_eq_some_iff.1 hr0).1 id).trans hr0
  have Bc := Lib.hid hbc
  have By := Lib.hid hbr
  have Hn := Lib.hid (hn0.trans hp (fun _ _ h => h))
  have Hh2 := Lib.hid hh'
  have Hc2 := Lib.hid hc'
  clear hn0 hc0 hr0 hp hbc hbr hh' hc'
  obtain ⟨g, hg⟩ : ∃ g, g = w.heap.size := ⟨_, rfl⟩
  obtain ⟨g2, hg'⟩ : ∃ g2, g2 = w.heap.size + 1 := ⟨_, rfl⟩
  rw [← hg'] at By ⊢
  rw [← hg] at Bc
  have hne : ¬ g = g2 := by omega
  have hne2 : ¬ g2 = g := by omega
  have hb1 : g ≠ b' := by omega
  have hb2 : g2 ≠ b' := by omega
  have hge1 : w.heap.size ≤ g := by omega
  have hge2 : w.heap.size ≤ g2 := by omega
  have hwb : w.heap.size ≤ b' := by omega
  have c0 : v.cell? ⟨g, 0, none⟩ = some (.int .u8 r) := by simp [World.cell?, Bc.out]
  have zc0 : v.frozen? ⟨g, 0, none⟩ = false := by simp [World.frozen?, Bc.out]
  have c1 : v.cell? ⟨g, 1, none⟩ = some (.int .u32 a) := by simp [World.cell?, Bc.out]
  have zc1 : v.frozen? ⟨g, 1, none⟩ = false := by simp [World.frozen?, Bc.out]
  have c2 : v.cell? ⟨g, 2, none⟩ = some (.int .u16 p) := by simp [World.cell?, Bc.out]
  have zc2 : v.frozen? ⟨g, 2, none⟩ = false := by simp [World.frozen?, Bc.out]
  have c3 : v.cell? ⟨g, 3, none⟩ = some (.int .u32 b) := by simp [World.cell?, Bc.out]
  have zc3 : v.frozen? ⟨g, 3, none⟩ = false := by simp [World.frozen?, Bc.out]
  have c4 : v.cell? ⟨g, 4, none⟩ = some (.int .u16 q) := by simp [World.cell?, Bc.out]
  have zc4 : v.frozen? ⟨g, 4, none⟩ = false := by simp [World.frozen?, Bc.out]
  have c5 : v.cell? ⟨g, 5, none⟩ = some (.int .u8 r2) := by simp [World.cell?, Bc.out]
  have zc5 : v.frozen? ⟨g, 5, none⟩ = false := by simp [World.frozen?, Bc.out]
  have c6 : v.cell? ⟨g, 6, none⟩ = some (.int .u32 a2) := by simp [World.cell?, Bc.out]
  have zc6 : v.frozen? ⟨g, 6, none⟩ = false := by simp [World.frozen?, Bc.out]
  have c7 : v.cell? ⟨g, 7, none⟩ = some (.int .u16 p2) := by simp [World.cell?, Bc.out]
  have zc7 : v.frozen? ⟨g, 7, none⟩ = false := by simp [World.frozen?, Bc.out]
  have c8 : v.cell? ⟨g, 8, none⟩ = some (.int .u32 b2) := by simp [World.cell?, Bc.out]
  have zc8 : v.frozen? ⟨g, 8, none⟩ = false := by simp [World.frozen?, Bc.out]
  have c9 : v.cell? ⟨g, 9, none⟩ = some (.int .u16 q2) := by simp [World.cell?, Bc.out]
  have zc9 : v.frozen? ⟨g, 9, none⟩ = false := by simp [World.frozen?, Bc.out]
  have c10 : v.cell? ⟨g, 10, none⟩ = some (.int .i64 st) := by simp [World.cell?, Bc.out]
  have zc10 : v.frozen? ⟨g, 10, none⟩ = false := by simp [World.frozen?, Bc.out]
  have c11 : v.cell? ⟨g, 11, none⟩ = some (.int .i64 dl) := by simp [World.cell?, Bc.out]
  have zc11 : v.frozen? ⟨g, 11, none⟩ = false := by simp [World.frozen?, Bc.out]
  have c12 : v.cell? ⟨g, 12, none⟩ = some ((.slice (some ⟨hb, ho, none⟩) n hc)) := by simp [World.cell?, Bc.out]
  have zc12 : v.frozen? ⟨g, 12, none⟩ = false := by simp [World.frozen?, Bc.out]
  have y0 : v.cell? ⟨g2, 0, none⟩ = some (.int .u8 0) := by simp [World.cell?, By.out]
  have zy0 : v.frozen? ⟨g2, 0, none⟩ = false := by simp [World.frozen?, By.out]
  have y1 : v.cell? ⟨g2, 1, none⟩ = some (.int .u32 0) := by simp [World.cell?, By.out]
  have zy1 : v.frozen? ⟨g2, 1, none⟩ = false := by simp [World.frozen?, By.out]
  have y2 : v.cell? ⟨g2, 2, none⟩ = some (.int .u16 0) := by simp [World.cell?, By.out]
  have zy2 : v.frozen? ⟨g2, 2, none⟩ = false := by simp [World.frozen?, By.out]
  have y3 : v.cell? ⟨g2, 3, none⟩ = some (.int .u32 0) := by simp [World.cell?, By.out]
  have zy3 : v.frozen? ⟨g2, 3, none⟩ = false := by simp [World.frozen?, By.out]
  have y4 : v.cell? ⟨g2, 4, none⟩ = some (.int .u16 0) := by simp [World.cell?, By.out]
  have zy4 : v.frozen? ⟨g2, 4, none⟩ = false := by simp [World.frozen?, By.out]
  have y5 : v.cell? ⟨g2, 5, none⟩ = some (.int .u8 0) := by simp [World.cell?, By.out]
  have zy5 : v.frozen? ⟨g2, 5, none⟩ = false := by simp [World.frozen?, By.out]
  have y6 : v.cell? ⟨g2, 6, none⟩ = some (.int .u32 0) := by simp [World.cell?, By.out]
  have zy6 : v.frozen? ⟨g2, 6, none⟩ = false := by simp [World.frozen?, By.out]
  have y7 : v.cell? ⟨g2, 7, none⟩ = some (.int .u16 0) := by simp [World.cell?, By.out]
  have zy7 : v.frozen? ⟨g2, 7, none⟩ = false := by simp [World.frozen?, By.out]
  have y8 : v.cell? ⟨g2, 8, none⟩ = some (.int .u32 0) := by simp [World.cell?, By.out]
  have zy8 : v.frozen? ⟨g2, 8, none⟩ = false := by simp [World.frozen?, By.out]
  have y9 : v.cell? ⟨g2, 9, none⟩ = some (.int .u16 0) := by simp [World.cell?, By.out]
  have zy9 : v.frozen? ⟨g2, 9, none⟩ = false := by simp [World.frozen?, By.out]
  have y10 : v.cell? ⟨g2, 10, none⟩ = some (.int .i64 0) := by simp [World.cell?, By.out]
  have zy10 : v.frozen? ⟨g2, 10, none⟩ = false := by simp [World.frozen?, By.out]
  have y11 : v.cell? ⟨g2, 11, none⟩ = some (.int .i64 0) := by simp [World.cell?, By.out]
  have zy11 : v.frozen? ⟨g2, 11, none⟩ = false := by simp [World.frozen?, By.out]
  have y12 : v.cell? ⟨g2, 12, none⟩ = some (.slice none 0 0) := by simp [World.cell?, By.out]
  have zy12 : v.frozen? ⟨g2, 12, none⟩ = false := by simp [World.frozen?, By.out]

  have Hg := Lib.hid hg
  have Hg2 := Lib.hid hg'
  clear Bc hg hg' hg1 hg2 hle
  have Hs := Lib.hid (And.intro hge1 hge2)
  have Hs2 := Lib.hid (And.intro hb1 hb2)
  have Hwb := Lib.hid hwb
  clear hge1 hge2 hb1 hb2 hwb hB' hs0 hw1
  rw [← Hg.out]
  go_wp2_with fail
  obtain ⟨W, hW, hb2, hf2⟩ := set13 (v.setCell ⟨g, 12, none⟩ (.slice (some ⟨b', 0, none⟩) n c')) g2 31 (.int .u8 0) (.int .u32 0) (.int .u16 0) (.int .u32 0) (.int .u16 0) (.int .u8 0) (.int .u32 0) (.int .u16 0) (.int .u32 0) (.int .u16 0) (.int .i64 0) (.int .i64 0) (.slice none 0 0) ((heap_set_other v g g2 12 _ hne).trans By.out) (.int .u8 r) (.int .u32 a) (.int .u16 p) (.int .u32 b) (.int .u16 q) (.int .u8 r2) (.int .u32 a2) (.int .u16 p2) (.int .u32 b2) (.int .u16 q2) (.int .i64 st) (.int .i64 dl) ((.slice (some ⟨b', 0, none⟩) n c'))
  rw [← hW]
  have Hf2 := Lib.hid hf2
  clear hW hf2 c0 zc0 y0 zy0 c1 zc1 y1 zy1 c2 zc2 y2 zy2 c3 zc3 y3 zy3 c4 zc4 y4 zy4 c5 zc5 y5 zy5 c6 zc6 y6 zy6 c7 zc7 y7 zy7 c8 zc8 y8 zy8 c9 zc9 y9 zy9 c10 zc10 y10 zy10 c11 zc11 y11 zy11 c12 zc12 y12 zy12
  have y0 : W.cell? ⟨g2, 0, none⟩ = some (.int .u8 r) := by simp [World.cell?, hb2]
  have y1 : W.cell? ⟨g2, 1, none⟩ = some (.int .u32 a) := by simp [World.cell?, hb2]
  have y2 : W.cell? ⟨g2, 2, none⟩ = some (.int .u16 p) := by simp [World.cell?, hb2]
  have y3 : W.cell? ⟨g2, 3, none⟩ = some (.int .u32 b) := by simp [World.cell?, hb2]
  have y4 : W.cell? ⟨g2, 4, none⟩ = some (.int .u16 q) := by simp [World.cell?, hb2]
  have y5 : W.cell? ⟨g2, 5, none⟩ = some (.int .u8 r2) := by simp [World.cell?, hb2]
  have y6 : W.cell? ⟨g2, 6, none⟩ = some (.int .u32 a2) := by simp [World.cell?, hb2]
  have y7 : W.cell? ⟨g2, 7, none⟩ = some (.int .u16 p2) := by simp [World.cell?, hb2]
  have y8 : W.cell? ⟨g2, 8, none⟩ = some (.int .u32 b2) := by simp [World.cell?, hb2]
  have y9 : W.cell? ⟨g2, 9, none⟩ = some (.int .u16 q2) := by simp [World.cell?, hb2]
  have y10 : W.cell? ⟨g2, 10, none⟩ = some (.int .i64 st) := by simp [World.cell?, hb2]
  have y11 : W.cell? ⟨g2, 11, none⟩ = some (.int .i64 dl) := by simp [World.cell?, hb2]
  have y12 : W.cell? ⟨g2, 12, none⟩ = some ((.slice (some ⟨b', 0, none⟩) n c')) := by simp [World.cell?, hb2]

  refine bodyPost_ret (v := .agg #[.int .u8 r, .int .u32 a, .int .u16 p, .int .u32 b, .int .u16 q, .int .u8 r2, .int .u32 a2, .int .u16 p2, .int .u32 b2, .int .u16 q2, .int .i64 st, .int .i64 dl, (.slice (some ⟨b', 0, none⟩) n c')]) (by simp only [results, Tryd.results44]; go_simp) rfl ⟨b', c', rfl, Hc2.out, Hwb.out, ?_, ?_⟩
  · have h1 := Hh2.out.set (p := ⟨g, 12, none⟩) Hs2.out.1 (.slice (some ⟨b', 0, none⟩) n c')
    exact ⟨h1.len, fun j x hj => (Hf2.out.cell (p := ⟨b', 0 + j, none⟩) h1.lt (fun e => Hs2.out.2 e.symm)).trans (h1.cell j x hj), h1.one, Nat.lt_of_lt_of_le h1.lt Hf2.out.size⟩
  · exact (Fp.setCell Hn.out (p := ⟨g, 12, none⟩) (Or.inl Hs.out.1) _).trans Hf2.out (fun i hi e => by have := Hs.out.2; omega)
end Go.Proofs.YtdmbjndhdldggaaDoor

namespace Go.Proofs.YtdmbjndhdldggaaDoor
set_option linter.unusedVariables false
set_option linter.unusedSimpArgs false
open Go.RowKit Go.Lib Go.Sort

set_option maxHeartbeats 1000000 in
theorem next_ok (f : Nat) (hf : f < 4) (h3 : f ≠ 3) (s : Int) (bk : Bool) (fl : Int) (w : World) (ht : Tb w) :
    Calls Tryd.prog 45 #[.int .i64 f, .int .i64 s, .bool bk, .int .u8 fl] w (Ret1 (.int .i64 (if 0 < toN f s then (if bk = true then 2 else s) else 0)) w) := by
  have k := fun W hW => tmay_ok f hf s W hW
  have e3 : ((f : Int) == 3) = false := beq_eq_false_iff_ne.2 (by omega)
  have Ht := Lib.hid ht
  clear ht
  rcases hm : decide (0 < toN f s) with _ | _
  · rw [if_neg (of_decide_eq_false hm)]
    rw [hm] at k
    have K := Lib.hid k
    clear k hm
    go_enter Tryd.func45, Tryd.ntmps45
    go_wp2_with fail
    have hn : NoW w (w.alloc (.cells #[.bool bk, .int .u8 fl] 110)) := (Fp.refl _ _).alloc _
    refine (K.out _ (Ht.out.low hn)).mono ?_
    rintro e w' ⟨rfl, rfl⟩
    go_wp2_with fail
    go_ret
    exact ⟨rfl, hn⟩
  · rw [if_pos (of_decide_eq_true hm)]
    rw [hm] at k
    have K := Lib.hid k
    clear k hm
    rcases bk with _ | _
    all_goals
      go_enter Tryd.func45, Tryd.ntmps45
      go_wp2_with fail
    · have hn : NoW w (w.alloc (.cells #[.bool false, .int .u8 fl] 110)) := (Fp.refl _ _).alloc _
      refine (K.out _ (Ht.out.low hn)).mono ?_
      rintro e w' ⟨rfl, rfl⟩
      go_wp2_with fail
      go_ret
      exact ⟨rfl, hn⟩
    · have hn : NoW w (w.alloc (.cells #[.bool true, .int .u8 fl] 110)) := (Fp.refl _ _).alloc _
      refine (K.out _ (Ht.out.low hn)).mono ?_
      rintro e w' ⟨rfl, rfl⟩
      go_wp2_with fail
      go_ret
      exact ⟨rfl, hn⟩

set_option maxHeartbeats 4000000 in
set_option maxRecDepth 100000 in
theorem touch_core (r a p b q r2 a2 p2 b2 q2 st dl : Int) (hb ho n hc : Nat) (ys : List Value) (hn : n ≤ 100) (bk : Bool) (fl now f nx tm : Int) (w : World) (ht : Tb w) (hh : Holds w hb ho n ys)
    (hn0 : 0 ≤ now) (hn1 : now ≤ 1099511627776) (htm : IntKind.i64.wrap (now + tm) = now + tm)
    (k0 : ∀ W, Tb W → Calls Tryd.prog 19 #[.agg #[.int .u8 r, .int .u32 a, .int .u16 p, .int .u32 b, .int .u16 q, .int .u8 r2, .int .u32 a2, .int .u16 p2, .int .u32 b2, .int .u16 q2, .int .i64 st, .int .i64 dl, (.slice (some ⟨hb, ho, none⟩) n hc)]] W (Ret1 (.int .i64 0) W))
    (k1 : ∀ W, Calls Tryd.prog 16 #[.int .u8 r] W fun e w' => e = .returned (.int .i64 f) ∧ w' = W)
    (k2 : ∀ W, Tb W → Calls Tryd.prog 45 #[.int .i64 f, .int .i64 st, .bool bk, .int .u8 fl] W (Ret1 (.int .i64 nx) W))
    (k3 : ∀ W, Tb W → Calls Tryd.prog 46 #[.int .i64 f, .int .i64 nx] W fun e w' => e = .returned (.int .i64 tm) ∧ w' = W) :
    Calls Tryd.prog 21 #[.agg #[.int .u8 r, .int .u32 a, .int .u16 p, .int .u32 b, .int .u16 q, .int .u8 r2, .int .u32 a2, .int .u16 p2, .int .u32 b2, .int .u16 q2, .int .i64 st, .int .i64 dl, (.slice (some ⟨hb, ho, none⟩) n hc)], .bool bk, .int .u8 fl, .int .i64 now] w fun e w' => ∃ b' c', e = .returned (.tuple #[.agg #[.int .u8 r, .int .u32 a, .int .u16 p, .int .u32 b, .int .u16 q, .int .u8 r2, .int .u32 a2, .int .u16 p2, .int .u32 b2, .int .u16 q2, .int .i64 nx, .int .i64 (now + tm), (.slice (some ⟨b', 0, none⟩) n c')], .int .i64 0]) ∧ n ≤ c' ∧ w.heap.size ≤ b' ∧ Holds w' b' 0 n ys ∧ NoW w w' := by
  have Hh := Lib.hid hh
  have Ht := Lib.hid ht
  have K0 := Lib.hid k0
  have K1 := Lib.hid k1
  have K2 := Lib.hid k2
  have K3 := Lib.hid k3
  have kown := fun W (hW : Holds W hb ho n ys) => own_ok r a p b q r2 a2 p2 b2 q2 st dl hb ho n hc ys hn W hW
  have Kown := Lib.hid kown
  have hd0 : decide (now < 0) = false := by simpa using hn0
  have hd1 : decide (1099511627776 < now) = false := by simpa using hn1
  clear hh ht k0 k1 k2 k3 kown
  go_enter Tryd.func21, Tryd.ntmps21
  go_wp2_with fail
  have hw0 : NoW w ((w.alloc (.cells #[.int .u8 r, .int .u32 a, .int .u16 p, .int .u32 b, .int .u16 q, .int .u8 r2, .int .u32 a2, .int .u16 p2, .int .u32 b2, .int .u16 q2, .int .i64 st, .int .i64 dl, (.slice (some ⟨hb, ho, none⟩) n hc)] 31)).alloc (.cells #[.int .u8 0, .int .u32 0, .int .u16 0, .int .u32 0, .int .u16 0, .int .u8 0, .int .u32 0, .int .u16 0, .int .u32 0, .int .u16 0, .int .i64 0, .int .i64 0, .slice none 0 0] 31)) := ((Fp.refl _ _).alloc _).alloc _
  obtain ⟨hc0, hr0⟩ := box2 w (.cells #[.int .u8 r, .int .u32 a, .int .u16 p, .int .u32 b, .int .u16 q, .int .u8 r2, .int .u32 a2, .int .u16 p2, .int .u32 b2, .int .u16 q2, .int .i64 st, .int .i64 dl, (.slice (some ⟨hb, ho, none⟩) n hc)] 31) (.cells #[.int .u8 0, .int .u32 0, .int .u16 0, .int .u32 0, .int .u16 0, .int .u8 0, .int .u32 0, .int .u16 0, .int .u32 0, .int .u16 0, .int .i64 0, .int .i64 0, .slice none 0 0] 31)
  generalize (w.alloc (.cells #[.int .u8 r, .int .u32 a, .int .u16 p, .int .u32 b, .int .u16 q, .int .u8 r2, .int .u32 a2, .int .u16 p2, .int .u32 b2, .int .u16 q2, .int .i64 st, .int .i64 dl, (.slice (some ⟨hb, ho, none⟩) n hc)] 31)).alloc (.cells #[.int .u8 0, .int .u32 0, .int .u16 0, .int .u32 0, .int .u16 0, .int .u8 0, .int .u32 0, .int .u16 0, .int .u32 0, .int .u16 0, .int .i64 0, .int .i64 0, .slice none 0 0] 31) = w0 at *
  have Hg0 := Lib.hid (show w.heap.size ≤ w.heap.size ∧ w.heap.size ≤ w.heap.size + 1 from ⟨Nat.le_refl _, Nat.le_succ _⟩)
  have hlt12 : w.heap.size < w.heap.size + 1 := Nat.lt_succ_self _
  have Bc := Lib.hid hc0
  have By := Lib.hid hr0
  have Hw := Lib.hid hw0
  clear hc0 hr0 hw0
  generalize w.heap.size + 1 = g2 at *
  have Hs := Lib.hid (show ∀ W, NoW w W → w.heap.size ≤ W.heap.size from fun W h => h.size)
  obtain ⟨g, hg⟩ : ∃ g, g = w.heap.size := ⟨_, rfl⟩
  have Hg := Lib.hid hg
  rw [← hg] at hlt12 Hg0 Bc ⊢
  clear hg
  refine (K0.out _ (Ht.out.low Hw.out)).mono ?_
  rintro e v0 ⟨rfl, hp⟩
  have Hm0 := Lib.hid (Hw.out.trans hp (fun _ _ h => h))
  have hb0 := (hp.block _ (Array.getElem?_eq_some_iff.1 Bc.out).1 id).trans Bc.out
  clear Bc
  have Bc := Lib.hid hb0
  clear hb0
  have hb0 := (hp.block _ (Array.getElem?_eq_some_iff.1 By.out).1 id).trans By.out
  clear By
  have By := Lib.hid hb0
  clear hb0
  clear hp Hw
  have x0 : v0.cell? ⟨g, 0, none⟩ = some (.int .u8 r) := by simp [World.cell?, Bc.out]
  have x1 : v0.cell? ⟨g, 1, none⟩ = some (.int .u32 a) := by simp [World.cell?, Bc.out]
  have x2 : v0.cell? ⟨g, 2, none⟩ = some (.int .u16 p) := by simp [World.cell?, Bc.out]
  have x3 : v0.cell? ⟨g, 3, none⟩ = some (.int .u32 b) := by simp [World.cell?, Bc.out]
  have x4 : v0.cell? ⟨g, 4, none⟩ = some (.int .u16 q) := by simp [World.cell?, Bc.out]
  have x5 : v0.cell? ⟨g, 5, none⟩ = some (.int .u8 r2) := by simp [World.cell?, Bc.out]
  have x6 : v0.cell? ⟨g, 6, none⟩ = some (.int .u32 a2) := by simp [World.cell?, Bc.out]
  have x7 : v0.cell? ⟨g, 7, none⟩ = some (.int .u16 p2) := by simp [World.cell?, Bc.out]
  have x8 : v0.cell? ⟨g, 8, none⟩ = some (.int .u32 b2) := by simp [World.cell?, Bc.out]
  have x9 : v0.cell? ⟨g, 9, none⟩ = some (.int .u16 q2) := by simp [World.cell?, Bc.out]
  have x10 : v0.cell? ⟨g, 10, none⟩ = some (.int .i64 st) := by simp [World.cell?, Bc.out]
  have x11 : v0.cell? ⟨g, 11, none⟩ = some (.int .i64 dl) := by simp [World.cell?, Bc.out]
  have x12 : v0.cell? ⟨g, 12, none⟩ = some ((.slice (some ⟨hb, ho, none⟩) n hc)) := by simp [World.cell?, Bc.out]

  go_wp2_with fail
  clear x0 x1 x2 x3 x4 x5 x6 x7 x8 x9 x10 x11 x12

  refine (Kown.out _ (Hh.out.low Hm0.out)).mono ?_
  rintro e v1 ⟨b', c', rfl, hc', hB', hh', hp⟩
  have hgv : g2 < v0.heap.size := (Array.getElem?_eq_some_iff.1 By.out).1
  have Hm1 := Lib.hid (Hm0.out.trans hp (fun _ _ h => h))
  have hb0 := (hp.block _ (Array.getElem?_eq_some_iff.1 Bc.out).1 id).trans Bc.out
  clear Bc
  have Bc := Lib.hid hb0
  clear hb0
  have hb0 := (hp.block _ (Array.getElem?_eq_some_iff.1 By.out).1 id).trans By.out
  clear By
  have By := Lib.hid hb0
  clear hb0

  have Hh2 := Lib.hid hh'
  have Hc2 := Lib.hid hc'
  have hbg : g ≠ b' := by omega
  have hbg2 : g2 ≠ b' := by omega
  have Hbg := Lib.hid (And.intro hbg hbg2)
  have Hwb := Lib.hid (show w.heap.size ≤ b' by have := Hs.out _ Hm0.out; omega)
  have lg : g < v1.heap.size := (Array.getElem?_eq_some_iff.1 Bc.out).1
  have lg2 : g2 < v1.heap.size := (Array.getElem?_eq_some_iff.1 By.out).1
  have lb : b' < v1.heap.size := hh'.lt
  clear hp Hm0 hc' hB' hh' hbg hbg2 hgv
  have x0 : v1.cell? ⟨g, 0, none⟩ = some (.int .u8 r) := by simp [World.cell?, Bc.out]
  have x1 : v1.cell? ⟨g, 1, none⟩ = some (.int .u32 a) := by simp [World.cell?, Bc.out]
  have x2 : v1.cell? ⟨g, 2, none⟩ = some (.int .u16 p) := by simp [World.cell?, Bc.out]
  have x3 : v1.cell? ⟨g, 3, none⟩ = some (.int .u32 b) := by simp [World.cell?, Bc.out]
  have x4 : v1.cell? ⟨g, 4, none⟩ = some (.int .u16 q) := by simp [World.cell?, Bc.out]
  have x5 : v1.cell? ⟨g, 5, none⟩ = some (.int .u8 r2) := by simp [World.cell?, Bc.out]
  have x6 : v1.cell? ⟨g, 6, none⟩ = some (.int .u32 a2) := by simp [World.cell?, Bc.out]
  have x7 : v1.cell? ⟨g, 7, none⟩ = some (.int .u16 p2) := by simp [World.cell?, Bc.out]
  have x8 : v1.cell? ⟨g, 8, none⟩ = some (.int .u32 b2) := by simp [World.cell?, Bc.out]
  have x9 : v1.cell? ⟨g, 9, none⟩ = some (.int .u16 q2) := by simp [World.cell?, Bc.out]
  have x10 : v1.cell? ⟨g, 10, none⟩ = some (.int .i64 st) := by simp [World.cell?, Bc.out]
  have x11 : v1.cell? ⟨g, 11, none⟩ = some (.int .i64 dl) := by simp [World.cell?, Bc.out]
  have x12 : v1.cell? ⟨g, 12, none⟩ = some ((.slice (some ⟨hb, ho, none⟩) n hc)) := by simp [World.cell?, Bc.out]

  go_wp2_with fail
  refine (K1.out _).mono ?_
  rintro e v1' ⟨rfl, rfl⟩
  go_wp2_with fail
  have hq : NoW v1 (v1.alloc (.cells #[.int .u8 r, .int .u32 a, .int .u16 p, .int .u32 b, .int .u16 q, .int .u8 r2, .int .u32 a2, .int .u16 p2, .int .u32 b2, .int .u16 q2, .int .i64 st, .int .i64 dl, (.slice (some ⟨b', 0, none⟩) n c')] 31)) := (Fp.refl _ _).alloc _
  have Hq := Lib.hid (Hm1.out.trans hq (fun _ _ h => h))
  have hb0 := (hq.block _ (Array.getElem?_eq_some_iff.1 Bc.out).1 id).trans Bc.out
  clear Bc
  have Bc := Lib.hid hb0
  clear hb0
  have hb0 := (hq.block _ (Array.getElem?_eq_some_iff.1 By.out).1 id).trans By.out
  clear By
  have By := Lib.hid hb0
  clear hb0
  have B10 := Lib.hid (heap_alloc_new v1 (.cells #[.int .u8 r, .int .u32 a, .int .u16 p, .int .u32 b, .int .u16 q, .int .u8 r2, .int .u32 a2, .int .u16 p2, .int .u32 b2, .int .u16 q2, .int .i64 st, .int .i64 dl, (.slice (some ⟨b', 0, none⟩) n c')] 31))
  have Hh3 := Lib.hid (Hh2.out.low hq)
  clear hq Hm1 Hh2
  clear x0 x1 x2 x3 x4 x5 x6 x7 x8 x9 x10 x11 x12

  generalize v1.alloc (.cells #[.int .u8 r, .int .u32 a, .int .u16 p, .int .u32 b, .int .u16 q, .int .u8 r2, .int .u32 a2, .int .u16 p2, .int .u32 b2, .int .u16 q2, .int .i64 st, .int .i64 dl, (.slice (some ⟨b', 0, none⟩) n c')] 31) = v2 at *
  generalize v1.heap.size = g10 at *
  refine (K2.out _ (Ht.out.low Hq.out)).mono ?_
  rintro e v3 ⟨rfl, hp⟩
  have Hm3 := Lib.hid (Hq.out.trans hp (fun _ _ h => h))
  have hb0 := (hp.block _ (Array.getElem?_eq_some_iff.1 Bc.out).1 id).trans Bc.out
  clear Bc
  have Bc := Lib.hid hb0
  clear hb0
  have hb0 := (hp.block _ (Array.getElem?_eq_some_iff.1 By.out).1 id).trans By.out
  clear By
  have By := Lib.hid hb0
  clear hb0
  have hb0 := (hp.block _ (Array.getElem?_eq_some_iff.1 B10.out).1 id).trans B10.out
  clear B10
  have B10 := Lib.hid hb0
  clear hb0

  have Hh4 := Lib.hid (Hh3.out.low hp)
  clear hp Hq Hh3
  have hgw : w.heap.size ≤ g10 := by have h1 := Hg0.out.2; have h2 := Hg.out; omega
  have hg210 : ¬ g10 = g2 := by omega
  have hg102 : ¬ g2 = g10 := by omega
  have x0 : v3.cell? ⟨g10, 0, none⟩ = some (.int .u8 r) := by simp [World.cell?, B10.out]
  have zx0 : v3.frozen? ⟨g10, 0, none⟩ = false := by simp [World.frozen?, B10.out]
  have x1 : v3.cell? ⟨g10, 1, none⟩ = some (.int .u32 a) := by simp [World.cell?, B10.out]
  have zx1 : v3.frozen? ⟨g10, 1, none⟩ = false := by simp [World.frozen?, B10.out]
  have x2 : v3.cell? ⟨g10, 2, none⟩ = some (.int .u16 p) := by simp [World.cell?, B10.out]
  have zx2 : v3.frozen? ⟨g10, 2, none⟩ = false := by simp [World.frozen?, B10.out]
  have x3 : v3.cell? ⟨g10, 3, none⟩ = some (.int .u32 b) := by simp [World.cell?, B10.out]
  have zx3 : v3.frozen? ⟨g10, 3, none⟩ = false := by simp [World.frozen?, B10.out]
  have x4 : v3.cell? ⟨g10, 4, none⟩ = some (.int .u16 q) := by simp [World.cell?, B10.out]
  have zx4 : v3.frozen? ⟨g10, 4, none⟩ = false := by simp [World.frozen?, B10.out]
  have x5 : v3.cell? ⟨g10, 5, none⟩ = some (.int .u8 r2) := by simp [World.cell?, B10.out]
  have zx5 : v3.frozen? ⟨g10, 5, none⟩ = false := by simp [World.frozen?, B10.out]
  have x6 : v3.cell? ⟨g10, 6, none⟩ = some (.int .u32 a2) := by simp [World.cell?, B10.out]
  have zx6 : v3.frozen? ⟨g10, 6, none⟩ = false := by simp [World.frozen?, B10.out]
  have x7 : v3.cell? ⟨g10, 7, none⟩ = some (.int .u16 p2) := by simp [World.cell?, B10.out]
  have zx7 : v3.frozen? ⟨g10, 7, none⟩ = false := by simp [World.frozen?, B10.out]
  have x8 : v3.cell? ⟨g10, 8, none⟩ = some (.int .u32 b2) := by simp [World.cell?, B10.out]
  have zx8 : v3.frozen? ⟨g10, 8, none⟩ = false := by simp [World.frozen?, B10.out]
  have x9 : v3.cell? ⟨g10, 9, none⟩ = some (.int .u16 q2) := by simp [World.cell?, B10.out]
  have zx9 : v3.frozen? ⟨g10, 9, none⟩ = false := by simp [World.frozen?, B10.out]
  have x10 : v3.cell? ⟨g10, 10, none⟩ = some (.int .i64 st) := by simp [World.cell?, B10.out]
  have zx10 : v3.frozen? ⟨g10, 10, none⟩ = false := by simp [World.frozen?, B10.out]
  have x11 : v3.cell? ⟨g10, 11, none⟩ = some (.int .i64 dl) := by simp [World.cell?, B10.out]
  have zx11 : v3.frozen? ⟨g10, 11, none⟩ = false := by simp [World.frozen?, B10.out]
  have x12 : v3.cell? ⟨g10, 12, none⟩ = some ((.slice (some ⟨b', 0, none⟩) n c')) := by simp [World.cell?, B10.out]
  have zx12 : v3.frozen? ⟨g10, 12, none⟩ = false := by simp [World.frozen?, B10.out]

  go_wp2_with fail
  clear x0 zx0 x1 zx1 x2 zx2 x3 zx3 x4 zx4 x5 zx5 x6 zx6 x7 zx7 x8 zx8 x9 zx9 x10 zx10 x11 zx11 x12 zx12

  have hb := heap_set v3 g10 10 _ _ (.int .i64 nx) B10.out
  have hby := (heap_set_other v3 g10 g2 10 (.int .i64 nx) hg210).trans By.out
  have hhs := Hh4.out.set (p := ⟨g10, 10, none⟩) (show g10 ≠ b' by omega) (.int .i64 nx)
  have hnw := Hm3.out.setCell (p := ⟨g10, 10, none⟩) (Or.inl hgw) (.int .i64 nx)
  generalize v3.setCell ⟨g10, 10, none⟩ (.int .i64 nx) = v4 at *
  simp only [List.setIfInBounds_toArray, List.set_cons_zero, List.set_cons_succ] at hb
  clear B10 By Hm3 Hh4
  have B10 := Lib.hid hb
  have By := Lib.hid hby
  have Hm4 := Lib.hid hnw
  have Hh4 := Lib.hid hhs
  clear hb hby hnw hhs
  refine (K3.out _ (Ht.out.low Hm4.out)).mono ?_
  rintro e v4' ⟨rfl, rfl⟩
  have x0 : v4'.cell? ⟨g10, 0, none⟩ = some (.int .u8 r) := by simp [World.cell?, B10.out]
  have zx0 : v4'.frozen? ⟨g10, 0, none⟩ = false := by simp [World.frozen?, B10.out]
  have x1 : v4'.cell? ⟨g10, 1, none⟩ = some (.int .u32 a) := by simp [World.cell?, B10.out]
  have zx1 : v4'.frozen? ⟨g10, 1, none⟩ = false := by simp [World.frozen?, B10.out]
  have x2 : v4'.cell? ⟨g10, 2, none⟩ = some (.int .u16 p) := by simp [World.cell?, B10.out]
  have zx2 : v4'.frozen? ⟨g10, 2, none⟩ = false := by simp [World.frozen?, B10.out]
  have x3 : v4'.cell? ⟨g10, 3, none⟩ = some (.int .u32 b) := by simp [World.cell?, B10.out]
  have zx3 : v4'.frozen? ⟨g10, 3, none⟩ = false := by simp [World.frozen?, B10.out]
  have x4 : v4'.cell? ⟨g10, 4, none⟩ = some (.int .u16 q) := by simp [World.cell?, B10.out]
  have zx4 : v4'.frozen? ⟨g10, 4, none⟩ = false := by simp [World.frozen?, B10.out]
  have x5 : v4'.cell? ⟨g10, 5, none⟩ = some (.int .u8 r2) := by simp [World.cell?, B10.out]
  have zx5 : v4'.frozen? ⟨g10, 5, none⟩ = false := by simp [World.frozen?, B10.out]
  have x6 : v4'.cell? ⟨g10, 6, none⟩ = some (.int .u32 a2) := by simp [World.cell?, B10.out]
  have zx6 : v4'.frozen? ⟨g10, 6, none⟩ = false := by simp [World.frozen?, B10.out]
  have x7 : v4'.cell? ⟨g10, 7, none⟩ = some (.int .u16 p2) := by simp [World.cell?, B10.out]
  have zx7 : v4'.frozen? ⟨g10, 7, none⟩ = false := by simp [World.frozen?, B10.out]
  have x8 : v4'.cell? ⟨g10, 8, none⟩ = some (.int .u32 b2) := by simp [World.cell?, B10.out]
  have zx8 : v4'.frozen? ⟨g10, 8, none⟩ = false := by simp [World.frozen?, B10.out]
  have x9 : v4'.cell? ⟨g10, 9, none⟩ = some (.int .u16 q2) := by simp [World.cell?, B10.out]
  have zx9 : v4'.frozen? ⟨g10, 9, none⟩ = false := by simp [World.frozen?, B10.out]
  have x10 : v4'.cell? ⟨g10, 10, none⟩ = some (.int .i64 nx) := by simp [World.cell?, B10.out]
  have zx10 : v4'.frozen? ⟨g10, 10, none⟩ = false := by simp [World.frozen?, B10.out]
  have x11 : v4'.cell? ⟨g10, 11, none⟩ = some (.int .i64 dl) := by simp [World.cell?, B10.out]
  have zx11 : v4'.frozen? ⟨g10, 11, none⟩ = false := by simp [World.frozen?, B10.out]
  have x12 : v4'.cell? ⟨g10, 12, none⟩ = some ((.slice (some ⟨b', 0, none⟩) n c')) := by simp [World.cell?, B10.out]
  have zx12 : v4'.frozen? ⟨g10, 12, none⟩ = false := by simp [World.frozen?, B10.out]
  have y0 : v4'.cell? ⟨g2, 0, none⟩ = some (.int .u8 0) := by simp [World.cell?, By.out]
  have zy0 : v4'.frozen? ⟨g2, 0, none⟩ = false := by simp [World.frozen?, By.out]
  have y1 : v4'.cell? ⟨g2, 1, none⟩ = some (.int .u32 0) := by simp [World.cell?, By.out]
  have zy1 : v4'.frozen? ⟨g2, 1, none⟩ = false := by simp [World.frozen?, By.out]
  have y2 : v4'.cell? ⟨g2, 2, none⟩ = some (.int .u16 0) := by simp [World.cell?, By.out]
  have zy2 : v4'.frozen? ⟨g2, 2, none⟩ = false := by simp [World.frozen?, By.out]
  have y3 : v4'.cell? ⟨g2, 3, none⟩ = some (.int .u32 0) := by simp [World.cell?, By.out]
  have zy3 : v4'.frozen? ⟨g2, 3, none⟩ = false := by simp [World.frozen?, By.out]
  have y4 : v4'.cell? ⟨g2, 4, none⟩ = some (.int .u16 0) := by simp [World.cell?, By.out]
  have zy4 : v4'.frozen? ⟨g2, 4, none⟩ = false := by simp [World.frozen?, By.out]
  have y5 : v4'.cell? ⟨g2, 5, none⟩ = some (.int .u8 0) := by simp [World.cell?, By.out]
  have zy5 : v4'.frozen? ⟨g2, 5, none⟩ = false := by simp [World.frozen?, By.out]
  have y6 : v4'.cell? ⟨g2, 6, none⟩ = some (.int .u32 0) := by simp [World.cell?, By.out]
  have zy6 : v4'.frozen? ⟨g2, 6, none⟩ = false := by simp [World.frozen?, By.out]
  have y7 : v4'.cell? ⟨g2, 7, none⟩ = some (.int .u16 0) := by simp [World.cell?, By.out]
  have zy7 : v4'.frozen? ⟨g2, 7, none⟩ = false := by simp [World.frozen?, By.out]
  have y8 : v4'.cell? ⟨g2, 8, none⟩ = some (.int .u32 0) := by simp [World.cell?, By.out]
  have zy8 : v4'.frozen? ⟨g2, 8, none⟩ = false := by simp [World.frozen?, By.out]
  have y9 : v4'.cell? ⟨g2, 9, none⟩ = some (.int .u16 0) := by simp [World.cell?, By.out]
  have zy9 : v4'.frozen? ⟨g2, 9, none⟩ = false := by simp [World.frozen?, By.out]
  have y10 : v4'.cell? ⟨g2, 10, none⟩ = some (.int .i64 0) := by simp [World.cell?, By.out]
  have zy10 : v4'.frozen? ⟨g2, 10, none⟩ = false := by simp [World.frozen?, By.out]
  have y11 : v4'.cell? ⟨g2, 11, none⟩ = some (.int .i64 0) := by simp [World.cell?, By.out]
  have zy11 : v4'.frozen? ⟨g2, 11, none⟩ = false := by simp [World.frozen?, By.out]
  have y12 : v4'.cell? ⟨g2, 12, none⟩ = some (.slice none 0 0) := by simp [World.cell?, By.out]
  have zy12 : v4'.frozen? ⟨g2, 12, none⟩ = false := by simp [World.frozen?, By.out]

  go_wp2_with fail
  obtain ⟨W, hW, hb2, hf2⟩ := set13 (v4'.setCell ⟨g10, 11, none⟩ (.int .i64 (now + tm))) g2 31 (.int .u8 0) (.int .u32 0) (.int .u16 0) (.int .u32 0) (.int .u16 0) (.int .u8 0) (.int .u32 0) (.int .u16 0) (.int .u32 0) (.int .u16 0) (.int .i64 0) (.int .i64 0) (.slice none 0 0) ((heap_set_other v4' g10 g2 11 _ hg210).trans By.out) (.int .u8 r) (.int .u32 a) (.int .u16 p) (.int .u32 b) (.int .u16 q) (.int .u8 r2) (.int .u32 a2) (.int .u16 p2) (.int .u32 b2) (.int .u16 q2) (.int .i64 nx) (.int .i64 (now + tm)) ((.slice (some ⟨b', 0, none⟩) n c'))
  rw [← hW]
  have Hf2 := Lib.hid hf2
  clear hW hf2
  clear x0 zx0 x1 zx1 x2 zx2 x3 zx3 x4 zx4 x5 zx5 x6 zx6 x7 zx7 x8 zx8 x9 zx9 x10 zx10 x11 zx11 x12 zx12
  clear y0 zy0 y1 zy1 y2 zy2 y3 zy3 y4 zy4 y5 zy5 y6 zy6 y7 zy7 y8 zy8 y9 zy9 y10 zy10 y11 zy11 y12 zy12
  have y0 : W.cell? ⟨g2, 0, none⟩ = some (.int .u8 r) := by simp [World.cell?, hb2]
  have y1 : W.cell? ⟨g2, 1, none⟩ = some (.int .u32 a) := by simp [World.cell?, hb2]
  have y2 : W.cell? ⟨g2, 2, none⟩ = some (.int .u16 p) := by simp [World.cell?, hb2]
  have y3 : W.cell? ⟨g2, 3, none⟩ = some (.int .u32 b) := by simp [World.cell?, hb2]
  have y4 : W.cell? ⟨g2, 4, none⟩ = some (.int .u16 q) := by simp [World.cell?, hb2]
  have y5 : W.cell? ⟨g2, 5, none⟩ = some (.int .u8 r2) := by simp [World.cell?, hb2]
  have y6 : W.cell? ⟨g2, 6, none⟩ = some (.int .u32 a2) := by simp [World.cell?, hb2]
  have y7 : W.cell? ⟨g2, 7, none⟩ = some (.int .u16 p2) := by simp [World.cell?, hb2]
  have y8 : W.cell? ⟨g2, 8, none⟩ = some (.int .u32 b2) := by simp [World.cell?, hb2]
  have y9 : W.cell? ⟨g2, 9, none⟩ = some (.int .u16 q2) := by simp [World.cell?, hb2]
  have y10 : W.cell? ⟨g2, 10, none⟩ = some (.int .i64 nx) := by simp [World.cell?, hb2]
  have y11 : W.cell? ⟨g2, 11, none⟩ = some (.int .i64 (now + tm)) := by simp [World.cell?, hb2]
  have y12 : W.cell? ⟨g2, 12, none⟩ = some ((.slice (some ⟨b', 0, none⟩) n c')) := by simp [World.cell?, hb2]

  refine bodyPost_ret (v := .tuple #[.agg #[.int .u8 r, .int .u32 a, .int .u16 p, .int .u32 b, .int .u16 q, .int .u8 r2, .int .u32 a2, .int .u16 p2, .int .u32 b2, .int .u16 q2, .int .i64 nx, .int .i64 (now + tm), (.slice (some ⟨b', 0, none⟩) n c')], .int .i64 0]) (by simp only [results, Tryd.results21]; go_simp) rfl ⟨b', c', rfl, Hc2.out, Hwb.out, ?_, ?_⟩
  · have h1 := Hh4.out.set (p := ⟨g10, 11, none⟩) (show g10 ≠ b' by omega) (.int .i64 (now + tm))
    exact ⟨h1.len, fun j x hj => (Hf2.out.cell (p := ⟨b', 0 + j, none⟩) h1.lt (fun e => Hbg.out.2 e.symm)).trans (h1.cell j x hj), h1.one, Nat.lt_of_lt_of_le h1.lt Hf2.out.size⟩
  · exact (Fp.setCell Hm4.out (p := ⟨g10, 11, none⟩) (Or.inl hgw) _).trans Hf2.out (fun i hi e => by have h1 := Hg0.out.2; have h2 := Hg.out; omega)
end Go.Proofs.YtdmbjndhdldggaaDoor

namespace Go.Proofs.YtdmbjndhdldggaaDoor
set_option linter.unusedVariables false
set_option linter.unusedSimpArgs false
open Go.RowKit Go.Lib Go.Sort

/-- Texts with a blank between. -/
def joinB (ps : List (List UInt8)) : List UInt8 := List.intercalate [32] ps
theorem join_lenB (ps : List (List UInt8)) : ps.length ≤ (joinB ps).length + 1 := by
  induction ps with
  | nil => simp
  | cons a l ih => cases l with
    | nil => simp [joinB, List.intercalate]
    | cons b l => simp [joinB, List.intercalate] at ih ⊢; omega
theorem join_ok (g n c : Nat) (ps : List (List UInt8)) (w : World) (hc : ∀ j x, ps[j]? = some x → w.cell? ⟨g, j, none⟩ = some (str x)) (hg : g < w.heap.size) (hn : ps.length = n) (hnc : n ≤ c) (hs : (joinB ps).length ≤ 100000) :
    Calls Tryd.prog 61 #[.slice (some ⟨g, 0, none⟩) n c, .string ⟨#[32]⟩] w (Ret1 (str (joinB ps)) w) := by
  subst hn
  have e : Lib.join ((ps.map fun p => (⟨p.toArray⟩ : ByteArray)).map (·.data.toList)) (⟨#[32]⟩ : ByteArray).data.toList = joinB ps := by
    have : ((ps.map fun p => (⟨p.toArray⟩ : ByteArray)).map (·.data.toList)) = ps := by simp [Function.comp_def]
    rw [this]; rfl
  have hj := Tryd.strings_Join g 0 c (ps.map fun p => (⟨p.toArray⟩ : ByteArray)) ⟨#[32]⟩ w (fun j x hx => by
    rw [List.getElem?_map] at hx
    rcases hp : ps[j]? with _ | p
    · simp [hp] at hx
    · simp only [hp, Option.map_some, Option.some.injEq] at hx
      rw [Nat.zero_add, ← hx]
      exact hc j p hp) hg (by simp; have := join_lenB ps; omega) (by simpa using hnc) (by rw [e]; omega)
  rw [e] at hj
  simp only [List.length_map] at hj
  refine (show Calls _ _ _ _ _ from hj).mono ?_
  rintro e w2 ⟨rfl, hb2⟩
  exact ⟨rfl, Fp.of_below hb2⟩

/-- A tuple's text. -/
def tupT (k a p b q : Nat) : List UInt8 := joinB [wordOf k, withT 58 a p, withT 58 b q]
theorem wordOf_len (k : Nat) : (wordOf k).length ≤ 4 := by unfold wordOf; split <;> (try split) <;> (try split) <;> simp
theorem withT_len (a p : Nat) (ha : a < 4294967296) (hp : p < 65536) : (withT 58 a p).length ≤ 40 := by
  have hl1 := addrT_len ha
  have hl2 := dec_len 5 p (by omega) (by omega)
  simp [withT]; omega
theorem tupT_len (k a p b q : Nat) (ha : a < 4294967296) (hp : p < 65536) (hb : b < 4294967296) (hq : q < 65536) : (tupT k a p b q).length ≤ 100 := by
  have h1 := wordOf_len k
  have h2 := withT_len a p ha hp
  have h3 := withT_len b q hb hq
  simp [tupT, joinB, List.intercalate]; omega

set_option maxHeartbeats 4000000 in
theorem tup_text (k a p b q : Nat) (hk : k < 256) (ha : a < 4294967296) (hpp : p < 65536) (hb : b < 4294967296) (hq : q < 65536) (h : tupB k p q = true) (w : World) (ht : Tb w) :
    Calls Tryd.prog 58 #[.agg #[.int .u8 k, .int .u32 a, .int .u16 p, .int .u32 b, .int .u16 q]] w (Ret1 (str (tupT k a p b q)) w) := by
  have Ht := Lib.hid ht
  have kt := fun W hW => tup_ok k a p b q hk W hW
  rw [h] at kt
  have Kt := Lib.hid kt
  have P1 := Lib.hid (fun W (hW : Tb W) => point_text a ha p hpp W hW)
  have P2 := Lib.hid (fun W (hW : Tb W) => point_text b hb q hq W hW)
  have Hl := Lib.hid (show (joinB [wordOf k, withT 58 a p, withT 58 b q]).length ≤ 100000 from Nat.le_trans (tupT_len k a p b q ha hpp hb hq) (by omega))
  have Hk := Lib.hid hk
  clear ht kt h ha hpp hb hq hk
  go_enter Tryd.func58, Tryd.ntmps58
  go_wp2_with fail
  have hw0 : NoW w (w.alloc (.cells #[.int .u8 k, .int .u32 a, .int .u16 p, .int .u32 b, .int .u16 q] 28)) := (Fp.refl _ _).alloc _
  have hb0 : (w.alloc (.cells #[.int .u8 k, .int .u32 a, .int .u16 p, .int .u32 b, .int .u16 q] 28)).heap[w.heap.size]? = some (.cells #[.int .u8 k, .int .u32 a, .int .u16 p, .int .u32 b, .int .u16 q] 28) := heap_alloc_new _ _
  generalize w.alloc (.cells #[.int .u8 k, .int .u32 a, .int .u16 p, .int .u32 b, .int .u16 q] 28) = w0 at *
  generalize w.heap.size = g at *
  refine (Kt.out _ (Ht.out.low hw0)).mono ?_
  rintro e v0 ⟨rfl, hp⟩
  have hb := (hp.block _ (Array.getElem?_eq_some_iff.1 hb0).1 id).trans hb0
  have Hn := Lib.hid (hw0.trans hp (fun _ _ h => h))
  clear hp hw0 hb0
  have x0 : v0.cell? ⟨g, 0, none⟩ = some (.int .u8 k) := by simp [World.cell?, hb]
  have x1 : v0.cell? ⟨g, 1, none⟩ = some (.int .u32 a) := by simp [World.cell?, hb]
  have x2 : v0.cell? ⟨g, 2, none⟩ = some (.int .u16 p) := by simp [World.cell?, hb]
  have x3 : v0.cell? ⟨g, 3, none⟩ = some (.int .u32 b) := by simp [World.cell?, hb]
  have x4 : v0.cell? ⟨g, 4, none⟩ = some (.int .u16 q) := by simp [World.cell?, hb]

  have lg : g < v0.heap.size := cell_lt x0
  clear hb
  obtain ⟨bm, o, hm1, hm2, hm3⟩ := (Ht.out.low Hn.out).words
  have lm := cell_lt hm1
  have lm2 := (Array.getElem?_eq_some_iff.1 hm2).1
  have Hm3 := Lib.hid hm3
  clear hm3
  go_wp2_with fail
  refine wp_region_held_drew (S := fun wx => NoW v0 wx) (by kernel_rfl) (Fp.drew (Fp.refl _ _)) (fun hHeld => ?_)
  (refine take_at 0 (some 6) rfl rfl (by kernel_rfl) (by kernel_rfl) (by kernel_rfl) (fun _ _ _ h => h) (v := ?_) (by kernel_rfl) ?_ (by assumption) ?_; rotate_left; (focus (intro wS hSw; have ym := (hSw.cell (p := ⟨0, 0, none⟩) lm id).trans hm1; go_simp; try with_reducible rfl)); (try simp only [Act.put, List.setIfInBounds_toArray, List.set_cons_zero, List.set_cons_succ]))
  (refine take_at 1 (some 7) rfl rfl (by kernel_rfl) (by kernel_rfl) (by kernel_rfl) (fun _ _ _ h => h) (v := ?_) (by kernel_rfl) ?_ (by assumption) ?_; rotate_left; (focus (intro wS hSw; skip; go_simp; try with_reducible rfl)); (try simp only [Act.put, List.setIfInBounds_toArray, List.set_cons_zero, List.set_cons_succ]))
  (refine take_at 2 (some 8) rfl rfl (by kernel_rfl) (by kernel_rfl) (by kernel_rfl) (fun _ _ _ h => h) (v := ?_) (by kernel_rfl) ?_ (by assumption) ?_; rotate_left; (focus (intro wS hSw; (have y0 := (hSw.cell (p := ⟨g, 0, none⟩) lg id).trans x0); go_simp; try with_reducible rfl)); (try simp only [Act.put, List.setIfInBounds_toArray, List.set_cons_zero, List.set_cons_succ]))
  (refine take_at 3 (some 9) rfl rfl (by kernel_rfl) (by kernel_rfl) (by kernel_rfl) (fun _ _ _ h => h) (v := ?_) (by kernel_rfl) ?_ (by assumption) ?_; rotate_left; (focus (intro wS hSw; have yl := (Hm3.out wS ((hSw.block _ lm2 id).trans hm2) k Hk.out).2; go_simp; try with_reducible rfl)); (try simp only [Act.put, List.setIfInBounds_toArray, List.set_cons_zero, List.set_cons_succ]))
  (refine take_at 4 (some 10) rfl rfl (by kernel_rfl) (by kernel_rfl) (by kernel_rfl) (fun _ _ _ h => h) (v := ?_) (by kernel_rfl) ?_ (by assumption) ?_; rotate_left; (focus (intro wS hSw; skip; go_simp; try with_reducible rfl)); (try simp only [Act.put, List.setIfInBounds_toArray, List.set_cons_zero, List.set_cons_succ]))
  (refine take_at 5 (some 11) rfl rfl (by kernel_rfl) (by kernel_rfl) (by kernel_rfl) (fun _ _ _ h => h) (v := ?_) (by kernel_rfl) ?_ (by assumption) ?_; rotate_left; (focus (intro wS hSw; (have y1 := (hSw.cell (p := ⟨g, 1, none⟩) lg id).trans x1); (have y2 := (hSw.cell (p := ⟨g, 2, none⟩) lg id).trans x2); go_simp; try with_reducible rfl)); (try simp only [Act.put, List.setIfInBounds_toArray, List.set_cons_zero, List.set_cons_succ]))
  (refine take_at 7 (some 13) rfl rfl (by kernel_rfl) (by kernel_rfl) (by kernel_rfl) (fun _ _ _ h => h) (v := ?_) (by kernel_rfl) ?_ (by assumption) ?_; rotate_left; (focus (intro wS hSw; skip; go_simp; try with_reducible rfl)); (try simp only [Act.put, List.setIfInBounds_toArray, List.set_cons_zero, List.set_cons_succ]))
  (refine take_at 8 (some 14) rfl rfl (by kernel_rfl) (by kernel_rfl) (by kernel_rfl) (fun _ _ _ h => h) (v := ?_) (by kernel_rfl) ?_ (by assumption) ?_; rotate_left; (focus (intro wS hSw; (have y3 := (hSw.cell (p := ⟨g, 3, none⟩) lg id).trans x3); (have y4 := (hSw.cell (p := ⟨g, 4, none⟩) lg id).trans x4); go_simp; try with_reducible rfl)); (try simp only [Act.put, List.setIfInBounds_toArray, List.set_cons_zero, List.set_cons_succ]))
  clear x0 x1 x2 x3 x4 hm1 hm2
  refine wpAnyH_ready (rs := [6]) (by kernel_rfl) (by simp) ?_
  refine AllReadyH.cons rfl (fun K hK => ?_) AllReadyH.nil
  go_simp
  go_at_call 60
  refine (P1.out _ (Ht.out.low (Hn.out.trans hHeld (fun _ _ h => h)))).mono ?_
  rintro e u ⟨rfl, hp⟩
  have hn : NoW v0 u := Fp.trans hHeld hp (fun _ _ h => h)
  clear hp hHeld
  refine hK.out _ _ hn (fun hHeld => ?_)
  clear hK K hn
  try simp only [Act.put, List.setIfInBounds_toArray, List.set_cons_zero, List.set_cons_succ]
  refine wpAnyH_ready (rs := [9]) (by kernel_rfl) (by simp) ?_
  refine AllReadyH.cons rfl (fun K hK => ?_) AllReadyH.nil
  go_simp
  go_at_call 60
  refine (P2.out _ (Ht.out.low (Hn.out.trans hHeld (fun _ _ h => h)))).mono ?_
  rintro e u ⟨rfl, hp⟩
  have hn : NoW v0 u := Fp.trans hHeld hp (fun _ _ h => h)
  clear hp hHeld
  refine hK.out _ _ hn (fun hHeld => ?_)
  clear hK K hn
  try simp only [Act.put, List.setIfInBounds_toArray, List.set_cons_zero, List.set_cons_succ]
  refine wpAnyH_ready (rs := [10]) (by kernel_rfl) (by simp) ?_
  refine AllReadyH.cons rfl (fun K hK => ?_) AllReadyH.nil
  go_simp
  refine hK.out _ _ (hHeld.alloc _) (fun hHeld2 => ?_)
  clear hK K
  try simp only [Act.put, List.setIfInBounds_toArray, List.set_cons_zero, List.set_cons_succ]
  refine wpAnyH_ready (rs := [11]) (by kernel_rfl) (by simp) ?_
  refine AllReadyH.cons rfl (fun K hK => ?_) AllReadyH.nil
  go_simp
  go_at_call 61
  refine (join_ok _ 3 3 [wordOf k, withT 58 a p, withT 58 b q] _ ?_ (by simp) rfl (by omega) Hl.out).mono ?_
  · intro j x hj; match j, hj with | 0, hj => (simp at hj; simp [← hj]) | 1, hj => (simp at hj; simp [← hj]) | 2, hj => (simp at hj; simp [← hj]) | j + 3, hj => simp at hj
  rintro e u2 ⟨rfl, hp⟩
  have hn : NoW v0 u2 := Fp.trans hHeld2 hp (fun _ _ h => h)
  clear hp hHeld hHeld2
  refine hK.out _ _ hn (fun hHeld => ?_)
  clear hK K hn
  try simp only [Act.put, List.setIfInBounds_toArray, List.set_cons_zero, List.set_cons_succ]
  refine wpAnyH_ready (rs := [12]) (by kernel_rfl) (by simp) ?_
  refine AllReadyH.cons rfl (fun K hK => ?_) AllReadyH.nil
  go_simp
  refine hK.out _ _ hHeld (fun hHeld => ?_)
  clear hK K
  try simp only [Act.put, List.setIfInBounds_toArray, List.set_cons_zero, List.set_cons_succ]
  refine wpAnyH_done (by kernel_rfl) ?_ _
  go_wp2_with fail
  go_ret
  exact ⟨rfl, Hn.out.trans hHeld (fun _ _ h => h)⟩
end Go.Proofs.YtdmbjndhdldggaaDoor
