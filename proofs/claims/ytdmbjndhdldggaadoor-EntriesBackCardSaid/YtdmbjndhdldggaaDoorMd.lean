/- Texts of this proof, merged: EtC EtD EtE. -/
import Derived.Test.YtdmbjndhdldggaaDoorMc
import Derived.Test.YtdmbjndhdldggaaDoorMb
import Derived.Test.YtdmbjndhdldggaaDoorMa
namespace Go.Proofs.YtdmbjndhdldggaaDoor
set_option linter.unusedVariables false
set_option linter.unusedSimpArgs false
open Go.RowKit Go.Lib Go.Sort
theorem toN_nonneg (f : Nat) (hf : f < 4) (s : Int) : 0 ≤ toN f s := by
  unfold toN
  split
  · obtain ⟨n, rfl⟩ : ∃ n : Nat, s = n := ⟨s.toNat, by omega⟩
    have hn : n < 8 := by omega
    rw [Int.toNat_natCast]
    have key : ∀ f : Fin 4, ∀ n : Fin 8, 0 ≤ lastN f.val n.val := by decide +kernel
    exact key ⟨f, hf⟩ ⟨n, hn⟩
  · exact Int.le_refl _

set_option maxHeartbeats 2000000 in
set_option maxRecDepth 100000 in
theorem rmay_t1 (r a p b q r2 a2 p2 b2 q2 : Nat) (st dl : Int) (o : Option Addr) (n c : Nat) (w : World) (h1 : tupB r p q = false) :
    Calls Tryd.prog 23 #[.agg #[.int .u8 r, .int .u32 a, .int .u16 p, .int .u32 b, .int .u16 q, .int .u8 r2, .int .u32 a2, .int .u16 p2, .int .u32 b2, .int .u16 q2, .int .i64 st, .int .i64 dl, .slice o n c]] w (Ret1 (.bool false) w) := by
  have k1 := fun W => rmay8_ok r a p b q W
  have k2 := fun W => rmay8_ok r2 a2 p2 b2 q2 W
  have k3 := fun W => rflow_ok r W
  have k4 := fun W => rtimeout_ok (flowN r) (flowN_lt r) st W
  rw [h1] at k1
  have K1 := Lib.hid k1
  have K2 := Lib.hid k2
  have K3 := Lib.hid k3
  have K4 := Lib.hid k4
  clear k1 k2 k3 k4
  go_enter Tryd.func23, Tryd.ntmps23
  go_wp2_with fail
  have hn0 : NoW w (w.alloc (.cells #[.int .u8 r, .int .u32 a, .int .u16 p, .int .u32 b, .int .u16 q, .int .u8 r2, .int .u32 a2, .int .u16 p2, .int .u32 b2, .int .u16 q2, .int .i64 st, .int .i64 dl, .slice o n c] 50)) := (Fp.refl _ _).alloc _
  have hb0 := heap_alloc_new w (.cells #[.int .u8 r, .int .u32 a, .int .u16 p, .int .u32 b, .int .u16 q, .int .u8 r2, .int .u32 a2, .int .u16 p2, .int .u32 b2, .int .u16 q2, .int .i64 st, .int .i64 dl, .slice o n c] 50)
  generalize w.alloc (.cells #[.int .u8 r, .int .u32 a, .int .u16 p, .int .u32 b, .int .u16 q, .int .u8 r2, .int .u32 a2, .int .u16 p2, .int .u32 b2, .int .u16 q2, .int .i64 st, .int .i64 dl, .slice o n c] 50) = w0 at *
  generalize w.heap.size = g at *
  have Hn0 := Lib.hid hn0
  have B := Lib.hid hb0
  clear hn0 hb0
  refine (K1.out _).mono ?_
  rintro e v0 ⟨rfl, hp⟩
  have Hm0 := Lib.hid (Hn0.out.trans hp (fun _ _ h => h))
  have hb := (hp.block _ (Array.getElem?_eq_some_iff.1 B.out).1 id).trans B.out
  clear B hp Hn0
  have B := Lib.hid hb
  clear hb
  have c0 : v0.cell? ⟨g, 0, none⟩ = some (.int .u8 r) := by simp [World.cell?, B.out]
  have c1 : v0.cell? ⟨g, 1, none⟩ = some (.int .u32 a) := by simp [World.cell?, B.out]
  have c2 : v0.cell? ⟨g, 2, none⟩ = some (.int .u16 p) := by simp [World.cell?, B.out]
  have c3 : v0.cell? ⟨g, 3, none⟩ = some (.int .u32 b) := by simp [World.cell?, B.out]
  have c4 : v0.cell? ⟨g, 4, none⟩ = some (.int .u16 q) := by simp [World.cell?, B.out]
  have c5 : v0.cell? ⟨g, 5, none⟩ = some (.int .u8 r2) := by simp [World.cell?, B.out]
  have c6 : v0.cell? ⟨g, 6, none⟩ = some (.int .u32 a2) := by simp [World.cell?, B.out]
  have c7 : v0.cell? ⟨g, 7, none⟩ = some (.int .u16 p2) := by simp [World.cell?, B.out]
  have c8 : v0.cell? ⟨g, 8, none⟩ = some (.int .u32 b2) := by simp [World.cell?, B.out]
  have c9 : v0.cell? ⟨g, 9, none⟩ = some (.int .u16 q2) := by simp [World.cell?, B.out]
  have c10 : v0.cell? ⟨g, 10, none⟩ = some (.int .i64 st) := by simp [World.cell?, B.out]
  have c11 : v0.cell? ⟨g, 11, none⟩ = some (.int .i64 dl) := by simp [World.cell?, B.out]
  have c12 : v0.cell? ⟨g, 12, none⟩ = some (.slice o n c) := by simp [World.cell?, B.out]
  go_wp2_with fail
  go_ret
  exact ⟨rfl, Hm0.out⟩

set_option maxHeartbeats 2000000 in
set_option maxRecDepth 100000 in
theorem rmay_t2 (r a p b q r2 a2 p2 b2 q2 : Nat) (st dl : Int) (o : Option Addr) (n c : Nat) (w : World) (h1 : tupB r p q = true) (h2 : tupB r2 p2 q2 = false) :
    Calls Tryd.prog 23 #[.agg #[.int .u8 r, .int .u32 a, .int .u16 p, .int .u32 b, .int .u16 q, .int .u8 r2, .int .u32 a2, .int .u16 p2, .int .u32 b2, .int .u16 q2, .int .i64 st, .int .i64 dl, .slice o n c]] w (Ret1 (.bool false) w) := by
  have k1 := fun W => rmay8_ok r a p b q W
  have k2 := fun W => rmay8_ok r2 a2 p2 b2 q2 W
  have k3 := fun W => rflow_ok r W
  have k4 := fun W => rtimeout_ok (flowN r) (flowN_lt r) st W
  rw [h1] at k1
  rw [h2] at k2
  have K1 := Lib.hid k1
  have K2 := Lib.hid k2
  have K3 := Lib.hid k3
  have K4 := Lib.hid k4
  clear k1 k2 k3 k4
  go_enter Tryd.func23, Tryd.ntmps23
  go_wp2_with fail
  have hn0 : NoW w (w.alloc (.cells #[.int .u8 r, .int .u32 a, .int .u16 p, .int .u32 b, .int .u16 q, .int .u8 r2, .int .u32 a2, .int .u16 p2, .int .u32 b2, .int .u16 q2, .int .i64 st, .int .i64 dl, .slice o n c] 50)) := (Fp.refl _ _).alloc _
  have hb0 := heap_alloc_new w (.cells #[.int .u8 r, .int .u32 a, .int .u16 p, .int .u32 b, .int .u16 q, .int .u8 r2, .int .u32 a2, .int .u16 p2, .int .u32 b2, .int .u16 q2, .int .i64 st, .int .i64 dl, .slice o n c] 50)
  generalize w.alloc (.cells #[.int .u8 r, .int .u32 a, .int .u16 p, .int .u32 b, .int .u16 q, .int .u8 r2, .int .u32 a2, .int .u16 p2, .int .u32 b2, .int .u16 q2, .int .i64 st, .int .i64 dl, .slice o n c] 50) = w0 at *
  generalize w.heap.size = g at *
  have Hn0 := Lib.hid hn0
  have B := Lib.hid hb0
  clear hn0 hb0
  refine (K1.out _).mono ?_
  rintro e v0 ⟨rfl, hp⟩
  have Hm0 := Lib.hid (Hn0.out.trans hp (fun _ _ h => h))
  have hb := (hp.block _ (Array.getElem?_eq_some_iff.1 B.out).1 id).trans B.out
  clear B hp Hn0
  have B := Lib.hid hb
  clear hb
  have c0 : v0.cell? ⟨g, 0, none⟩ = some (.int .u8 r) := by simp [World.cell?, B.out]
  have c1 : v0.cell? ⟨g, 1, none⟩ = some (.int .u32 a) := by simp [World.cell?, B.out]
  have c2 : v0.cell? ⟨g, 2, none⟩ = some (.int .u16 p) := by simp [World.cell?, B.out]
  have c3 : v0.cell? ⟨g, 3, none⟩ = some (.int .u32 b) := by simp [World.cell?, B.out]
  have c4 : v0.cell? ⟨g, 4, none⟩ = some (.int .u16 q) := by simp [World.cell?, B.out]
  have c5 : v0.cell? ⟨g, 5, none⟩ = some (.int .u8 r2) := by simp [World.cell?, B.out]
  have c6 : v0.cell? ⟨g, 6, none⟩ = some (.int .u32 a2) := by simp [World.cell?, B.out]
  have c7 : v0.cell? ⟨g, 7, none⟩ = some (.int .u16 p2) := by simp [World.cell?, B.out]
  have c8 : v0.cell? ⟨g, 8, none⟩ = some (.int .u32 b2) := by simp [World.cell?, B.out]
  have c9 : v0.cell? ⟨g, 9, none⟩ = some (.int .u16 q2) := by simp [World.cell?, B.out]
  have c10 : v0.cell? ⟨g, 10, none⟩ = some (.int .i64 st) := by simp [World.cell?, B.out]
  have c11 : v0.cell? ⟨g, 11, none⟩ = some (.int .i64 dl) := by simp [World.cell?, B.out]
  have c12 : v0.cell? ⟨g, 12, none⟩ = some (.slice o n c) := by simp [World.cell?, B.out]
  go_wp2_with fail
  clear c0 c1 c2 c3 c4 c5 c6 c7 c8 c9 c10 c11 c12
  refine (K2.out _).mono ?_
  rintro e v1 ⟨rfl, hp⟩
  have Hm1 := Lib.hid (Hm0.out.trans hp (fun _ _ h => h))
  have hb := (hp.block _ (Array.getElem?_eq_some_iff.1 B.out).1 id).trans B.out
  clear B hp Hm0
  have B := Lib.hid hb
  clear hb
  have c0 : v1.cell? ⟨g, 0, none⟩ = some (.int .u8 r) := by simp [World.cell?, B.out]
  have c1 : v1.cell? ⟨g, 1, none⟩ = some (.int .u32 a) := by simp [World.cell?, B.out]
  have c2 : v1.cell? ⟨g, 2, none⟩ = some (.int .u16 p) := by simp [World.cell?, B.out]
  have c3 : v1.cell? ⟨g, 3, none⟩ = some (.int .u32 b) := by simp [World.cell?, B.out]
  have c4 : v1.cell? ⟨g, 4, none⟩ = some (.int .u16 q) := by simp [World.cell?, B.out]
  have c5 : v1.cell? ⟨g, 5, none⟩ = some (.int .u8 r2) := by simp [World.cell?, B.out]
  have c6 : v1.cell? ⟨g, 6, none⟩ = some (.int .u32 a2) := by simp [World.cell?, B.out]
  have c7 : v1.cell? ⟨g, 7, none⟩ = some (.int .u16 p2) := by simp [World.cell?, B.out]
  have c8 : v1.cell? ⟨g, 8, none⟩ = some (.int .u32 b2) := by simp [World.cell?, B.out]
  have c9 : v1.cell? ⟨g, 9, none⟩ = some (.int .u16 q2) := by simp [World.cell?, B.out]
  have c10 : v1.cell? ⟨g, 10, none⟩ = some (.int .i64 st) := by simp [World.cell?, B.out]
  have c11 : v1.cell? ⟨g, 11, none⟩ = some (.int .i64 dl) := by simp [World.cell?, B.out]
  have c12 : v1.cell? ⟨g, 12, none⟩ = some (.slice o n c) := by simp [World.cell?, B.out]
  go_wp2_with fail
  go_ret
  exact ⟨rfl, Hm1.out⟩

set_option maxHeartbeats 2000000 in
set_option maxRecDepth 100000 in
theorem rmay_same (r a p b q r2 a2 p2 b2 q2 : Nat) (st dl : Int) (o : Option Addr) (n c : Nat) (w : World) (h1 : tupB r p q = true) (h2 : tupB r2 p2 q2 = true) (hne : decide (r = r2 ∧ a = a2 ∧ p = p2 ∧ b = b2 ∧ q = q2) = true) :
    Calls Tryd.prog 23 #[.agg #[.int .u8 r, .int .u32 a, .int .u16 p, .int .u32 b, .int .u16 q, .int .u8 r2, .int .u32 a2, .int .u16 p2, .int .u32 b2, .int .u16 q2, .int .i64 st, .int .i64 dl, .slice o n c]] w (Ret1 (.bool false) w) := by
  have k1 := fun W => rmay8_ok r a p b q W
  have k2 := fun W => rmay8_ok r2 a2 p2 b2 q2 W
  have k3 := fun W => rflow_ok r W
  have k4 := fun W => rtimeout_ok (flowN r) (flowN_lt r) st W
  rw [h1] at k1
  rw [h2] at k2
  have heq := fun W => tup_eq2 r a p b q r2 a2 p2 b2 q2 W
  rw [hne] at heq
  clear hne
  have K1 := Lib.hid k1
  have K2 := Lib.hid k2
  have K3 := Lib.hid k3
  have K4 := Lib.hid k4
  clear k1 k2 k3 k4
  go_enter Tryd.func23, Tryd.ntmps23
  go_wp2_with fail
  have hn0 : NoW w (w.alloc (.cells #[.int .u8 r, .int .u32 a, .int .u16 p, .int .u32 b, .int .u16 q, .int .u8 r2, .int .u32 a2, .int .u16 p2, .int .u32 b2, .int .u16 q2, .int .i64 st, .int .i64 dl, .slice o n c] 50)) := (Fp.refl _ _).alloc _
  have hb0 := heap_alloc_new w (.cells #[.int .u8 r, .int .u32 a, .int .u16 p, .int .u32 b, .int .u16 q, .int .u8 r2, .int .u32 a2, .int .u16 p2, .int .u32 b2, .int .u16 q2, .int .i64 st, .int .i64 dl, .slice o n c] 50)
  generalize w.alloc (.cells #[.int .u8 r, .int .u32 a, .int .u16 p, .int .u32 b, .int .u16 q, .int .u8 r2, .int .u32 a2, .int .u16 p2, .int .u32 b2, .int .u16 q2, .int .i64 st, .int .i64 dl, .slice o n c] 50) = w0 at *
  generalize w.heap.size = g at *
  have Hn0 := Lib.hid hn0
  have B := Lib.hid hb0
  clear hn0 hb0
  refine (K1.out _).mono ?_
  rintro e v0 ⟨rfl, hp⟩
  have Hm0 := Lib.hid (Hn0.out.trans hp (fun _ _ h => h))
  have hb := (hp.block _ (Array.getElem?_eq_some_iff.1 B.out).1 id).trans B.out
  clear B hp Hn0
  have B := Lib.hid hb
  clear hb
  have c0 : v0.cell? ⟨g, 0, none⟩ = some (.int .u8 r) := by simp [World.cell?, B.out]
  have c1 : v0.cell? ⟨g, 1, none⟩ = some (.int .u32 a) := by simp [World.cell?, B.out]
  have c2 : v0.cell? ⟨g, 2, none⟩ = some (.int .u16 p) := by simp [World.cell?, B.out]
  have c3 : v0.cell? ⟨g, 3, none⟩ = some (.int .u32 b) := by simp [World.cell?, B.out]
  have c4 : v0.cell? ⟨g, 4, none⟩ = some (.int .u16 q) := by simp [World.cell?, B.out]
  have c5 : v0.cell? ⟨g, 5, none⟩ = some (.int .u8 r2) := by simp [World.cell?, B.out]
  have c6 : v0.cell? ⟨g, 6, none⟩ = some (.int .u32 a2) := by simp [World.cell?, B.out]
  have c7 : v0.cell? ⟨g, 7, none⟩ = some (.int .u16 p2) := by simp [World.cell?, B.out]
  have c8 : v0.cell? ⟨g, 8, none⟩ = some (.int .u32 b2) := by simp [World.cell?, B.out]
  have c9 : v0.cell? ⟨g, 9, none⟩ = some (.int .u16 q2) := by simp [World.cell?, B.out]
  have c10 : v0.cell? ⟨g, 10, none⟩ = some (.int .i64 st) := by simp [World.cell?, B.out]
  have c11 : v0.cell? ⟨g, 11, none⟩ = some (.int .i64 dl) := by simp [World.cell?, B.out]
  have c12 : v0.cell? ⟨g, 12, none⟩ = some (.slice o n c) := by simp [World.cell?, B.out]
  go_wp2_with fail
  clear c0 c1 c2 c3 c4 c5 c6 c7 c8 c9 c10 c11 c12
  refine (K2.out _).mono ?_
  rintro e v1 ⟨rfl, hp⟩
  have Hm1 := Lib.hid (Hm0.out.trans hp (fun _ _ h => h))
  have hb := (hp.block _ (Array.getElem?_eq_some_iff.1 B.out).1 id).trans B.out
  clear B hp Hm0
  have B := Lib.hid hb
  clear hb
  have c0 : v1.cell? ⟨g, 0, none⟩ = some (.int .u8 r) := by simp [World.cell?, B.out]
  have c1 : v1.cell? ⟨g, 1, none⟩ = some (.int .u32 a) := by simp [World.cell?, B.out]
  have c2 : v1.cell? ⟨g, 2, none⟩ = some (.int .u16 p) := by simp [World.cell?, B.out]
  have c3 : v1.cell? ⟨g, 3, none⟩ = some (.int .u32 b) := by simp [World.cell?, B.out]
  have c4 : v1.cell? ⟨g, 4, none⟩ = some (.int .u16 q) := by simp [World.cell?, B.out]
  have c5 : v1.cell? ⟨g, 5, none⟩ = some (.int .u8 r2) := by simp [World.cell?, B.out]
  have c6 : v1.cell? ⟨g, 6, none⟩ = some (.int .u32 a2) := by simp [World.cell?, B.out]
  have c7 : v1.cell? ⟨g, 7, none⟩ = some (.int .u16 p2) := by simp [World.cell?, B.out]
  have c8 : v1.cell? ⟨g, 8, none⟩ = some (.int .u32 b2) := by simp [World.cell?, B.out]
  have c9 : v1.cell? ⟨g, 9, none⟩ = some (.int .u16 q2) := by simp [World.cell?, B.out]
  have c10 : v1.cell? ⟨g, 10, none⟩ = some (.int .i64 st) := by simp [World.cell?, B.out]
  have c11 : v1.cell? ⟨g, 11, none⟩ = some (.int .i64 dl) := by simp [World.cell?, B.out]
  have c12 : v1.cell? ⟨g, 12, none⟩ = some (.slice o n c) := by simp [World.cell?, B.out]
  go_wp2_with fail
  go_ret
  exact ⟨rfl, Hm1.out⟩

set_option maxHeartbeats 2000000 in
set_option maxRecDepth 100000 in
theorem rmay_proto (r a p b q r2 a2 p2 b2 q2 : Nat) (st dl : Int) (o : Option Addr) (n c : Nat) (w : World) (h1 : tupB r p q = true) (h2 : tupB r2 p2 q2 = true) (hne : decide (r = r2 ∧ a = a2 ∧ p = p2 ∧ b = b2 ∧ q = q2) = false) (hpr : r ≠ r2) :
    Calls Tryd.prog 23 #[.agg #[.int .u8 r, .int .u32 a, .int .u16 p, .int .u32 b, .int .u16 q, .int .u8 r2, .int .u32 a2, .int .u16 p2, .int .u32 b2, .int .u16 q2, .int .i64 st, .int .i64 dl, .slice o n c]] w (Ret1 (.bool false) w) := by
  have k1 := fun W => rmay8_ok r a p b q W
  have k2 := fun W => rmay8_ok r2 a2 p2 b2 q2 W
  have k3 := fun W => rflow_ok r W
  have k4 := fun W => rtimeout_ok (flowN r) (flowN_lt r) st W
  rw [h1] at k1
  rw [h2] at k2
  have heq := fun W => tup_eq2 r a p b q r2 a2 p2 b2 q2 W
  rw [hne] at heq
  clear hne
  have hp2 : ((r : Int) != (r2 : Int)) = true := by simp; omega
  clear hpr
  have K1 := Lib.hid k1
  have K2 := Lib.hid k2
  have K3 := Lib.hid k3
  have K4 := Lib.hid k4
  clear k1 k2 k3 k4
  go_enter Tryd.func23, Tryd.ntmps23
  go_wp2_with fail
  have hn0 : NoW w (w.alloc (.cells #[.int .u8 r, .int .u32 a, .int .u16 p, .int .u32 b, .int .u16 q, .int .u8 r2, .int .u32 a2, .int .u16 p2, .int .u32 b2, .int .u16 q2, .int .i64 st, .int .i64 dl, .slice o n c] 50)) := (Fp.refl _ _).alloc _
  have hb0 := heap_alloc_new w (.cells #[.int .u8 r, .int .u32 a, .int .u16 p, .int .u32 b, .int .u16 q, .int .u8 r2, .int .u32 a2, .int .u16 p2, .int .u32 b2, .int .u16 q2, .int .i64 st, .int .i64 dl, .slice o n c] 50)
  generalize w.alloc (.cells #[.int .u8 r, .int .u32 a, .int .u16 p, .int .u32 b, .int .u16 q, .int .u8 r2, .int .u32 a2, .int .u16 p2, .int .u32 b2, .int .u16 q2, .int .i64 st, .int .i64 dl, .slice o n c] 50) = w0 at *
  generalize w.heap.size = g at *
  have Hn0 := Lib.hid hn0
  have B := Lib.hid hb0
  clear hn0 hb0
  refine (K1.out _).mono ?_
  rintro e v0 ⟨rfl, hp⟩
  have Hm0 := Lib.hid (Hn0.out.trans hp (fun _ _ h => h))
  have hb := (hp.block _ (Array.getElem?_eq_some_iff.1 B.out).1 id).trans B.out
  clear B hp Hn0
  have B := Lib.hid hb
  clear hb
  have c0 : v0.cell? ⟨g, 0, none⟩ = some (.int .u8 r) := by simp [World.cell?, B.out]
  have c1 : v0.cell? ⟨g, 1, none⟩ = some (.int .u32 a) := by simp [World.cell?, B.out]
  have c2 : v0.cell? ⟨g, 2, none⟩ = some (.int .u16 p) := by simp [World.cell?, B.out]
  have c3 : v0.cell? ⟨g, 3, none⟩ = some (.int .u32 b) := by simp [World.cell?, B.out]
  have c4 : v0.cell? ⟨g, 4, none⟩ = some (.int .u16 q) := by simp [World.cell?, B.out]
  have c5 : v0.cell? ⟨g, 5, none⟩ = some (.int .u8 r2) := by simp [World.cell?, B.out]
  have c6 : v0.cell? ⟨g, 6, none⟩ = some (.int .u32 a2) := by simp [World.cell?, B.out]
  have c7 : v0.cell? ⟨g, 7, none⟩ = some (.int .u16 p2) := by simp [World.cell?, B.out]
  have c8 : v0.cell? ⟨g, 8, none⟩ = some (.int .u32 b2) := by simp [World.cell?, B.out]
  have c9 : v0.cell? ⟨g, 9, none⟩ = some (.int .u16 q2) := by simp [World.cell?, B.out]
  have c10 : v0.cell? ⟨g, 10, none⟩ = some (.int .i64 st) := by simp [World.cell?, B.out]
  have c11 : v0.cell? ⟨g, 11, none⟩ = some (.int .i64 dl) := by simp [World.cell?, B.out]
  have c12 : v0.cell? ⟨g, 12, none⟩ = some (.slice o n c) := by simp [World.cell?, B.out]
  go_wp2_with fail
  clear c0 c1 c2 c3 c4 c5 c6 c7 c8 c9 c10 c11 c12
  refine (K2.out _).mono ?_
  rintro e v1 ⟨rfl, hp⟩
  have Hm1 := Lib.hid (Hm0.out.trans hp (fun _ _ h => h))
  have hb := (hp.block _ (Array.getElem?_eq_some_iff.1 B.out).1 id).trans B.out
  clear B hp Hm0
  have B := Lib.hid hb
  clear hb
  have c0 : v1.cell? ⟨g, 0, none⟩ = some (.int .u8 r) := by simp [World.cell?, B.out]
  have c1 : v1.cell? ⟨g, 1, none⟩ = some (.int .u32 a) := by simp [World.cell?, B.out]
  have c2 : v1.cell? ⟨g, 2, none⟩ = some (.int .u16 p) := by simp [World.cell?, B.out]
  have c3 : v1.cell? ⟨g, 3, none⟩ = some (.int .u32 b) := by simp [World.cell?, B.out]
  have c4 : v1.cell? ⟨g, 4, none⟩ = some (.int .u16 q) := by simp [World.cell?, B.out]
  have c5 : v1.cell? ⟨g, 5, none⟩ = some (.int .u8 r2) := by simp [World.cell?, B.out]
  have c6 : v1.cell? ⟨g, 6, none⟩ = some (.int .u32 a2) := by simp [World.cell?, B.out]
  have c7 : v1.cell? ⟨g, 7, none⟩ = some (.int .u16 p2) := by simp [World.cell?, B.out]
  have c8 : v1.cell? ⟨g, 8, none⟩ = some (.int .u32 b2) := by simp [World.cell?, B.out]
  have c9 : v1.cell? ⟨g, 9, none⟩ = some (.int .u16 q2) := by simp [World.cell?, B.out]
  have c10 : v1.cell? ⟨g, 10, none⟩ = some (.int .i64 st) := by simp [World.cell?, B.out]
  have c11 : v1.cell? ⟨g, 11, none⟩ = some (.int .i64 dl) := by simp [World.cell?, B.out]
  have c12 : v1.cell? ⟨g, 12, none⟩ = some (.slice o n c) := by simp [World.cell?, B.out]
  go_wp2_with fail
  go_ret
  exact ⟨rfl, Hm1.out⟩

set_option maxHeartbeats 2000000 in
set_option maxRecDepth 100000 in
theorem rmay_track (r a p b q r2 a2 p2 b2 q2 : Nat) (st dl : Int) (o : Option Addr) (n c : Nat) (w : World) (h1 : tupB r p q = true) (h2 : tupB r2 p2 q2 = true) (hne : decide (r = r2 ∧ a = a2 ∧ p = p2 ∧ b = b2 ∧ q = q2) = false) (hpr : r = r2) (h4 : (toN (flowN r) st == 0) = true) :
    Calls Tryd.prog 23 #[.agg #[.int .u8 r, .int .u32 a, .int .u16 p, .int .u32 b, .int .u16 q, .int .u8 r2, .int .u32 a2, .int .u16 p2, .int .u32 b2, .int .u16 q2, .int .i64 st, .int .i64 dl, .slice o n c]] w (Ret1 (.bool false) w) := by
  have k1 := fun W => rmay8_ok r a p b q W
  have k2 := fun W => rmay8_ok r2 a2 p2 b2 q2 W
  have k3 := fun W => rflow_ok r W
  have k4 := fun W => rtimeout_ok (flowN r) (flowN_lt r) st W
  rw [h1] at k1
  rw [h2] at k2
  have heq := fun W => tup_eq2 r a p b q r2 a2 p2 b2 q2 W
  rw [hne] at heq
  clear hne
  have hp2 : ((r : Int) != (r2 : Int)) = false := by rw [hpr]; simp
  clear hpr
  generalize toN (flowN r) st = tm at *
  have K1 := Lib.hid k1
  have K2 := Lib.hid k2
  have K3 := Lib.hid k3
  have K4 := Lib.hid k4
  clear k1 k2 k3 k4
  go_enter Tryd.func23, Tryd.ntmps23
  go_wp2_with fail
  have hn0 : NoW w (w.alloc (.cells #[.int .u8 r, .int .u32 a, .int .u16 p, .int .u32 b, .int .u16 q, .int .u8 r2, .int .u32 a2, .int .u16 p2, .int .u32 b2, .int .u16 q2, .int .i64 st, .int .i64 dl, .slice o n c] 50)) := (Fp.refl _ _).alloc _
  have hb0 := heap_alloc_new w (.cells #[.int .u8 r, .int .u32 a, .int .u16 p, .int .u32 b, .int .u16 q, .int .u8 r2, .int .u32 a2, .int .u16 p2, .int .u32 b2, .int .u16 q2, .int .i64 st, .int .i64 dl, .slice o n c] 50)
  generalize w.alloc (.cells #[.int .u8 r, .int .u32 a, .int .u16 p, .int .u32 b, .int .u16 q, .int .u8 r2, .int .u32 a2, .int .u16 p2, .int .u32 b2, .int .u16 q2, .int .i64 st, .int .i64 dl, .slice o n c] 50) = w0 at *
  generalize w.heap.size = g at *
  have Hn0 := Lib.hid hn0
  have B := Lib.hid hb0
  clear hn0 hb0
  refine (K1.out _).mono ?_
  rintro e v0 ⟨rfl, hp⟩
  have Hm0 := Lib.hid (Hn0.out.trans hp (fun _ _ h => h))
  have hb := (hp.block _ (Array.getElem?_eq_some_iff.1 B.out).1 id).trans B.out
  clear B hp Hn0
  have B := Lib.hid hb
  clear hb
  have c0 : v0.cell? ⟨g, 0, none⟩ = some (.int .u8 r) := by simp [World.cell?, B.out]
  have c1 : v0.cell? ⟨g, 1, none⟩ = some (.int .u32 a) := by simp [World.cell?, B.out]
  have c2 : v0.cell? ⟨g, 2, none⟩ = some (.int .u16 p) := by simp [World.cell?, B.out]
  have c3 : v0.cell? ⟨g, 3, none⟩ = some (.int .u32 b) := by simp [World.cell?, B.out]
  have c4 : v0.cell? ⟨g, 4, none⟩ = some (.int .u16 q) := by simp [World.cell?, B.out]
  have c5 : v0.cell? ⟨g, 5, none⟩ = some (.int .u8 r2) := by simp [World.cell?, B.out]
  have c6 : v0.cell? ⟨g, 6, none⟩ = some (.int .u32 a2) := by simp [World.cell?, B.out]
  have c7 : v0.cell? ⟨g, 7, none⟩ = some (.int .u16 p2) := by simp [World.cell?, B.out]
  have c8 : v0.cell? ⟨g, 8, none⟩ = some (.int .u32 b2) := by simp [World.cell?, B.out]
  have c9 : v0.cell? ⟨g, 9, none⟩ = some (.int .u16 q2) := by simp [World.cell?, B.out]
  have c10 : v0.cell? ⟨g, 10, none⟩ = some (.int .i64 st) := by simp [World.cell?, B.out]
  have c11 : v0.cell? ⟨g, 11, none⟩ = some (.int .i64 dl) := by simp [World.cell?, B.out]
  have c12 : v0.cell? ⟨g, 12, none⟩ = some (.slice o n c) := by simp [World.cell?, B.out]
  go_wp2_with fail
  clear c0 c1 c2 c3 c4 c5 c6 c7 c8 c9 c10 c11 c12
  refine (K2.out _).mono ?_
  rintro e v1 ⟨rfl, hp⟩
  have Hm1 := Lib.hid (Hm0.out.trans hp (fun _ _ h => h))
  have hb := (hp.block _ (Array.getElem?_eq_some_iff.1 B.out).1 id).trans B.out
  clear B hp Hm0
  have B := Lib.hid hb
  clear hb
  have c0 : v1.cell? ⟨g, 0, none⟩ = some (.int .u8 r) := by simp [World.cell?, B.out]
  have c1 : v1.cell? ⟨g, 1, none⟩ = some (.int .u32 a) := by simp [World.cell?, B.out]
  have c2 : v1.cell? ⟨g, 2, none⟩ = some (.int .u16 p) := by simp [World.cell?, B.out]
  have c3 : v1.cell? ⟨g, 3, none⟩ = some (.int .u32 b) := by simp [World.cell?, B.out]
  have c4 : v1.cell? ⟨g, 4, none⟩ = some (.int .u16 q) := by simp [World.cell?, B.out]
  have c5 : v1.cell? ⟨g, 5, none⟩ = some (.int .u8 r2) := by simp [World.cell?, B.out]
  have c6 : v1.cell? ⟨g, 6, none⟩ = some (.int .u32 a2) := by simp [World.cell?, B.out]
  have c7 : v1.cell? ⟨g, 7, none⟩ = some (.int .u16 p2) := by simp [World.cell?, B.out]
  have c8 : v1.cell? ⟨g, 8, none⟩ = some (.int .u32 b2) := by simp [World.cell?, B.out]
  have c9 : v1.cell? ⟨g, 9, none⟩ = some (.int .u16 q2) := by simp [World.cell?, B.out]
  have c10 : v1.cell? ⟨g, 10, none⟩ = some (.int .i64 st) := by simp [World.cell?, B.out]
  have c11 : v1.cell? ⟨g, 11, none⟩ = some (.int .i64 dl) := by simp [World.cell?, B.out]
  have c12 : v1.cell? ⟨g, 12, none⟩ = some (.slice o n c) := by simp [World.cell?, B.out]
  go_wp2_with fail
  go_quiet ((first | (go_at_call 47; exact Calls.quiet_of_same (K3.out _)) | (go_at_call 49; exact Calls.quiet_of_same (K4.out _))))
  go_wp2_with fail
  go_ret
  exact ⟨rfl, Hm1.out.drewN _⟩

set_option maxHeartbeats 2000000 in
set_option maxRecDepth 100000 in
theorem rmay_low (r a p b q r2 a2 p2 b2 q2 : Nat) (st dl : Int) (o : Option Addr) (n c : Nat) (w : World) (h1 : tupB r p q = true) (h2 : tupB r2 p2 q2 = true) (hne : decide (r = r2 ∧ a = a2 ∧ p = p2 ∧ b = b2 ∧ q = q2) = false) (hpr : r = r2) (h4 : (toN (flowN r) st == 0) = false) (hd : decide (0 ≤ dl) = false) :
    Calls Tryd.prog 23 #[.agg #[.int .u8 r, .int .u32 a, .int .u16 p, .int .u32 b, .int .u16 q, .int .u8 r2, .int .u32 a2, .int .u16 p2, .int .u32 b2, .int .u16 q2, .int .i64 st, .int .i64 dl, .slice o n c]] w (Ret1 (.bool false) w) := by
  have k1 := fun W => rmay8_ok r a p b q W
  have k2 := fun W => rmay8_ok r2 a2 p2 b2 q2 W
  have k3 := fun W => rflow_ok r W
  have k4 := fun W => rtimeout_ok (flowN r) (flowN_lt r) st W
  rw [h1] at k1
  rw [h2] at k2
  have heq := fun W => tup_eq2 r a p b q r2 a2 p2 b2 q2 W
  rw [hne] at heq
  clear hne
  have hp2 : ((r : Int) != (r2 : Int)) = false := by rw [hpr]; simp
  clear hpr
  generalize toN (flowN r) st = tm at *
  have K1 := Lib.hid k1
  have K2 := Lib.hid k2
  have K3 := Lib.hid k3
  have K4 := Lib.hid k4
  clear k1 k2 k3 k4
  go_enter Tryd.func23, Tryd.ntmps23
  go_wp2_with fail
  have hn0 : NoW w (w.alloc (.cells #[.int .u8 r, .int .u32 a, .int .u16 p, .int .u32 b, .int .u16 q, .int .u8 r2, .int .u32 a2, .int .u16 p2, .int .u32 b2, .int .u16 q2, .int .i64 st, .int .i64 dl, .slice o n c] 50)) := (Fp.refl _ _).alloc _
  have hb0 := heap_alloc_new w (.cells #[.int .u8 r, .int .u32 a, .int .u16 p, .int .u32 b, .int .u16 q, .int .u8 r2, .int .u32 a2, .int .u16 p2, .int .u32 b2, .int .u16 q2, .int .i64 st, .int .i64 dl, .slice o n c] 50)
  generalize w.alloc (.cells #[.int .u8 r, .int .u32 a, .int .u16 p, .int .u32 b, .int .u16 q, .int .u8 r2, .int .u32 a2, .int .u16 p2, .int .u32 b2, .int .u16 q2, .int .i64 st, .int .i64 dl, .slice o n c] 50) = w0 at *
  generalize w.heap.size = g at *
  have Hn0 := Lib.hid hn0
  have B := Lib.hid hb0
  clear hn0 hb0
  refine (K1.out _).mono ?_
  rintro e v0 ⟨rfl, hp⟩
  have Hm0 := Lib.hid (Hn0.out.trans hp (fun _ _ h => h))
  have hb := (hp.block _ (Array.getElem?_eq_some_iff.1 B.out).1 id).trans B.out
  clear B hp Hn0
  have B := Lib.hid hb
  clear hb
  have c0 : v0.cell? ⟨g, 0, none⟩ = some (.int .u8 r) := by simp [World.cell?, B.out]
  have c1 : v0.cell? ⟨g, 1, none⟩ = some (.int .u32 a) := by simp [World.cell?, B.out]
  have c2 : v0.cell? ⟨g, 2, none⟩ = some (.int .u16 p) := by simp [World.cell?, B.out]
  have c3 : v0.cell? ⟨g, 3, none⟩ = some (.int .u32 b) := by simp [World.cell?, B.out]
  have c4 : v0.cell? ⟨g, 4, none⟩ = some (.int .u16 q) := by simp [World.cell?, B.out]
  have c5 : v0.cell? ⟨g, 5, none⟩ = some (.int .u8 r2) := by simp [World.cell?, B.out]
  have c6 : v0.cell? ⟨g, 6, none⟩ = some (.int .u32 a2) := by simp [World.cell?, B.out]
  have c7 : v0.cell? ⟨g, 7, none⟩ = some (.int .u16 p2) := by simp [World.cell?, B.out]
  have c8 : v0.cell? ⟨g, 8, none⟩ = some (.int .u32 b2) := by simp [World.cell?, B.out]
  have c9 : v0.cell? ⟨g, 9, none⟩ = some (.int .u16 q2) := by simp [World.cell?, B.out]
  have c10 : v0.cell? ⟨g, 10, none⟩ = some (.int .i64 st) := by simp [World.cell?, B.out]
  have c11 : v0.cell? ⟨g, 11, none⟩ = some (.int .i64 dl) := by simp [World.cell?, B.out]
  have c12 : v0.cell? ⟨g, 12, none⟩ = some (.slice o n c) := by simp [World.cell?, B.out]
  go_wp2_with fail
  clear c0 c1 c2 c3 c4 c5 c6 c7 c8 c9 c10 c11 c12
  refine (K2.out _).mono ?_
  rintro e v1 ⟨rfl, hp⟩
  have Hm1 := Lib.hid (Hm0.out.trans hp (fun _ _ h => h))
  have hb := (hp.block _ (Array.getElem?_eq_some_iff.1 B.out).1 id).trans B.out
  clear B hp Hm0
  have B := Lib.hid hb
  clear hb
  have c0 : v1.cell? ⟨g, 0, none⟩ = some (.int .u8 r) := by simp [World.cell?, B.out]
  have c1 : v1.cell? ⟨g, 1, none⟩ = some (.int .u32 a) := by simp [World.cell?, B.out]
  have c2 : v1.cell? ⟨g, 2, none⟩ = some (.int .u16 p) := by simp [World.cell?, B.out]
  have c3 : v1.cell? ⟨g, 3, none⟩ = some (.int .u32 b) := by simp [World.cell?, B.out]
  have c4 : v1.cell? ⟨g, 4, none⟩ = some (.int .u16 q) := by simp [World.cell?, B.out]
  have c5 : v1.cell? ⟨g, 5, none⟩ = some (.int .u8 r2) := by simp [World.cell?, B.out]
  have c6 : v1.cell? ⟨g, 6, none⟩ = some (.int .u32 a2) := by simp [World.cell?, B.out]
  have c7 : v1.cell? ⟨g, 7, none⟩ = some (.int .u16 p2) := by simp [World.cell?, B.out]
  have c8 : v1.cell? ⟨g, 8, none⟩ = some (.int .u32 b2) := by simp [World.cell?, B.out]
  have c9 : v1.cell? ⟨g, 9, none⟩ = some (.int .u16 q2) := by simp [World.cell?, B.out]
  have c10 : v1.cell? ⟨g, 10, none⟩ = some (.int .i64 st) := by simp [World.cell?, B.out]
  have c11 : v1.cell? ⟨g, 11, none⟩ = some (.int .i64 dl) := by simp [World.cell?, B.out]
  have c12 : v1.cell? ⟨g, 12, none⟩ = some (.slice o n c) := by simp [World.cell?, B.out]
  go_wp2_with fail
  go_quiet ((first | (go_at_call 47; exact Calls.quiet_of_same (K3.out _)) | (go_at_call 49; exact Calls.quiet_of_same (K4.out _))))
  go_wp2_with fail
  go_ret
  exact ⟨rfl, Hm1.out.drewN _⟩

set_option maxHeartbeats 2000000 in
set_option maxRecDepth 100000 in
theorem rmay_high (r a p b q r2 a2 p2 b2 q2 : Nat) (st dl : Int) (o : Option Addr) (n c : Nat) (w : World) (h1 : tupB r p q = true) (h2 : tupB r2 p2 q2 = true) (hne : decide (r = r2 ∧ a = a2 ∧ p = p2 ∧ b = b2 ∧ q = q2) = false) (hpr : r = r2) (h4 : (toN (flowN r) st == 0) = false) (hd : decide (0 ≤ dl) = true) (hd2 : decide (dl ≤ 1099511635216) = false) :
    Calls Tryd.prog 23 #[.agg #[.int .u8 r, .int .u32 a, .int .u16 p, .int .u32 b, .int .u16 q, .int .u8 r2, .int .u32 a2, .int .u16 p2, .int .u32 b2, .int .u16 q2, .int .i64 st, .int .i64 dl, .slice o n c]] w (Ret1 (.bool false) w) := by
  have k1 := fun W => rmay8_ok r a p b q W
  have k2 := fun W => rmay8_ok r2 a2 p2 b2 q2 W
  have k3 := fun W => rflow_ok r W
  have k4 := fun W => rtimeout_ok (flowN r) (flowN_lt r) st W
  rw [h1] at k1
  rw [h2] at k2
  have heq := fun W => tup_eq2 r a p b q r2 a2 p2 b2 q2 W
  rw [hne] at heq
  clear hne
  have hp2 : ((r : Int) != (r2 : Int)) = false := by rw [hpr]; simp
  clear hpr
  generalize toN (flowN r) st = tm at *
  have K1 := Lib.hid k1
  have K2 := Lib.hid k2
  have K3 := Lib.hid k3
  have K4 := Lib.hid k4
  clear k1 k2 k3 k4
  go_enter Tryd.func23, Tryd.ntmps23
  go_wp2_with fail
  have hn0 : NoW w (w.alloc (.cells #[.int .u8 r, .int .u32 a, .int .u16 p, .int .u32 b, .int .u16 q, .int .u8 r2, .int .u32 a2, .int .u16 p2, .int .u32 b2, .int .u16 q2, .int .i64 st, .int .i64 dl, .slice o n c] 50)) := (Fp.refl _ _).alloc _
  have hb0 := heap_alloc_new w (.cells #[.int .u8 r, .int .u32 a, .int .u16 p, .int .u32 b, .int .u16 q, .int .u8 r2, .int .u32 a2, .int .u16 p2, .int .u32 b2, .int .u16 q2, .int .i64 st, .int .i64 dl, .slice o n c] 50)
  generalize w.alloc (.cells #[.int .u8 r, .int .u32 a, .int .u16 p, .int .u32 b, .int .u16 q, .int .u8 r2, .int .u32 a2, .int .u16 p2, .int .u32 b2, .int .u16 q2, .int .i64 st, .int .i64 dl, .slice o n c] 50) = w0 at *
  generalize w.heap.size = g at *
  have Hn0 := Lib.hid hn0
  have B := Lib.hid hb0
  clear hn0 hb0
  refine (K1.out _).mono ?_
  rintro e v0 ⟨rfl, hp⟩
  have Hm0 := Lib.hid (Hn0.out.trans hp (fun _ _ h => h))
  have hb := (hp.block _ (Array.getElem?_eq_some_iff.1 B.out).1 id).trans B.out
  clear B hp Hn0
  have B := Lib.hid hb
  clear hb
  have c0 : v0.cell? ⟨g, 0, none⟩ = some (.int .u8 r) := by simp [World.cell?, B.out]
  have c1 : v0.cell? ⟨g, 1, none⟩ = some (.int .u32 a) := by simp [World.cell?, B.out]
  have c2 : v0.cell? ⟨g, 2, none⟩ = some (.int .u16 p) := by simp [World.cell?, B.out]
  have c3 : v0.cell? ⟨g, 3, none⟩ = some (.int .u32 b) := by simp [World.cell?, B.out]
  have c4 : v0.cell? ⟨g, 4, none⟩ = some (.int .u16 q) := by simp [World.cell?, B.out]
  have c5 : v0.cell? ⟨g, 5, none⟩ = some (.int .u8 r2) := by simp [World.cell?, B.out]
  have c6 : v0.cell? ⟨g, 6, none⟩ = some (.int .u32 a2) := by simp [World.cell?, B.out]
  have c7 : v0.cell? ⟨g, 7, none⟩ = some (.int .u16 p2) := by simp [World.cell?, B.out]
  have c8 : v0.cell? ⟨g, 8, none⟩ = some (.int .u32 b2) := by simp [World.cell?, B.out]
  have c9 : v0.cell? ⟨g, 9, none⟩ = some (.int .u16 q2) := by simp [World.cell?, B.out]
  have c10 : v0.cell? ⟨g, 10, none⟩ = some (.int .i64 st) := by simp [World.cell?, B.out]
  have c11 : v0.cell? ⟨g, 11, none⟩ = some (.int .i64 dl) := by simp [World.cell?, B.out]
  have c12 : v0.cell? ⟨g, 12, none⟩ = some (.slice o n c) := by simp [World.cell?, B.out]
  go_wp2_with fail
  clear c0 c1 c2 c3 c4 c5 c6 c7 c8 c9 c10 c11 c12
  refine (K2.out _).mono ?_
  rintro e v1 ⟨rfl, hp⟩
  have Hm1 := Lib.hid (Hm0.out.trans hp (fun _ _ h => h))
  have hb := (hp.block _ (Array.getElem?_eq_some_iff.1 B.out).1 id).trans B.out
  clear B hp Hm0
  have B := Lib.hid hb
  clear hb
  have c0 : v1.cell? ⟨g, 0, none⟩ = some (.int .u8 r) := by simp [World.cell?, B.out]
  have c1 : v1.cell? ⟨g, 1, none⟩ = some (.int .u32 a) := by simp [World.cell?, B.out]
  have c2 : v1.cell? ⟨g, 2, none⟩ = some (.int .u16 p) := by simp [World.cell?, B.out]
  have c3 : v1.cell? ⟨g, 3, none⟩ = some (.int .u32 b) := by simp [World.cell?, B.out]
  have c4 : v1.cell? ⟨g, 4, none⟩ = some (.int .u16 q) := by simp [World.cell?, B.out]
  have c5 : v1.cell? ⟨g, 5, none⟩ = some (.int .u8 r2) := by simp [World.cell?, B.out]
  have c6 : v1.cell? ⟨g, 6, none⟩ = some (.int .u32 a2) := by simp [World.cell?, B.out]
  have c7 : v1.cell? ⟨g, 7, none⟩ = some (.int .u16 p2) := by simp [World.cell?, B.out]
  have c8 : v1.cell? ⟨g, 8, none⟩ = some (.int .u32 b2) := by simp [World.cell?, B.out]
  have c9 : v1.cell? ⟨g, 9, none⟩ = some (.int .u16 q2) := by simp [World.cell?, B.out]
  have c10 : v1.cell? ⟨g, 10, none⟩ = some (.int .i64 st) := by simp [World.cell?, B.out]
  have c11 : v1.cell? ⟨g, 11, none⟩ = some (.int .i64 dl) := by simp [World.cell?, B.out]
  have c12 : v1.cell? ⟨g, 12, none⟩ = some (.slice o n c) := by simp [World.cell?, B.out]
  go_wp2_with fail
  go_quiet ((first | (go_at_call 47; exact Calls.quiet_of_same (K3.out _)) | (go_at_call 49; exact Calls.quiet_of_same (K4.out _))))
  go_wp2_with fail
  go_ret
  exact ⟨rfl, Hm1.out.drewN _⟩

set_option maxHeartbeats 2000000 in
set_option maxRecDepth 100000 in
theorem rmay_one (r a p b q r2 a2 p2 b2 q2 : Nat) (st dl : Int) (o : Option Addr) (n c : Nat) (w : World) (h1 : tupB r p q = true) (h2 : tupB r2 p2 q2 = true) (hne : decide (r = r2 ∧ a = a2 ∧ p = p2 ∧ b = b2 ∧ q = q2) = false) (hpr : r = r2) (h4 : (toN (flowN r) st == 0) = false) (hd : decide (0 ≤ dl) = true) (hd2 : decide (dl ≤ 1099511635216) = true) (hl : ((n : Int) == 1) = true) :
    Calls Tryd.prog 23 #[.agg #[.int .u8 r, .int .u32 a, .int .u16 p, .int .u32 b, .int .u16 q, .int .u8 r2, .int .u32 a2, .int .u16 p2, .int .u32 b2, .int .u16 q2, .int .i64 st, .int .i64 dl, .slice o n c]] w (Ret1 (.bool true) w) := by
  have k1 := fun W => rmay8_ok r a p b q W
  have k2 := fun W => rmay8_ok r2 a2 p2 b2 q2 W
  have k3 := fun W => rflow_ok r W
  have k4 := fun W => rtimeout_ok (flowN r) (flowN_lt r) st W
  rw [h1] at k1
  rw [h2] at k2
  have heq := fun W => tup_eq2 r a p b q r2 a2 p2 b2 q2 W
  rw [hne] at heq
  clear hne
  have hp2 : ((r : Int) != (r2 : Int)) = false := by rw [hpr]; simp
  clear hpr
  generalize toN (flowN r) st = tm at *
  have K1 := Lib.hid k1
  have K2 := Lib.hid k2
  have K3 := Lib.hid k3
  have K4 := Lib.hid k4
  clear k1 k2 k3 k4
  go_enter Tryd.func23, Tryd.ntmps23
  go_wp2_with fail
  have hn0 : NoW w (w.alloc (.cells #[.int .u8 r, .int .u32 a, .int .u16 p, .int .u32 b, .int .u16 q, .int .u8 r2, .int .u32 a2, .int .u16 p2, .int .u32 b2, .int .u16 q2, .int .i64 st, .int .i64 dl, .slice o n c] 50)) := (Fp.refl _ _).alloc _
  have hb0 := heap_alloc_new w (.cells #[.int .u8 r, .int .u32 a, .int .u16 p, .int .u32 b, .int .u16 q, .int .u8 r2, .int .u32 a2, .int .u16 p2, .int .u32 b2, .int .u16 q2, .int .i64 st, .int .i64 dl, .slice o n c] 50)
  generalize w.alloc (.cells #[.int .u8 r, .int .u32 a, .int .u16 p, .int .u32 b, .int .u16 q, .int .u8 r2, .int .u32 a2, .int .u16 p2, .int .u32 b2, .int .u16 q2, .int .i64 st, .int .i64 dl, .slice o n c] 50) = w0 at *
  generalize w.heap.size = g at *
  have Hn0 := Lib.hid hn0
  have B := Lib.hid hb0
  clear hn0 hb0
  refine (K1.out _).mono ?_
  rintro e v0 ⟨rfl, hp⟩
  have Hm0 := Lib.hid (Hn0.out.trans hp (fun _ _ h => h))
  have hb := (hp.block _ (Array.getElem?_eq_some_iff.1 B.out).1 id).trans B.out
  clear B hp Hn0
  have B := Lib.hid hb
  clear hb
  have c0 : v0.cell? ⟨g, 0, none⟩ = some (.int .u8 r) := by simp [World.cell?, B.out]
  have c1 : v0.cell? ⟨g, 1, none⟩ = some (.int .u32 a) := by simp [World.cell?, B.out]
  have c2 : v0.cell? ⟨g, 2, none⟩ = some (.int .u16 p) := by simp [World.cell?, B.out]
  have c3 : v0.cell? ⟨g, 3, none⟩ = some (.int .u32 b) := by simp [World.cell?, B.out]
  have c4 : v0.cell? ⟨g, 4, none⟩ = some (.int .u16 q) := by simp [World.cell?, B.out]
  have c5 : v0.cell? ⟨g, 5, none⟩ = some (.int .u8 r2) := by simp [World.cell?, B.out]
  have c6 : v0.cell? ⟨g, 6, none⟩ = some (.int .u32 a2) := by simp [World.cell?, B.out]
  have c7 : v0.cell? ⟨g, 7, none⟩ = some (.int .u16 p2) := by simp [World.cell?, B.out]
  have c8 : v0.cell? ⟨g, 8, none⟩ = some (.int .u32 b2) := by simp [World.cell?, B.out]
  have c9 : v0.cell? ⟨g, 9, none⟩ = some (.int .u16 q2) := by simp [World.cell?, B.out]
  have c10 : v0.cell? ⟨g, 10, none⟩ = some (.int .i64 st) := by simp [World.cell?, B.out]
  have c11 : v0.cell? ⟨g, 11, none⟩ = some (.int .i64 dl) := by simp [World.cell?, B.out]
  have c12 : v0.cell? ⟨g, 12, none⟩ = some (.slice o n c) := by simp [World.cell?, B.out]
  go_wp2_with fail
  clear c0 c1 c2 c3 c4 c5 c6 c7 c8 c9 c10 c11 c12
  refine (K2.out _).mono ?_
  rintro e v1 ⟨rfl, hp⟩
  have Hm1 := Lib.hid (Hm0.out.trans hp (fun _ _ h => h))
  have hb := (hp.block _ (Array.getElem?_eq_some_iff.1 B.out).1 id).trans B.out
  clear B hp Hm0
  have B := Lib.hid hb
  clear hb
  have c0 : v1.cell? ⟨g, 0, none⟩ = some (.int .u8 r) := by simp [World.cell?, B.out]
  have c1 : v1.cell? ⟨g, 1, none⟩ = some (.int .u32 a) := by simp [World.cell?, B.out]
  have c2 : v1.cell? ⟨g, 2, none⟩ = some (.int .u16 p) := by simp [World.cell?, B.out]
  have c3 : v1.cell? ⟨g, 3, none⟩ = some (.int .u32 b) := by simp [World.cell?, B.out]
  have c4 : v1.cell? ⟨g, 4, none⟩ = some (.int .u16 q) := by simp [World.cell?, B.out]
  have c5 : v1.cell? ⟨g, 5, none⟩ = some (.int .u8 r2) := by simp [World.cell?, B.out]
  have c6 : v1.cell? ⟨g, 6, none⟩ = some (.int .u32 a2) := by simp [World.cell?, B.out]
  have c7 : v1.cell? ⟨g, 7, none⟩ = some (.int .u16 p2) := by simp [World.cell?, B.out]
  have c8 : v1.cell? ⟨g, 8, none⟩ = some (.int .u32 b2) := by simp [World.cell?, B.out]
  have c9 : v1.cell? ⟨g, 9, none⟩ = some (.int .u16 q2) := by simp [World.cell?, B.out]
  have c10 : v1.cell? ⟨g, 10, none⟩ = some (.int .i64 st) := by simp [World.cell?, B.out]
  have c11 : v1.cell? ⟨g, 11, none⟩ = some (.int .i64 dl) := by simp [World.cell?, B.out]
  have c12 : v1.cell? ⟨g, 12, none⟩ = some (.slice o n c) := by simp [World.cell?, B.out]
  go_wp2_with fail
  go_quiet ((first | (go_at_call 47; exact Calls.quiet_of_same (K3.out _)) | (go_at_call 49; exact Calls.quiet_of_same (K4.out _))))
  go_wp2_with fail
  go_ret
  exact ⟨rfl, Hm1.out.drewN _⟩

set_option maxHeartbeats 2000000 in
set_option maxRecDepth 100000 in
theorem rmay_two (r a p b q r2 a2 p2 b2 q2 : Nat) (st dl : Int) (o : Option Addr) (n c : Nat) (w : World) (h1 : tupB r p q = true) (h2 : tupB r2 p2 q2 = true) (hne : decide (r = r2 ∧ a = a2 ∧ p = p2 ∧ b = b2 ∧ q = q2) = false) (hpr : r = r2) (h4 : (toN (flowN r) st == 0) = false) (hd : decide (0 ≤ dl) = true) (hd2 : decide (dl ≤ 1099511635216) = true) (hl : ((n : Int) == 1) = false) (hl2 : ((n : Int) == 2) = true) :
    Calls Tryd.prog 23 #[.agg #[.int .u8 r, .int .u32 a, .int .u16 p, .int .u32 b, .int .u16 q, .int .u8 r2, .int .u32 a2, .int .u16 p2, .int .u32 b2, .int .u16 q2, .int .i64 st, .int .i64 dl, .slice o n c]] w (Ret1 (.bool true) w) := by
  have k1 := fun W => rmay8_ok r a p b q W
  have k2 := fun W => rmay8_ok r2 a2 p2 b2 q2 W
  have k3 := fun W => rflow_ok r W
  have k4 := fun W => rtimeout_ok (flowN r) (flowN_lt r) st W
  rw [h1] at k1
  rw [h2] at k2
  have heq := fun W => tup_eq2 r a p b q r2 a2 p2 b2 q2 W
  rw [hne] at heq
  clear hne
  have hp2 : ((r : Int) != (r2 : Int)) = false := by rw [hpr]; simp
  clear hpr
  generalize toN (flowN r) st = tm at *
  have K1 := Lib.hid k1
  have K2 := Lib.hid k2
  have K3 := Lib.hid k3
  have K4 := Lib.hid k4
  clear k1 k2 k3 k4
  go_enter Tryd.func23, Tryd.ntmps23
  go_wp2_with fail
  have hn0 : NoW w (w.alloc (.cells #[.int .u8 r, .int .u32 a, .int .u16 p, .int .u32 b, .int .u16 q, .int .u8 r2, .int .u32 a2, .int .u16 p2, .int .u32 b2, .int .u16 q2, .int .i64 st, .int .i64 dl, .slice o n c] 50)) := (Fp.refl _ _).alloc _
  have hb0 := heap_alloc_new w (.cells #[.int .u8 r, .int .u32 a, .int .u16 p, .int .u32 b, .int .u16 q, .int .u8 r2, .int .u32 a2, .int .u16 p2, .int .u32 b2, .int .u16 q2, .int .i64 st, .int .i64 dl, .slice o n c] 50)
  generalize w.alloc (.cells #[.int .u8 r, .int .u32 a, .int .u16 p, .int .u32 b, .int .u16 q, .int .u8 r2, .int .u32 a2, .int .u16 p2, .int .u32 b2, .int .u16 q2, .int .i64 st, .int .i64 dl, .slice o n c] 50) = w0 at *
  generalize w.heap.size = g at *
  have Hn0 := Lib.hid hn0
  have B := Lib.hid hb0
  clear hn0 hb0
  refine (K1.out _).mono ?_
  rintro e v0 ⟨rfl, hp⟩
  have Hm0 := Lib.hid (Hn0.out.trans hp (fun _ _ h => h))
  have hb := (hp.block _ (Array.getElem?_eq_some_iff.1 B.out).1 id).trans B.out
  clear B hp Hn0
  have B := Lib.hid hb
  clear hb
  have c0 : v0.cell? ⟨g, 0, none⟩ = some (.int .u8 r) := by simp [World.cell?, B.out]
  have c1 : v0.cell? ⟨g, 1, none⟩ = some (.int .u32 a) := by simp [World.cell?, B.out]
  have c2 : v0.cell? ⟨g, 2, none⟩ = some (.int .u16 p) := by simp [World.cell?, B.out]
  have c3 : v0.cell? ⟨g, 3, none⟩ = some (.int .u32 b) := by simp [World.cell?, B.out]
  have c4 : v0.cell? ⟨g, 4, none⟩ = some (.int .u16 q) := by simp [World.cell?, B.out]
  have c5 : v0.cell? ⟨g, 5, none⟩ = some (.int .u8 r2) := by simp [World.cell?, B.out]
  have c6 : v0.cell? ⟨g, 6, none⟩ = some (.int .u32 a2) := by simp [World.cell?, B.out]
  have c7 : v0.cell? ⟨g, 7, none⟩ = some (.int .u16 p2) := by simp [World.cell?, B.out]
  have c8 : v0.cell? ⟨g, 8, none⟩ = some (.int .u32 b2) := by simp [World.cell?, B.out]
  have c9 : v0.cell? ⟨g, 9, none⟩ = some (.int .u16 q2) := by simp [World.cell?, B.out]
  have c10 : v0.cell? ⟨g, 10, none⟩ = some (.int .i64 st) := by simp [World.cell?, B.out]
  have c11 : v0.cell? ⟨g, 11, none⟩ = some (.int .i64 dl) := by simp [World.cell?, B.out]
  have c12 : v0.cell? ⟨g, 12, none⟩ = some (.slice o n c) := by simp [World.cell?, B.out]
  go_wp2_with fail
  clear c0 c1 c2 c3 c4 c5 c6 c7 c8 c9 c10 c11 c12
  refine (K2.out _).mono ?_
  rintro e v1 ⟨rfl, hp⟩
  have Hm1 := Lib.hid (Hm0.out.trans hp (fun _ _ h => h))
  have hb := (hp.block _ (Array.getElem?_eq_some_iff.1 B.out).1 id).trans B.out
  clear B hp Hm0
  have B := Lib.hid hb
  clear hb
  have c0 : v1.cell? ⟨g, 0, none⟩ = some (.int .u8 r) := by simp [World.cell?, B.out]
  have c1 : v1.cell? ⟨g, 1, none⟩ = some (.int .u32 a) := by simp [World.cell?, B.out]
  have c2 : v1.cell? ⟨g, 2, none⟩ = some (.int .u16 p) := by simp [World.cell?, B.out]
  have c3 : v1.cell? ⟨g, 3, none⟩ = some (.int .u32 b) := by simp [World.cell?, B.out]
  have c4 : v1.cell? ⟨g, 4, none⟩ = some (.int .u16 q) := by simp [World.cell?, B.out]
  have c5 : v1.cell? ⟨g, 5, none⟩ = some (.int .u8 r2) := by simp [World.cell?, B.out]
  have c6 : v1.cell? ⟨g, 6, none⟩ = some (.int .u32 a2) := by simp [World.cell?, B.out]
  have c7 : v1.cell? ⟨g, 7, none⟩ = some (.int .u16 p2) := by simp [World.cell?, B.out]
  have c8 : v1.cell? ⟨g, 8, none⟩ = some (.int .u32 b2) := by simp [World.cell?, B.out]
  have c9 : v1.cell? ⟨g, 9, none⟩ = some (.int .u16 q2) := by simp [World.cell?, B.out]
  have c10 : v1.cell? ⟨g, 10, none⟩ = some (.int .i64 st) := by simp [World.cell?, B.out]
  have c11 : v1.cell? ⟨g, 11, none⟩ = some (.int .i64 dl) := by simp [World.cell?, B.out]
  have c12 : v1.cell? ⟨g, 12, none⟩ = some (.slice o n c) := by simp [World.cell?, B.out]
  go_wp2_with fail
  go_quiet ((first | (go_at_call 47; exact Calls.quiet_of_same (K3.out _)) | (go_at_call 49; exact Calls.quiet_of_same (K4.out _))))
  go_wp2_with fail
  go_ret
  exact ⟨rfl, Hm1.out.drewN _⟩

set_option maxHeartbeats 2000000 in
set_option maxRecDepth 100000 in
theorem rmay_bad (r a p b q r2 a2 p2 b2 q2 : Nat) (st dl : Int) (o : Option Addr) (n c : Nat) (w : World) (h1 : tupB r p q = true) (h2 : tupB r2 p2 q2 = true) (hne : decide (r = r2 ∧ a = a2 ∧ p = p2 ∧ b = b2 ∧ q = q2) = false) (hpr : r = r2) (h4 : (toN (flowN r) st == 0) = false) (hd : decide (0 ≤ dl) = true) (hd2 : decide (dl ≤ 1099511635216) = true) (hl : ((n : Int) == 1) = false) (hl2 : ((n : Int) == 2) = false) :
    Calls Tryd.prog 23 #[.agg #[.int .u8 r, .int .u32 a, .int .u16 p, .int .u32 b, .int .u16 q, .int .u8 r2, .int .u32 a2, .int .u16 p2, .int .u32 b2, .int .u16 q2, .int .i64 st, .int .i64 dl, .slice o n c]] w (Ret1 (.bool false) w) := by
  have k1 := fun W => rmay8_ok r a p b q W
  have k2 := fun W => rmay8_ok r2 a2 p2 b2 q2 W
  have k3 := fun W => rflow_ok r W
  have k4 := fun W => rtimeout_ok (flowN r) (flowN_lt r) st W
  rw [h1] at k1
  rw [h2] at k2
  have heq := fun W => tup_eq2 r a p b q r2 a2 p2 b2 q2 W
  rw [hne] at heq
  clear hne
  have hp2 : ((r : Int) != (r2 : Int)) = false := by rw [hpr]; simp
  clear hpr
  generalize toN (flowN r) st = tm at *
  have K1 := Lib.hid k1
  have K2 := Lib.hid k2
  have K3 := Lib.hid k3
  have K4 := Lib.hid k4
  clear k1 k2 k3 k4
  go_enter Tryd.func23, Tryd.ntmps23
  go_wp2_with fail
  have hn0 : NoW w (w.alloc (.cells #[.int .u8 r, .int .u32 a, .int .u16 p, .int .u32 b, .int .u16 q, .int .u8 r2, .int .u32 a2, .int .u16 p2, .int .u32 b2, .int .u16 q2, .int .i64 st, .int .i64 dl, .slice o n c] 50)) := (Fp.refl _ _).alloc _
  have hb0 := heap_alloc_new w (.cells #[.int .u8 r, .int .u32 a, .int .u16 p, .int .u32 b, .int .u16 q, .int .u8 r2, .int .u32 a2, .int .u16 p2, .int .u32 b2, .int .u16 q2, .int .i64 st, .int .i64 dl, .slice o n c] 50)
  generalize w.alloc (.cells #[.int .u8 r, .int .u32 a, .int .u16 p, .int .u32 b, .int .u16 q, .int .u8 r2, .int .u32 a2, .int .u16 p2, .int .u32 b2, .int .u16 q2, .int .i64 st, .int .i64 dl, .slice o n c] 50) = w0 at *
  generalize w.heap.size = g at *
  have Hn0 := Lib.hid hn0
  have B := Lib.hid hb0
  clear hn0 hb0
  refine (K1.out _).mono ?_
  rintro e v0 ⟨rfl, hp⟩
  have Hm0 := Lib.hid (Hn0.out.trans hp (fun _ _ h => h))
  have hb := (hp.block _ (Array.getElem?_eq_some_iff.1 B.out).1 id).trans B.out
  clear B hp Hn0
  have B := Lib.hid hb
  clear hb
  have c0 : v0.cell? ⟨g, 0, none⟩ = some (.int .u8 r) := by simp [World.cell?, B.out]
  have c1 : v0.cell? ⟨g, 1, none⟩ = some (.int .u32 a) := by simp [World.cell?, B.out]
  have c2 : v0.cell? ⟨g, 2, none⟩ = some (.int .u16 p) := by simp [World.cell?, B.out]
  have c3 : v0.cell? ⟨g, 3, none⟩ = some (.int .u32 b) := by simp [World.cell?, B.out]
  have c4 : v0.cell? ⟨g, 4, none⟩ = some (.int .u16 q) := by simp [World.cell?, B.out]
  have c5 : v0.cell? ⟨g, 5, none⟩ = some (.int .u8 r2) := by simp [World.cell?, B.out]
  have c6 : v0.cell? ⟨g, 6, none⟩ = some (.int .u32 a2) := by simp [World.cell?, B.out]
  have c7 : v0.cell? ⟨g, 7, none⟩ = some (.int .u16 p2) := by simp [World.cell?, B.out]
  have c8 : v0.cell? ⟨g, 8, none⟩ = some (.int .u32 b2) := by simp [World.cell?, B.out]
  have c9 : v0.cell? ⟨g, 9, none⟩ = some (.int .u16 q2) := by simp [World.cell?, B.out]
  have c10 : v0.cell? ⟨g, 10, none⟩ = some (.int .i64 st) := by simp [World.cell?, B.out]
  have c11 : v0.cell? ⟨g, 11, none⟩ = some (.int .i64 dl) := by simp [World.cell?, B.out]
  have c12 : v0.cell? ⟨g, 12, none⟩ = some (.slice o n c) := by simp [World.cell?, B.out]
  go_wp2_with fail
  clear c0 c1 c2 c3 c4 c5 c6 c7 c8 c9 c10 c11 c12
  refine (K2.out _).mono ?_
  rintro e v1 ⟨rfl, hp⟩
  have Hm1 := Lib.hid (Hm0.out.trans hp (fun _ _ h => h))
  have hb := (hp.block _ (Array.getElem?_eq_some_iff.1 B.out).1 id).trans B.out
  clear B hp Hm0
  have B := Lib.hid hb
  clear hb
  have c0 : v1.cell? ⟨g, 0, none⟩ = some (.int .u8 r) := by simp [World.cell?, B.out]
  have c1 : v1.cell? ⟨g, 1, none⟩ = some (.int .u32 a) := by simp [World.cell?, B.out]
  have c2 : v1.cell? ⟨g, 2, none⟩ = some (.int .u16 p) := by simp [World.cell?, B.out]
  have c3 : v1.cell? ⟨g, 3, none⟩ = some (.int .u32 b) := by simp [World.cell?, B.out]
  have c4 : v1.cell? ⟨g, 4, none⟩ = some (.int .u16 q) := by simp [World.cell?, B.out]
  have c5 : v1.cell? ⟨g, 5, none⟩ = some (.int .u8 r2) := by simp [World.cell?, B.out]
  have c6 : v1.cell? ⟨g, 6, none⟩ = some (.int .u32 a2) := by simp [World.cell?, B.out]
  have c7 : v1.cell? ⟨g, 7, none⟩ = some (.int .u16 p2) := by simp [World.cell?, B.out]
  have c8 : v1.cell? ⟨g, 8, none⟩ = some (.int .u32 b2) := by simp [World.cell?, B.out]
  have c9 : v1.cell? ⟨g, 9, none⟩ = some (.int .u16 q2) := by simp [World.cell?, B.out]
  have c10 : v1.cell? ⟨g, 10, none⟩ = some (.int .i64 st) := by simp [World.cell?, B.out]
  have c11 : v1.cell? ⟨g, 11, none⟩ = some (.int .i64 dl) := by simp [World.cell?, B.out]
  have c12 : v1.cell? ⟨g, 12, none⟩ = some (.slice o n c) := by simp [World.cell?, B.out]
  go_wp2_with fail
  go_quiet ((first | (go_at_call 47; exact Calls.quiet_of_same (K3.out _)) | (go_at_call 49; exact Calls.quiet_of_same (K4.out _))))
  go_wp2_with fail
  go_ret
  exact ⟨rfl, Hm1.out.drewN _⟩

theorem rmay18_ok (r a p b q r2 a2 p2 b2 q2 : Nat) (st dl : Int) (o : Option Addr) (n c : Nat) (w : World) :
    Calls Tryd.prog 23 #[.agg #[.int .u8 r, .int .u32 a, .int .u16 p, .int .u32 b, .int .u16 q, .int .u8 r2, .int .u32 a2, .int .u16 p2, .int .u32 b2, .int .u16 q2, .int .i64 st, .int .i64 dl, .slice o n c]] w (Ret1 (.bool (chkB r p q r2 p2 q2 (decide (r = r2 ∧ a = a2 ∧ p = p2 ∧ b = b2 ∧ q = q2)) st dl n)) w) := by
  unfold chkB
  rcases h1 : tupB r p q with _ | _
  · simpa using rmay_t1 r a p b q r2 a2 p2 b2 q2 st dl o n c w h1
  rcases h2 : tupB r2 p2 q2 with _ | _
  · simpa using rmay_t2 r a p b q r2 a2 p2 b2 q2 st dl o n c w h1 h2
  rcases hne : decide (r = r2 ∧ a = a2 ∧ p = p2 ∧ b = b2 ∧ q = q2) with _ | _
  · by_cases hpr : r = r2
    · have hnn := toN_nonneg (flowN r) (flowN_lt r) st
      rcases h4 : (toN (flowN r) st == 0) with _ | _
      · have hpos : 0 < toN (flowN r) st := by have := beq_eq_false_iff_ne.1 h4; omega
        rw [decide_eq_true hpr, decide_eq_true hpos]
        rcases hd : decide (0 ≤ dl) with _ | _
        · rw [show decide (0 ≤ dl ∧ dl ≤ 1099511635216) = false from decide_eq_false (fun h => by have := of_decide_eq_false hd; omega)]
          exact rmay_low r a p b q r2 a2 p2 b2 q2 st dl o n c w h1 h2 hne hpr h4 hd
        · rcases hd2 : decide (dl ≤ 1099511635216) with _ | _
          · rw [show decide (0 ≤ dl ∧ dl ≤ 1099511635216) = false from decide_eq_false (fun h => by have := of_decide_eq_false hd2; omega)]
            exact rmay_high r a p b q r2 a2 p2 b2 q2 st dl o n c w h1 h2 hne hpr h4 hd hd2
          · rw [show decide (0 ≤ dl ∧ dl ≤ 1099511635216) = true from decide_eq_true ⟨of_decide_eq_true hd, of_decide_eq_true hd2⟩]
            rcases hl : ((n : Int) == 1) with _ | _
            · have n1 := beq_eq_false_iff_ne.1 hl
              rcases hl2 : ((n : Int) == 2) with _ | _
              · have n2 := beq_eq_false_iff_ne.1 hl2
                rw [show decide (1 ≤ n ∧ n ≤ 2) = false from decide_eq_false (fun h => by omega)]
                exact rmay_bad r a p b q r2 a2 p2 b2 q2 st dl o n c w h1 h2 hne hpr h4 hd hd2 hl hl2
              · have n2 := beq_iff_eq.1 hl2
                rw [show decide (1 ≤ n ∧ n ≤ 2) = true from decide_eq_true (by omega)]
                exact rmay_two r a p b q r2 a2 p2 b2 q2 st dl o n c w h1 h2 hne hpr h4 hd hd2 hl hl2
            · have n1 := beq_iff_eq.1 hl
              rw [show decide (1 ≤ n ∧ n ≤ 2) = true from decide_eq_true (by omega)]
              exact rmay_one r a p b q r2 a2 p2 b2 q2 st dl o n c w h1 h2 hne hpr h4 hd hd2 hl
      · have hz := beq_iff_eq.1 h4
        rw [show decide (0 < toN (flowN r) st) = false from decide_eq_false (by omega), decide_eq_true hpr]
        exact rmay_track r a p b q r2 a2 p2 b2 q2 st dl o n c w h1 h2 hne hpr h4
    · rw [decide_eq_false hpr]
      exact rmay_proto r a p b q r2 a2 p2 b2 q2 st dl o n c w h1 h2 hne hpr
  · simpa using rmay_same r a p b q r2 a2 p2 b2 q2 st dl o n c w h1 h2 hne
end Go.Proofs.YtdmbjndhdldggaaDoor

namespace Go.Proofs.YtdmbjndhdldggaaDoor
set_option linter.unusedVariables false
set_option linter.unusedSimpArgs false
open Go.RowKit Go.Lib Go.Sort

/-- The state behind a packet. -/
def endsN (s : Int) (bk : Bool) : Int := if s = 6 ∨ (s = 5 ∧ bk = false) ∨ (s = 4 ∧ bk = true) then 6 else if bk = true then 5 else 4
def trackN (s : Int) (bk : Bool) (fl : Nat) : Int :=
  if tflag fl 4 = true then 7 else if s = 7 then 7 else if tflag fl 1 = true then endsN s bk
  else if s = 1 ∧ bk = true ∧ tflag fl 2 = true then 2 else if s = 2 ∧ bk = false ∧ tflag fl 16 = true ∧ tflag fl 2 = false then 3 else s
def nextN (f : Nat) (s : Int) (bk : Bool) (fl : Nat) : Int := if toN f s = 0 then 0 else if f = 3 then trackN s bk fl else if bk = true then 2 else s

set_option maxHeartbeats 2000000 in
theorem ends_ok (s : Int) (hs : 1 ≤ s ∧ s ≤ 6) (bk : Bool) (fl : Nat) (w : World) : Calls Tryd.prog 86 #[.int .i64 s, .agg #[.bool bk, .int .u8 fl]] w (Ret1 (.int .i64 (endsN s bk)) w) := by
  have hs' : s = 1 ∨ s = 2 ∨ s = 3 ∨ s = 4 ∨ s = 5 ∨ s = 6 := by omega
  clear hs
  rcases hs' with rfl | rfl | rfl | rfl | rfl | rfl <;> rcases bk with _ | _
  · rw [show endsN 1 false = 4 by decide]
    go_enter Tryd.func86, Tryd.ntmps86
    go_wp2_with fail
    go_ret
    exact ⟨rfl, (Fp.refl _ _).alloc _⟩
  · rw [show endsN 1 true = 5 by decide]
    go_enter Tryd.func86, Tryd.ntmps86
    go_wp2_with fail
    go_ret
    exact ⟨rfl, (Fp.refl _ _).alloc _⟩
  · rw [show endsN 2 false = 4 by decide]
    go_enter Tryd.func86, Tryd.ntmps86
    go_wp2_with fail
    go_ret
    exact ⟨rfl, (Fp.refl _ _).alloc _⟩
  · rw [show endsN 2 true = 5 by decide]
    go_enter Tryd.func86, Tryd.ntmps86
    go_wp2_with fail
    go_ret
    exact ⟨rfl, (Fp.refl _ _).alloc _⟩
  · rw [show endsN 3 false = 4 by decide]
    go_enter Tryd.func86, Tryd.ntmps86
    go_wp2_with fail
    go_ret
    exact ⟨rfl, (Fp.refl _ _).alloc _⟩
  · rw [show endsN 3 true = 5 by decide]
    go_enter Tryd.func86, Tryd.ntmps86
    go_wp2_with fail
    go_ret
    exact ⟨rfl, (Fp.refl _ _).alloc _⟩
  · rw [show endsN 4 false = 4 by decide]
    go_enter Tryd.func86, Tryd.ntmps86
    go_wp2_with fail
    go_ret
    exact ⟨rfl, (Fp.refl _ _).alloc _⟩
  · rw [show endsN 4 true = 6 by decide]
    go_enter Tryd.func86, Tryd.ntmps86
    go_wp2_with fail
    go_ret
    exact ⟨rfl, (Fp.refl _ _).alloc _⟩
  · rw [show endsN 5 false = 6 by decide]
    go_enter Tryd.func86, Tryd.ntmps86
    go_wp2_with fail
    go_ret
    exact ⟨rfl, (Fp.refl _ _).alloc _⟩
  · rw [show endsN 5 true = 5 by decide]
    go_enter Tryd.func86, Tryd.ntmps86
    go_wp2_with fail
    go_ret
    exact ⟨rfl, (Fp.refl _ _).alloc _⟩
  · rw [show endsN 6 false = 6 by decide]
    go_enter Tryd.func86, Tryd.ntmps86
    go_wp2_with fail
    go_ret
    exact ⟨rfl, (Fp.refl _ _).alloc _⟩
  · rw [show endsN 6 true = 6 by decide]
    go_enter Tryd.func86, Tryd.ntmps86
    go_wp2_with fail
    go_ret
    exact ⟨rfl, (Fp.refl _ _).alloc _⟩

set_option maxHeartbeats 8000000 in
theorem tracked_ok (s : Int) (hs : 1 ≤ s ∧ s ≤ 7) (bk : Bool) (fl : Nat) (hf : fl < 256) (w : World) : Calls Tryd.prog 68 #[.int .i64 s, .agg #[.bool bk, .int .u8 fl]] w (Ret1 (.int .i64 (trackN s bk fl)) w) := by
  obtain ⟨b1, b2, b4, b16⟩ := bits_flag ⟨fl, hf⟩
  have f4 := fun W => has_ok bk fl 4 (tflag fl 4) b4 W
  have f1 := fun W => has_ok bk fl 1 (tflag fl 1) b1 W
  have f2 := fun W => has_ok bk fl 2 (tflag fl 2) b2 W
  have f16 := fun W => has_ok bk fl 16 (tflag fl 16) b16 W
  have ke : ∀ W, 1 ≤ s ∧ s ≤ 6 → Calls Tryd.prog 86 #[.int .i64 s, .agg #[.bool bk, .int .u8 fl]] W (Ret1 (.int .i64 (endsN s bk)) W) := fun W h => ends_ok s h bk fl W
  clear b1 b2 b4 b16 hf
  unfold trackN
  rcases h4 : tflag fl 4 with _ | _
  · rw [h4] at f4
    simp only [Bool.false_eq_true, if_false]
    by_cases h7 : s = 7
    · rw [if_pos h7, ← h7]
      have e7 : (s == 7) = true := by rw [h7]; rfl
      clear h4 h7 hs
      have KE := Lib.hid (show ∀ W : World, True from fun _ => trivial)
      clear ke
      have F4 := Lib.hid f4
      have F1 := Lib.hid f1
      have F2 := Lib.hid f2
      have F16 := Lib.hid f16
      clear f4 f1 f2 f16
      go_enter Tryd.func68, Tryd.ntmps68
      go_wp2_with fail
      have hn0 : NoW w (w.alloc (.cells #[.bool bk, .int .u8 fl] 110)) := (Fp.refl _ _).alloc _
      have hb0 := heap_alloc_new w (.cells #[.bool bk, .int .u8 fl] 110)
      generalize w.alloc (.cells #[.bool bk, .int .u8 fl] 110) = w0 at *
      generalize w.heap.size = g at *
      have Hn := Lib.hid hn0
      have B := Lib.hid hb0
      clear hn0 hb0
      refine (F4.out _).mono ?_
      rintro e v ⟨rfl, hp⟩
      have hn2 := Hn.out.trans hp (fun _ _ h => h)
      have hb2 := (hp.block _ (Array.getElem?_eq_some_iff.1 B.out).1 id).trans B.out
      clear Hn B hp
      have Hn := Lib.hid hn2
      have B := Lib.hid hb2
      clear hn2 hb2
      try clear c0 c1
      have c0 : v.cell? ⟨g, 0, none⟩ = some (.bool bk) := by simp [World.cell?, B.out]
      have c1 : v.cell? ⟨g, 1, none⟩ = some (.int .u8 fl) := by simp [World.cell?, B.out]
      go_wp2_with fail
      go_ret
      exact ⟨rfl, Hn.out⟩
    · rw [if_neg h7]
      have e7 : (s == 7) = false := beq_eq_false_iff_ne.2 h7
      rcases h1 : tflag fl 1 with _ | _
      · rw [h1] at f1
        simp only [Bool.false_eq_true, if_false]
        clear h4 h1
        by_cases s1 : s = 1
        · have es : (s == 1) = true := by rw [s1]; rfl
          have es2 : (s == 2) = false := by rw [s1]; rfl
          rcases bk with _ | _
          · rw [if_neg (by simp), if_neg (by omega)]
            clear h7 hs s1
            have KE := Lib.hid (show ∀ W : World, True from fun _ => trivial)
            clear ke
            have F4 := Lib.hid f4
            have F1 := Lib.hid f1
            have F2 := Lib.hid f2
            have F16 := Lib.hid f16
            clear f4 f1 f2 f16
            go_enter Tryd.func68, Tryd.ntmps68
            go_wp2_with fail
            have hn0 : NoW w (w.alloc (.cells #[.bool false, .int .u8 fl] 110)) := (Fp.refl _ _).alloc _
            have hb0 := heap_alloc_new w (.cells #[.bool false, .int .u8 fl] 110)
            generalize w.alloc (.cells #[.bool false, .int .u8 fl] 110) = w0 at *
            generalize w.heap.size = g at *
            have Hn := Lib.hid hn0
            have B := Lib.hid hb0
            clear hn0 hb0
            refine (F4.out _).mono ?_
            rintro e v ⟨rfl, hp⟩
            have hn2 := Hn.out.trans hp (fun _ _ h => h)
            have hb2 := (hp.block _ (Array.getElem?_eq_some_iff.1 B.out).1 id).trans B.out
            clear Hn B hp
            have Hn := Lib.hid hn2
            have B := Lib.hid hb2
            clear hn2 hb2
            try clear c0 c1
            have c0 : v.cell? ⟨g, 0, none⟩ = some (.bool false) := by simp [World.cell?, B.out]
            have c1 : v.cell? ⟨g, 1, none⟩ = some (.int .u8 fl) := by simp [World.cell?, B.out]
            go_wp2_with fail
            refine (F1.out _).mono ?_
            rintro e v ⟨rfl, hp⟩
            have hn2 := Hn.out.trans hp (fun _ _ h => h)
            have hb2 := (hp.block _ (Array.getElem?_eq_some_iff.1 B.out).1 id).trans B.out
            clear Hn B hp
            have Hn := Lib.hid hn2
            have B := Lib.hid hb2
            clear hn2 hb2
            try clear c0 c1
            have c0 : v.cell? ⟨g, 0, none⟩ = some (.bool false) := by simp [World.cell?, B.out]
            have c1 : v.cell? ⟨g, 1, none⟩ = some (.int .u8 fl) := by simp [World.cell?, B.out]
            go_wp2_with fail
            go_ret
            exact ⟨rfl, Hn.out⟩
          · rcases h2 : tflag fl 2 with _ | _
            · rw [if_neg (by simp), if_neg (by omega)]
              rw [h2] at f2
              clear h7 hs s1 h2
              have KE := Lib.hid (show ∀ W : World, True from fun _ => trivial)
              clear ke
              have F4 := Lib.hid f4
              have F1 := Lib.hid f1
              have F2 := Lib.hid f2
              have F16 := Lib.hid f16
              clear f4 f1 f2 f16
              go_enter Tryd.func68, Tryd.ntmps68
              go_wp2_with fail
              have hn0 : NoW w (w.alloc (.cells #[.bool true, .int .u8 fl] 110)) := (Fp.refl _ _).alloc _
              have hb0 := heap_alloc_new w (.cells #[.bool true, .int .u8 fl] 110)
              generalize w.alloc (.cells #[.bool true, .int .u8 fl] 110) = w0 at *
              generalize w.heap.size = g at *
              have Hn := Lib.hid hn0
              have B := Lib.hid hb0
              clear hn0 hb0
              refine (F4.out _).mono ?_
              rintro e v ⟨rfl, hp⟩
              have hn2 := Hn.out.trans hp (fun _ _ h => h)
              have hb2 := (hp.block _ (Array.getElem?_eq_some_iff.1 B.out).1 id).trans B.out
              clear Hn B hp
              have Hn := Lib.hid hn2
              have B := Lib.hid hb2
              clear hn2 hb2
              try clear c0 c1
              have c0 : v.cell? ⟨g, 0, none⟩ = some (.bool true) := by simp [World.cell?, B.out]
              have c1 : v.cell? ⟨g, 1, none⟩ = some (.int .u8 fl) := by simp [World.cell?, B.out]
              go_wp2_with fail
              refine (F1.out _).mono ?_
              rintro e v ⟨rfl, hp⟩
              have hn2 := Hn.out.trans hp (fun _ _ h => h)
              have hb2 := (hp.block _ (Array.getElem?_eq_some_iff.1 B.out).1 id).trans B.out
              clear Hn B hp
              have Hn := Lib.hid hn2
              have B := Lib.hid hb2
              clear hn2 hb2
              try clear c0 c1
              have c0 : v.cell? ⟨g, 0, none⟩ = some (.bool true) := by simp [World.cell?, B.out]
              have c1 : v.cell? ⟨g, 1, none⟩ = some (.int .u8 fl) := by simp [World.cell?, B.out]
              go_wp2_with fail
              refine (F2.out _).mono ?_
              rintro e v ⟨rfl, hp⟩
              have hn2 := Hn.out.trans hp (fun _ _ h => h)
              have hb2 := (hp.block _ (Array.getElem?_eq_some_iff.1 B.out).1 id).trans B.out
              clear Hn B hp
              have Hn := Lib.hid hn2
              have B := Lib.hid hb2
              clear hn2 hb2
              try clear c0 c1
              have c0 : v.cell? ⟨g, 0, none⟩ = some (.bool true) := by simp [World.cell?, B.out]
              have c1 : v.cell? ⟨g, 1, none⟩ = some (.int .u8 fl) := by simp [World.cell?, B.out]
              go_wp2_with fail
              go_ret
              exact ⟨rfl, Hn.out⟩
            · rw [if_pos ⟨s1, rfl, rfl⟩]
              rw [h2] at f2
              clear h7 hs s1 h2
              have KE := Lib.hid (show ∀ W : World, True from fun _ => trivial)
              clear ke
              have F4 := Lib.hid f4
              have F1 := Lib.hid f1
              have F2 := Lib.hid f2
              have F16 := Lib.hid f16
              clear f4 f1 f2 f16
              go_enter Tryd.func68, Tryd.ntmps68
              go_wp2_with fail
              have hn0 : NoW w (w.alloc (.cells #[.bool true, .int .u8 fl] 110)) := (Fp.refl _ _).alloc _
              have hb0 := heap_alloc_new w (.cells #[.bool true, .int .u8 fl] 110)
              generalize w.alloc (.cells #[.bool true, .int .u8 fl] 110) = w0 at *
              generalize w.heap.size = g at *
              have Hn := Lib.hid hn0
              have B := Lib.hid hb0
              clear hn0 hb0
              refine (F4.out _).mono ?_
              rintro e v ⟨rfl, hp⟩
              have hn2 := Hn.out.trans hp (fun _ _ h => h)
              have hb2 := (hp.block _ (Array.getElem?_eq_some_iff.1 B.out).1 id).trans B.out
              clear Hn B hp
              have Hn := Lib.hid hn2
              have B := Lib.hid hb2
              clear hn2 hb2
              try clear c0 c1
              have c0 : v.cell? ⟨g, 0, none⟩ = some (.bool true) := by simp [World.cell?, B.out]
              have c1 : v.cell? ⟨g, 1, none⟩ = some (.int .u8 fl) := by simp [World.cell?, B.out]
              go_wp2_with fail
              refine (F1.out _).mono ?_
              rintro e v ⟨rfl, hp⟩
              have hn2 := Hn.out.trans hp (fun _ _ h => h)
              have hb2 := (hp.block _ (Array.getElem?_eq_some_iff.1 B.out).1 id).trans B.out
              clear Hn B hp
              have Hn := Lib.hid hn2
              have B := Lib.hid hb2
              clear hn2 hb2
              try clear c0 c1
              have c0 : v.cell? ⟨g, 0, none⟩ = some (.bool true) := by simp [World.cell?, B.out]
              have c1 : v.cell? ⟨g, 1, none⟩ = some (.int .u8 fl) := by simp [World.cell?, B.out]
              go_wp2_with fail
              refine (F2.out _).mono ?_
              rintro e v ⟨rfl, hp⟩
              have hn2 := Hn.out.trans hp (fun _ _ h => h)
              have hb2 := (hp.block _ (Array.getElem?_eq_some_iff.1 B.out).1 id).trans B.out
              clear Hn B hp
              have Hn := Lib.hid hn2
              have B := Lib.hid hb2
              clear hn2 hb2
              try clear c0 c1
              have c0 : v.cell? ⟨g, 0, none⟩ = some (.bool true) := by simp [World.cell?, B.out]
              have c1 : v.cell? ⟨g, 1, none⟩ = some (.int .u8 fl) := by simp [World.cell?, B.out]
              go_wp2_with fail
              go_ret
              exact ⟨rfl, Hn.out⟩
        · have es : (s == 1) = false := beq_eq_false_iff_ne.2 s1
          rw [if_neg (fun h => s1 h.1)]
          by_cases s2 : s = 2
          · have es2 : (s == 2) = true := by rw [s2]; rfl
            rcases bk with _ | _
            · rcases h16 : tflag fl 16 with _ | _
              · rw [if_neg (by simp)]
                rw [h16] at f16
                clear h7 hs s1 s2 h16
                have KE := Lib.hid (show ∀ W : World, True from fun _ => trivial)
                clear ke
                have F4 := Lib.hid f4
                have F1 := Lib.hid f1
                have F2 := Lib.hid f2
                have F16 := Lib.hid f16
                clear f4 f1 f2 f16
                go_enter Tryd.func68, Tryd.ntmps68
                go_wp2_with fail
                have hn0 : NoW w (w.alloc (.cells #[.bool false, .int .u8 fl] 110)) := (Fp.refl _ _).alloc _
                have hb0 := heap_alloc_new w (.cells #[.bool false, .int .u8 fl] 110)
                generalize w.alloc (.cells #[.bool false, .int .u8 fl] 110) = w0 at *
                generalize w.heap.size = g at *
                have Hn := Lib.hid hn0
                have B := Lib.hid hb0
                clear hn0 hb0
                refine (F4.out _).mono ?_
                rintro e v ⟨rfl, hp⟩
                have hn2 := Hn.out.trans hp (fun _ _ h => h)
                have hb2 := (hp.block _ (Array.getElem?_eq_some_iff.1 B.out).1 id).trans B.out
                clear Hn B hp
                have Hn := Lib.hid hn2
                have B := Lib.hid hb2
                clear hn2 hb2
                try clear c0 c1
                have c0 : v.cell? ⟨g, 0, none⟩ = some (.bool false) := by simp [World.cell?, B.out]
                have c1 : v.cell? ⟨g, 1, none⟩ = some (.int .u8 fl) := by simp [World.cell?, B.out]
                go_wp2_with fail
                refine (F1.out _).mono ?_
                rintro e v ⟨rfl, hp⟩
                have hn2 := Hn.out.trans hp (fun _ _ h => h)
                have hb2 := (hp.block _ (Array.getElem?_eq_some_iff.1 B.out).1 id).trans B.out
                clear Hn B hp
                have Hn := Lib.hid hn2
                have B := Lib.hid hb2
                clear hn2 hb2
                try clear c0 c1
                have c0 : v.cell? ⟨g, 0, none⟩ = some (.bool false) := by simp [World.cell?, B.out]
                have c1 : v.cell? ⟨g, 1, none⟩ = some (.int .u8 fl) := by simp [World.cell?, B.out]
                go_wp2_with fail
                refine (F16.out _).mono ?_
                rintro e v ⟨rfl, hp⟩
                have hn2 := Hn.out.trans hp (fun _ _ h => h)
                have hb2 := (hp.block _ (Array.getElem?_eq_some_iff.1 B.out).1 id).trans B.out
                clear Hn B hp
                have Hn := Lib.hid hn2
                have B := Lib.hid hb2
                clear hn2 hb2
                try clear c0 c1
                have c0 : v.cell? ⟨g, 0, none⟩ = some (.bool false) := by simp [World.cell?, B.out]
                have c1 : v.cell? ⟨g, 1, none⟩ = some (.int .u8 fl) := by simp [World.cell?, B.out]
                go_wp2_with fail
                go_ret
                exact ⟨rfl, Hn.out⟩
              · rcases h2 : tflag fl 2 with _ | _
                · rw [if_pos ⟨s2, rfl, rfl, rfl⟩]
                  rw [h16] at f16
                  rw [h2] at f2
                  clear h7 hs s1 s2 h16 h2
                  have KE := Lib.hid (show ∀ W : World, True from fun _ => trivial)
                  clear ke
                  have F4 := Lib.hid f4
                  have F1 := Lib.hid f1
                  have F2 := Lib.hid f2
                  have F16 := Lib.hid f16
                  clear f4 f1 f2 f16
                  go_enter Tryd.func68, Tryd.ntmps68
                  go_wp2_with fail
                  have hn0 : NoW w (w.alloc (.cells #[.bool false, .int .u8 fl] 110)) := (Fp.refl _ _).alloc _
                  have hb0 := heap_alloc_new w (.cells #[.bool false, .int .u8 fl] 110)
                  generalize w.alloc (.cells #[.bool false, .int .u8 fl] 110) = w0 at *
                  generalize w.heap.size = g at *
                  have Hn := Lib.hid hn0
                  have B := Lib.hid hb0
                  clear hn0 hb0
                  refine (F4.out _).mono ?_
                  rintro e v ⟨rfl, hp⟩
                  have hn2 := Hn.out.trans hp (fun _ _ h => h)
                  have hb2 := (hp.block _ (Array.getElem?_eq_some_iff.1 B.out).1 id).trans B.out
                  clear Hn B hp
                  have Hn := Lib.hid hn2
                  have B := Lib.hid hb2
                  clear hn2 hb2
                  try clear c0 c1
                  have c0 : v.cell? ⟨g, 0, none⟩ = some (.bool false) := by simp [World.cell?, B.out]
                  have c1 : v.cell? ⟨g, 1, none⟩ = some (.int .u8 fl) := by simp [World.cell?, B.out]
                  go_wp2_with fail
                  refine (F1.out _).mono ?_
                  rintro e v ⟨rfl, hp⟩
                  have hn2 := Hn.out.trans hp (fun _ _ h => h)
                  have hb2 := (hp.block _ (Array.getElem?_eq_some_iff.1 B.out).1 id).trans B.out
                  clear Hn B hp
                  have Hn := Lib.hid hn2
                  have B := Lib.hid hb2
                  clear hn2 hb2
                  try clear c0 c1
                  have c0 : v.cell? ⟨g, 0, none⟩ = some (.bool false) := by simp [World.cell?, B.out]
                  have c1 : v.cell? ⟨g, 1, none⟩ = some (.int .u8 fl) := by simp [World.cell?, B.out]
                  go_wp2_with fail
                  refine (F16.out _).mono ?_
                  rintro e v ⟨rfl, hp⟩
                  have hn2 := Hn.out.trans hp (fun _ _ h => h)
                  have hb2 := (hp.block _ (Array.getElem?_eq_some_iff.1 B.out).1 id).trans B.out
                  clear Hn B hp
                  have Hn := Lib.hid hn2
                  have B := Lib.hid hb2
                  clear hn2 hb2
                  try clear c0 c1
                  have c0 : v.cell? ⟨g, 0, none⟩ = some (.bool false) := by simp [World.cell?, B.out]
                  have c1 : v.cell? ⟨g, 1, none⟩ = some (.int .u8 fl) := by simp [World.cell?, B.out]
                  go_wp2_with fail
                  refine (F2.out _).mono ?_
                  rintro e v ⟨rfl, hp⟩
                  have hn2 := Hn.out.trans hp (fun _ _ h => h)
                  have hb2 := (hp.block _ (Array.getElem?_eq_some_iff.1 B.out).1 id).trans B.out
                  clear Hn B hp
                  have Hn := Lib.hid hn2
                  have B := Lib.hid hb2
                  clear hn2 hb2
                  try clear c0 c1
                  have c0 : v.cell? ⟨g, 0, none⟩ = some (.bool false) := by simp [World.cell?, B.out]
                  have c1 : v.cell? ⟨g, 1, none⟩ = some (.int .u8 fl) := by simp [World.cell?, B.out]
                  go_wp2_with fail
                  go_ret
                  exact ⟨rfl, Hn.out⟩
                · rw [if_neg (by simp)]
                  rw [h16] at f16
                  rw [h2] at f2
                  clear h7 hs s1 s2 h16 h2
                  have KE := Lib.hid (show ∀ W : World, True from fun _ => trivial)
                  clear ke
                  have F4 := Lib.hid f4
                  have F1 := Lib.hid f1
                  have F2 := Lib.hid f2
                  have F16 := Lib.hid f16
                  clear f4 f1 f2 f16
                  go_enter Tryd.func68, Tryd.ntmps68
                  go_wp2_with fail
                  have hn0 : NoW w (w.alloc (.cells #[.bool false, .int .u8 fl] 110)) := (Fp.refl _ _).alloc _
                  have hb0 := heap_alloc_new w (.cells #[.bool false, .int .u8 fl] 110)
                  generalize w.alloc (.cells #[.bool false, .int .u8 fl] 110) = w0 at *
                  generalize w.heap.size = g at *
                  have Hn := Lib.hid hn0
                  have B := Lib.hid hb0
                  clear hn0 hb0
                  refine (F4.out _).mono ?_
                  rintro e v ⟨rfl, hp⟩
                  have hn2 := Hn.out.trans hp (fun _ _ h => h)
                  have hb2 := (hp.block _ (Array.getElem?_eq_some_iff.1 B.out).1 id).trans B.out
                  clear Hn B hp
                  have Hn := Lib.hid hn2
                  have B := Lib.hid hb2
                  clear hn2 hb2
                  try clear c0 c1
                  have c0 : v.cell? ⟨g, 0, none⟩ = some (.bool false) := by simp [World.cell?, B.out]
                  have c1 : v.cell? ⟨g, 1, none⟩ = some (.int .u8 fl) := by simp [World.cell?, B.out]
                  go_wp2_with fail
                  refine (F1.out _).mono ?_
                  rintro e v ⟨rfl, hp⟩
                  have hn2 := Hn.out.trans hp (fun _ _ h => h)
                  have hb2 := (hp.block _ (Array.getElem?_eq_some_iff.1 B.out).1 id).trans B.out
                  clear Hn B hp
                  have Hn := Lib.hid hn2
                  have B := Lib.hid hb2
                  clear hn2 hb2
                  try clear c0 c1
                  have c0 : v.cell? ⟨g, 0, none⟩ = some (.bool false) := by simp [World.cell?, B.out]
                  have c1 : v.cell? ⟨g, 1, none⟩ = some (.int .u8 fl) := by simp [World.cell?, B.out]
                  go_wp2_with fail
                  refine (F16.out _).mono ?_
                  rintro e v ⟨rfl, hp⟩
                  have hn2 := Hn.out.trans hp (fun _ _ h => h)
                  have hb2 := (hp.block _ (Array.getElem?_eq_some_iff.1 B.out).1 id).trans B.out
                  clear Hn B hp
                  have Hn := Lib.hid hn2
                  have B := Lib.hid hb2
                  clear hn2 hb2
                  try clear c0 c1
                  have c0 : v.cell? ⟨g, 0, none⟩ = some (.bool false) := by simp [World.cell?, B.out]
                  have c1 : v.cell? ⟨g, 1, none⟩ = some (.int .u8 fl) := by simp [World.cell?, B.out]
                  go_wp2_with fail
                  refine (F2.out _).mono ?_
                  rintro e v ⟨rfl, hp⟩
                  have hn2 := Hn.out.trans hp (fun _ _ h => h)
                  have hb2 := (hp.block _ (Array.getElem?_eq_some_iff.1 B.out).1 id).trans B.out
                  clear Hn B hp
                  have Hn := Lib.hid hn2
                  have B := Lib.hid hb2
                  clear hn2 hb2
                  try clear c0 c1
                  have c0 : v.cell? ⟨g, 0, none⟩ = some (.bool false) := by simp [World.cell?, B.out]
                  have c1 : v.cell? ⟨g, 1, none⟩ = some (.int .u8 fl) := by simp [World.cell?, B.out]
                  go_wp2_with fail
                  go_ret
                  exact ⟨rfl, Hn.out⟩
            · rw [if_neg (by simp)]
              clear h7 hs s1 s2
              have KE := Lib.hid (show ∀ W : World, True from fun _ => trivial)
              clear ke
              have F4 := Lib.hid f4
              have F1 := Lib.hid f1
              have F2 := Lib.hid f2
              have F16 := Lib.hid f16
              clear f4 f1 f2 f16
              go_enter Tryd.func68, Tryd.ntmps68
              go_wp2_with fail
              have hn0 : NoW w (w.alloc (.cells #[.bool true, .int .u8 fl] 110)) := (Fp.refl _ _).alloc _
              have hb0 := heap_alloc_new w (.cells #[.bool true, .int .u8 fl] 110)
              generalize w.alloc (.cells #[.bool true, .int .u8 fl] 110) = w0 at *
              generalize w.heap.size = g at *
              have Hn := Lib.hid hn0
              have B := Lib.hid hb0
              clear hn0 hb0
              refine (F4.out _).mono ?_
              rintro e v ⟨rfl, hp⟩
              have hn2 := Hn.out.trans hp (fun _ _ h => h)
              have hb2 := (hp.block _ (Array.getElem?_eq_some_iff.1 B.out).1 id).trans B.out
              clear Hn B hp
              have Hn := Lib.hid hn2
              have B := Lib.hid hb2
              clear hn2 hb2
              try clear c0 c1
              have c0 : v.cell? ⟨g, 0, none⟩ = some (.bool true) := by simp [World.cell?, B.out]
              have c1 : v.cell? ⟨g, 1, none⟩ = some (.int .u8 fl) := by simp [World.cell?, B.out]
              go_wp2_with fail
              refine (F1.out _).mono ?_
              rintro e v ⟨rfl, hp⟩
              have hn2 := Hn.out.trans hp (fun _ _ h => h)
              have hb2 := (hp.block _ (Array.getElem?_eq_some_iff.1 B.out).1 id).trans B.out
              clear Hn B hp
              have Hn := Lib.hid hn2
              have B := Lib.hid hb2
              clear hn2 hb2
              try clear c0 c1
              have c0 : v.cell? ⟨g, 0, none⟩ = some (.bool true) := by simp [World.cell?, B.out]
              have c1 : v.cell? ⟨g, 1, none⟩ = some (.int .u8 fl) := by simp [World.cell?, B.out]
              go_wp2_with fail
              go_ret
              exact ⟨rfl, Hn.out⟩
          · have es2 : (s == 2) = false := beq_eq_false_iff_ne.2 s2
            rw [if_neg (fun h => s2 h.1)]
            clear h7 hs s1 s2
            have KE := Lib.hid (show ∀ W : World, True from fun _ => trivial)
            clear ke
            have F4 := Lib.hid f4
            have F1 := Lib.hid f1
            have F2 := Lib.hid f2
            have F16 := Lib.hid f16
            clear f4 f1 f2 f16
            go_enter Tryd.func68, Tryd.ntmps68
            go_wp2_with fail
            have hn0 : NoW w (w.alloc (.cells #[.bool bk, .int .u8 fl] 110)) := (Fp.refl _ _).alloc _
            have hb0 := heap_alloc_new w (.cells #[.bool bk, .int .u8 fl] 110)
            generalize w.alloc (.cells #[.bool bk, .int .u8 fl] 110) = w0 at *
            generalize w.heap.size = g at *
            have Hn := Lib.hid hn0
            have B := Lib.hid hb0
            clear hn0 hb0
            refine (F4.out _).mono ?_
            rintro e v ⟨rfl, hp⟩
            have hn2 := Hn.out.trans hp (fun _ _ h => h)
            have hb2 := (hp.block _ (Array.getElem?_eq_some_iff.1 B.out).1 id).trans B.out
            clear Hn B hp
            have Hn := Lib.hid hn2
            have B := Lib.hid hb2
            clear hn2 hb2
            try clear c0 c1
            have c0 : v.cell? ⟨g, 0, none⟩ = some (.bool bk) := by simp [World.cell?, B.out]
            have c1 : v.cell? ⟨g, 1, none⟩ = some (.int .u8 fl) := by simp [World.cell?, B.out]
            go_wp2_with fail
            refine (F1.out _).mono ?_
            rintro e v ⟨rfl, hp⟩
            have hn2 := Hn.out.trans hp (fun _ _ h => h)
            have hb2 := (hp.block _ (Array.getElem?_eq_some_iff.1 B.out).1 id).trans B.out
            clear Hn B hp
            have Hn := Lib.hid hn2
            have B := Lib.hid hb2
            clear hn2 hb2
            try clear c0 c1
            have c0 : v.cell? ⟨g, 0, none⟩ = some (.bool bk) := by simp [World.cell?, B.out]
            have c1 : v.cell? ⟨g, 1, none⟩ = some (.int .u8 fl) := by simp [World.cell?, B.out]
            go_wp2_with fail
            go_ret
            exact ⟨rfl, Hn.out⟩
      · rw [h1] at f1
        rw [if_pos rfl]
        have KE := Lib.hid (show ∀ W, Calls Tryd.prog 86 #[.int .i64 s, .agg #[.bool bk, .int .u8 fl]] W (Ret1 (.int .i64 (endsN s bk)) W) from fun W => ke W (by omega))
        clear ke
        generalize endsN s bk = en at *
        clear h4 h7 h1 hs
        have F4 := Lib.hid f4
        have F1 := Lib.hid f1
        have F2 := Lib.hid f2
        have F16 := Lib.hid f16
        clear f4 f1 f2 f16
        go_enter Tryd.func68, Tryd.ntmps68
        go_wp2_with fail
        have hn0 : NoW w (w.alloc (.cells #[.bool bk, .int .u8 fl] 110)) := (Fp.refl _ _).alloc _
        have hb0 := heap_alloc_new w (.cells #[.bool bk, .int .u8 fl] 110)
        generalize w.alloc (.cells #[.bool bk, .int .u8 fl] 110) = w0 at *
        generalize w.heap.size = g at *
        have Hn := Lib.hid hn0
        have B := Lib.hid hb0
        clear hn0 hb0
        refine (F4.out _).mono ?_
        rintro e v ⟨rfl, hp⟩
        have hn2 := Hn.out.trans hp (fun _ _ h => h)
        have hb2 := (hp.block _ (Array.getElem?_eq_some_iff.1 B.out).1 id).trans B.out
        clear Hn B hp
        have Hn := Lib.hid hn2
        have B := Lib.hid hb2
        clear hn2 hb2
        try clear c0 c1
        have c0 : v.cell? ⟨g, 0, none⟩ = some (.bool bk) := by simp [World.cell?, B.out]
        have c1 : v.cell? ⟨g, 1, none⟩ = some (.int .u8 fl) := by simp [World.cell?, B.out]
        go_wp2_with fail
        refine (F1.out _).mono ?_
        rintro e v ⟨rfl, hp⟩
        have hn2 := Hn.out.trans hp (fun _ _ h => h)
        have hb2 := (hp.block _ (Array.getElem?_eq_some_iff.1 B.out).1 id).trans B.out
        clear Hn B hp
        have Hn := Lib.hid hn2
        have B := Lib.hid hb2
        clear hn2 hb2
        try clear c0 c1
        have c0 : v.cell? ⟨g, 0, none⟩ = some (.bool bk) := by simp [World.cell?, B.out]
        have c1 : v.cell? ⟨g, 1, none⟩ = some (.int .u8 fl) := by simp [World.cell?, B.out]
        go_wp2_with fail
        refine (KE.out _).mono ?_
        rintro e v ⟨rfl, hp⟩
        have hn2 := Hn.out.trans hp (fun _ _ h => h)
        have hb2 := (hp.block _ (Array.getElem?_eq_some_iff.1 B.out).1 id).trans B.out
        clear Hn B hp
        have Hn := Lib.hid hn2
        have B := Lib.hid hb2
        clear hn2 hb2
        try clear c0 c1
        have c0 : v.cell? ⟨g, 0, none⟩ = some (.bool bk) := by simp [World.cell?, B.out]
        have c1 : v.cell? ⟨g, 1, none⟩ = some (.int .u8 fl) := by simp [World.cell?, B.out]
        go_wp2_with fail
        go_ret
        exact ⟨rfl, Hn.out⟩
  · rw [h4] at f4
    rw [if_pos rfl]
    clear h4 hs
    have KE := Lib.hid (show ∀ W : World, True from fun _ => trivial)
    clear ke
    have F4 := Lib.hid f4
    have F1 := Lib.hid f1
    have F2 := Lib.hid f2
    have F16 := Lib.hid f16
    clear f4 f1 f2 f16
    go_enter Tryd.func68, Tryd.ntmps68
    go_wp2_with fail
    have hn0 : NoW w (w.alloc (.cells #[.bool bk, .int .u8 fl] 110)) := (Fp.refl _ _).alloc _
    have hb0 := heap_alloc_new w (.cells #[.bool bk, .int .u8 fl] 110)
    generalize w.alloc (.cells #[.bool bk, .int .u8 fl] 110) = w0 at *
    generalize w.heap.size = g at *
    have Hn := Lib.hid hn0
    have B := Lib.hid hb0
    clear hn0 hb0
    refine (F4.out _).mono ?_
    rintro e v ⟨rfl, hp⟩
    have hn2 := Hn.out.trans hp (fun _ _ h => h)
    have hb2 := (hp.block _ (Array.getElem?_eq_some_iff.1 B.out).1 id).trans B.out
    clear Hn B hp
    have Hn := Lib.hid hn2
    have B := Lib.hid hb2
    clear hn2 hb2
    try clear c0 c1
    have c0 : v.cell? ⟨g, 0, none⟩ = some (.bool bk) := by simp [World.cell?, B.out]
    have c1 : v.cell? ⟨g, 1, none⟩ = some (.int .u8 fl) := by simp [World.cell?, B.out]
    go_wp2_with fail
    go_ret
    exact ⟨rfl, Hn.out⟩
end Go.Proofs.YtdmbjndhdldggaaDoor

namespace Go.Proofs.YtdmbjndhdldggaaDoor
set_option linter.unusedVariables false
set_option linter.unusedSimpArgs false
open Go.RowKit Go.Lib Go.Sort
theorem toN3 {s : Int} (h : toN 3 s ≠ 0) : 1 ≤ s ∧ s ≤ 7 := by
  unfold toN at h
  split at h
  · rename_i hs
    refine ⟨?_, hs.2⟩
    by_cases h0 : s = 0
    · subst h0; exact absurd rfl h
    · omega
  · exact absurd rfl h
set_option maxHeartbeats 1000000 in
theorem next_three (s : Int) (bk : Bool) (fl : Nat) (hfl : fl < 256) (w : World) (ht : Tb w) :
    Calls Tryd.prog 45 #[.int .i64 3, .int .i64 s, .bool bk, .int .u8 fl] w (Ret1 (.int .i64 (nextN 3 s bk fl)) w) := by
  have k := fun W hW => tmay_ok 3 (by decide) s W hW
  have hnn := toN_nonneg 3 (by decide) s
  have Ht := Lib.hid ht
  clear ht
  unfold nextN
  by_cases hz : toN 3 s = 0
  · rw [if_pos hz]
    rw [show decide (0 < toN 3 s) = false from decide_eq_false (by omega)] at k
    have K := Lib.hid k
    clear k hz hnn
    go_enter Tryd.func45, Tryd.ntmps45
    go_wp2_with fail
    have hn : NoW w (w.alloc (.cells #[.bool bk, .int .u8 fl] 110)) := (Fp.refl _ _).alloc _
    refine (K.out _ (Ht.out.low hn)).mono ?_
    rintro e w' ⟨rfl, rfl⟩
    go_wp2_with fail
    go_ret
    exact ⟨rfl, hn⟩
  · rw [if_neg hz, if_pos rfl]
    have hs := toN3 hz
    rw [show decide (0 < toN 3 s) = true from decide_eq_true (by omega)] at k
    have kt := fun W => tracked_ok s hs bk fl hfl W
    have K := Lib.hid k
    have KT := Lib.hid kt
    generalize trackN s bk fl = tn at *
    clear k kt hz hnn hs hfl
    go_enter Tryd.func45, Tryd.ntmps45
    go_wp2_with fail
    have hn : NoW w (w.alloc (.cells #[.bool bk, .int .u8 fl] 110)) := (Fp.refl _ _).alloc _
    refine (K.out _ (Ht.out.low hn)).mono ?_
    rintro e w' ⟨rfl, rfl⟩
    go_wp2_with fail
    refine (KT.out _).mono ?_
    rintro e v ⟨rfl, hp⟩
    have Hn := Lib.hid (hn.trans hp (fun _ _ h => h))
    clear hp hn
    go_wp2_with fail
    go_ret
    exact ⟨rfl, Hn.out⟩
theorem next_all (f : Nat) (hf : f < 4) (s : Int) (bk : Bool) (fl : Nat) (hfl : fl < 256) (w : World) (ht : Tb w) :
    Calls Tryd.prog 45 #[.int .i64 f, .int .i64 s, .bool bk, .int .u8 fl] w (Ret1 (.int .i64 (nextN f s bk fl)) w) := by
  by_cases h3 : f = 3
  · subst h3
    exact next_three s bk fl hfl w ht
  · have h := next_ok f hf h3 s bk fl w ht
    have hnn := toN_nonneg f hf s
    have e : (if 0 < toN f s then (if bk = true then (2 : Int) else s) else 0) = nextN f s bk fl := by
      unfold nextN
      by_cases hz : toN f s = 0
      · rw [if_pos hz, if_neg (by omega)]
      · rw [if_neg hz, if_pos (by omega), if_neg h3]
    rw [e] at h
    exact h

set_option maxHeartbeats 8000000 in
theorem rnext_ok (f : Nat) (hf : f < 4) (s : Int) (bk : Bool) (fl : Nat) (hfl : fl < 256) (w : World) :
    Calls Tryd.prog 48 #[.int .i64 f, .int .i64 s, .bool bk, .int .u8 fl] w fun e w' => e = .returned (.int .i64 (nextN f s bk fl)) ∧ w' = w := by
  have kt := fun W => rtimeout_ok f hf s W
  have f4 := fun W => flag_ok fl 4 hfl (by omega) W
  have f1 := fun W => flag_ok fl 1 hfl (by omega) W
  have f2 := fun W => flag_ok fl 2 hfl (by omega) W
  have f16 := fun W => flag_ok fl 16 hfl (by omega) W
  unfold nextN
  by_cases hz : toN f s = 0
  · rw [if_pos hz]
    rw [hz] at kt
    clear hz hf hfl
    have F4 := Lib.hid f4
    have F1 := Lib.hid f1
    have F2 := Lib.hid f2
    have F16 := Lib.hid f16
    have KT := Lib.hid kt
    clear f4 f1 f2 f16 kt
    go_enter Tryd.func48, Tryd.ntmps48
    go_wp2_with fail
    refine (KT.out _).mono ?_
    rintro e v ⟨rfl, rfl⟩
    go_wp2_with fail
    go_ret
    exact ⟨rfl, rfl⟩
  · rw [if_neg hz]
    by_cases h3 : f = 3
    · rw [if_pos h3]
      have e3 : decide ((f : Int) < 3) = false := decide_eq_false (by omega)
      have hs : 1 ≤ s ∧ s ≤ 7 := toN3 (h3 ▸ hz)
      have hz2 : (toN f s == 0) = false := beq_eq_false_iff_ne.2 hz
      generalize toN f s = tm at *
      clear hz h3 hf hfl
      unfold trackN
      rcases h4 : tflag fl 4 with _ | _
      · rw [h4] at f4
        simp only [Bool.false_eq_true, if_false]
        by_cases h7 : s = 7
        · rw [if_pos h7]
          have e7 : (s == 7) = true := by rw [h7]; rfl
          clear h4 h7 hs
          have F4 := Lib.hid f4
          have F1 := Lib.hid f1
          have F2 := Lib.hid f2
          have F16 := Lib.hid f16
          have KT := Lib.hid kt
          clear f4 f1 f2 f16 kt
          go_enter Tryd.func48, Tryd.ntmps48
          go_wp2_with fail
          refine (KT.out _).mono ?_
          rintro e v ⟨rfl, rfl⟩
          go_wp2_with fail
          refine (F4.out _).mono ?_
          rintro e v ⟨rfl, rfl⟩
          go_wp2_with fail
          go_ret
          exact ⟨rfl, rfl⟩
        · rw [if_neg h7]
          have e7 : (s == 7) = false := beq_eq_false_iff_ne.2 h7
          rcases h1 : tflag fl 1 with _ | _
          · rw [h1] at f1
            simp only [Bool.false_eq_true, if_false]
            clear h4 h1
            by_cases s1 : s = 1
            · have es : (s == 1) = true := by rw [s1]; rfl
              have es2 : (s == 2) = false := by rw [s1]; rfl
              rcases bk with _ | _
              · rw [if_neg (by simp), if_neg (by omega)]
                clear h7 hs s1
                have F4 := Lib.hid f4
                have F1 := Lib.hid f1
                have F2 := Lib.hid f2
                have F16 := Lib.hid f16
                have KT := Lib.hid kt
                clear f4 f1 f2 f16 kt
                go_enter Tryd.func48, Tryd.ntmps48
                go_wp2_with fail
                refine (KT.out _).mono ?_
                rintro e v ⟨rfl, rfl⟩
                go_wp2_with fail
                refine (F4.out _).mono ?_
                rintro e v ⟨rfl, rfl⟩
                go_wp2_with fail
                refine (F1.out _).mono ?_
                rintro e v ⟨rfl, rfl⟩
                go_wp2_with fail
                go_ret
                exact ⟨rfl, rfl⟩
              · rcases h2 : tflag fl 2 with _ | _
                · rw [if_neg (by simp), if_neg (by omega)]
                  rw [h2] at f2
                  clear h7 hs s1 h2
                  have F4 := Lib.hid f4
                  have F1 := Lib.hid f1
                  have F2 := Lib.hid f2
                  have F16 := Lib.hid f16
                  have KT := Lib.hid kt
                  clear f4 f1 f2 f16 kt
                  go_enter Tryd.func48, Tryd.ntmps48
                  go_wp2_with fail
                  refine (KT.out _).mono ?_
                  rintro e v ⟨rfl, rfl⟩
                  go_wp2_with fail
                  refine (F4.out _).mono ?_
                  rintro e v ⟨rfl, rfl⟩
                  go_wp2_with fail
                  refine (F1.out _).mono ?_
                  rintro e v ⟨rfl, rfl⟩
                  go_wp2_with fail
                  refine (F2.out _).mono ?_
                  rintro e v ⟨rfl, rfl⟩
                  go_wp2_with fail
                  go_ret
                  exact ⟨rfl, rfl⟩
                · rw [if_pos ⟨s1, rfl, rfl⟩]
                  rw [h2] at f2
                  clear h7 hs s1 h2
                  have F4 := Lib.hid f4
                  have F1 := Lib.hid f1
                  have F2 := Lib.hid f2
                  have F16 := Lib.hid f16
                  have KT := Lib.hid kt
                  clear f4 f1 f2 f16 kt
                  go_enter Tryd.func48, Tryd.ntmps48
                  go_wp2_with fail
                  refine (KT.out _).mono ?_
                  rintro e v ⟨rfl, rfl⟩
                  go_wp2_with fail
                  refine (F4.out _).mono ?_
                  rintro e v ⟨rfl, rfl⟩
                  go_wp2_with fail
                  refine (F1.out _).mono ?_
                  rintro e v ⟨rfl, rfl⟩
                  go_wp2_with fail
                  refine (F2.out _).mono ?_
                  rintro e v ⟨rfl, rfl⟩
                  go_wp2_with fail
                  go_ret
                  exact ⟨rfl, rfl⟩
            · have es : (s == 1) = false := beq_eq_false_iff_ne.2 s1
              rw [if_neg (fun h => s1 h.1)]
              by_cases s2 : s = 2
              · have es2 : (s == 2) = true := by rw [s2]; rfl
                rcases bk with _ | _
                · rcases h16 : tflag fl 16 with _ | _
                  · rw [if_neg (by simp)]
                    rw [h16] at f16
                    clear h7 hs s1 s2 h16
                    have F4 := Lib.hid f4
                    have F1 := Lib.hid f1
                    have F2 := Lib.hid f2
                    have F16 := Lib.hid f16
                    have KT := Lib.hid kt
                    clear f4 f1 f2 f16 kt
                    go_enter Tryd.func48, Tryd.ntmps48
                    go_wp2_with fail
                    refine (KT.out _).mono ?_
                    rintro e v ⟨rfl, rfl⟩
                    go_wp2_with fail
                    refine (F4.out _).mono ?_
                    rintro e v ⟨rfl, rfl⟩
                    go_wp2_with fail
                    refine (F1.out _).mono ?_
                    rintro e v ⟨rfl, rfl⟩
                    go_wp2_with fail
                    refine (F16.out _).mono ?_
                    rintro e v ⟨rfl, rfl⟩
                    go_wp2_with fail
                    go_ret
                    exact ⟨rfl, rfl⟩
                  · rcases h2 : tflag fl 2 with _ | _
                    · rw [if_pos ⟨s2, rfl, rfl, rfl⟩]
                      rw [h16] at f16
                      rw [h2] at f2
                      clear h7 hs s1 s2 h16 h2
                      have F4 := Lib.hid f4
                      have F1 := Lib.hid f1
                      have F2 := Lib.hid f2
                      have F16 := Lib.hid f16
                      have KT := Lib.hid kt
                      clear f4 f1 f2 f16 kt
                      go_enter Tryd.func48, Tryd.ntmps48
                      go_wp2_with fail
                      refine (KT.out _).mono ?_
                      rintro e v ⟨rfl, rfl⟩
                      go_wp2_with fail
                      refine (F4.out _).mono ?_
                      rintro e v ⟨rfl, rfl⟩
                      go_wp2_with fail
                      refine (F1.out _).mono ?_
                      rintro e v ⟨rfl, rfl⟩
                      go_wp2_with fail
                      refine (F16.out _).mono ?_
                      rintro e v ⟨rfl, rfl⟩
                      go_wp2_with fail
                      refine (F2.out _).mono ?_
                      rintro e v ⟨rfl, rfl⟩
                      go_wp2_with fail
                      go_ret
                      exact ⟨rfl, rfl⟩
                    · rw [if_neg (by simp)]
                      rw [h16] at f16
                      rw [h2] at f2
                      clear h7 hs s1 s2 h16 h2
                      have F4 := Lib.hid f4
                      have F1 := Lib.hid f1
                      have F2 := Lib.hid f2
                      have F16 := Lib.hid f16
                      have KT := Lib.hid kt
                      clear f4 f1 f2 f16 kt
                      go_enter Tryd.func48, Tryd.ntmps48
                      go_wp2_with fail
                      refine (KT.out _).mono ?_
                      rintro e v ⟨rfl, rfl⟩
                      go_wp2_with fail
                      refine (F4.out _).mono ?_
                      rintro e v ⟨rfl, rfl⟩
                      go_wp2_with fail
                      refine (F1.out _).mono ?_
                      rintro e v ⟨rfl, rfl⟩
                      go_wp2_with fail
                      refine (F16.out _).mono ?_
                      rintro e v ⟨rfl, rfl⟩
                      go_wp2_with fail
                      refine (F2.out _).mono ?_
                      rintro e v ⟨rfl, rfl⟩
                      go_wp2_with fail
                      go_ret
                      exact ⟨rfl, rfl⟩
                · rw [if_neg (by simp)]
                  clear h7 hs s1 s2
                  have F4 := Lib.hid f4
                  have F1 := Lib.hid f1
                  have F2 := Lib.hid f2
                  have F16 := Lib.hid f16
                  have KT := Lib.hid kt
                  clear f4 f1 f2 f16 kt
                  go_enter Tryd.func48, Tryd.ntmps48
                  go_wp2_with fail
                  refine (KT.out _).mono ?_
                  rintro e v ⟨rfl, rfl⟩
                  go_wp2_with fail
                  refine (F4.out _).mono ?_
                  rintro e v ⟨rfl, rfl⟩
                  go_wp2_with fail
                  refine (F1.out _).mono ?_
                  rintro e v ⟨rfl, rfl⟩
                  go_wp2_with fail
                  go_ret
                  exact ⟨rfl, rfl⟩
              · have es2 : (s == 2) = false := beq_eq_false_iff_ne.2 s2
                rw [if_neg (fun h => s2 h.1)]
                clear h7 hs s1 s2
                have F4 := Lib.hid f4
                have F1 := Lib.hid f1
                have F2 := Lib.hid f2
                have F16 := Lib.hid f16
                have KT := Lib.hid kt
                clear f4 f1 f2 f16 kt
                go_enter Tryd.func48, Tryd.ntmps48
                go_wp2_with fail
                refine (KT.out _).mono ?_
                rintro e v ⟨rfl, rfl⟩
                go_wp2_with fail
                refine (F4.out _).mono ?_
                rintro e v ⟨rfl, rfl⟩
                go_wp2_with fail
                refine (F1.out _).mono ?_
                rintro e v ⟨rfl, rfl⟩
                go_wp2_with fail
                go_ret
                exact ⟨rfl, rfl⟩
          · rw [h1] at f1
            rw [if_pos rfl]
            have hs' : s = 1 ∨ s = 2 ∨ s = 3 ∨ s = 4 ∨ s = 5 ∨ s = 6 := by omega
            clear h4 h1 hs h7 e7
            rcases hs' with rfl | rfl | rfl | rfl | rfl | rfl <;> rcases bk with _ | _
            · rw [show endsN 1 false = 4 by decide]
              have F4 := Lib.hid f4
              have F1 := Lib.hid f1
              have F2 := Lib.hid f2
              have F16 := Lib.hid f16
              have KT := Lib.hid kt
              clear f4 f1 f2 f16 kt
              go_enter Tryd.func48, Tryd.ntmps48
              go_wp2_with fail
              refine (KT.out _).mono ?_
              rintro e v ⟨rfl, rfl⟩
              go_wp2_with fail
              refine (F4.out _).mono ?_
              rintro e v ⟨rfl, rfl⟩
              go_wp2_with fail
              refine (F1.out _).mono ?_
              rintro e v ⟨rfl, rfl⟩
              go_wp2_with fail
              go_ret
              exact ⟨rfl, rfl⟩
            · rw [show endsN 1 true = 5 by decide]
              have F4 := Lib.hid f4
              have F1 := Lib.hid f1
              have F2 := Lib.hid f2
              have F16 := Lib.hid f16
              have KT := Lib.hid kt
              clear f4 f1 f2 f16 kt
              go_enter Tryd.func48, Tryd.ntmps48
              go_wp2_with fail
              refine (KT.out _).mono ?_
              rintro e v ⟨rfl, rfl⟩
              go_wp2_with fail
              refine (F4.out _).mono ?_
              rintro e v ⟨rfl, rfl⟩
              go_wp2_with fail
              refine (F1.out _).mono ?_
              rintro e v ⟨rfl, rfl⟩
              go_wp2_with fail
              go_ret
              exact ⟨rfl, rfl⟩
            · rw [show endsN 2 false = 4 by decide]
              have F4 := Lib.hid f4
              have F1 := Lib.hid f1
              have F2 := Lib.hid f2
              have F16 := Lib.hid f16
              have KT := Lib.hid kt
              clear f4 f1 f2 f16 kt
              go_enter Tryd.func48, Tryd.ntmps48
              go_wp2_with fail
              refine (KT.out _).mono ?_
              rintro e v ⟨rfl, rfl⟩
              go_wp2_with fail
              refine (F4.out _).mono ?_
              rintro e v ⟨rfl, rfl⟩
              go_wp2_with fail
              refine (F1.out _).mono ?_
              rintro e v ⟨rfl, rfl⟩
              go_wp2_with fail
              go_ret
              exact ⟨rfl, rfl⟩
            · rw [show endsN 2 true = 5 by decide]
              have F4 := Lib.hid f4
              have F1 := Lib.hid f1
              have F2 := Lib.hid f2
              have F16 := Lib.hid f16
              have KT := Lib.hid kt
              clear f4 f1 f2 f16 kt
              go_enter Tryd.func48, Tryd.ntmps48
              go_wp2_with fail
              refine (KT.out _).mono ?_
              rintro e v ⟨rfl, rfl⟩
              go_wp2_with fail
              refine (F4.out _).mono ?_
              rintro e v ⟨rfl, rfl⟩
              go_wp2_with fail
              refine (F1.out _).mono ?_
              rintro e v ⟨rfl, rfl⟩
              go_wp2_with fail
              go_ret
              exact ⟨rfl, rfl⟩
            · rw [show endsN 3 false = 4 by decide]
              have F4 := Lib.hid f4
              have F1 := Lib.hid f1
              have F2 := Lib.hid f2
              have F16 := Lib.hid f16
              have KT := Lib.hid kt
              clear f4 f1 f2 f16 kt
              go_enter Tryd.func48, Tryd.ntmps48
              go_wp2_with fail
              refine (KT.out _).mono ?_
              rintro e v ⟨rfl, rfl⟩
              go_wp2_with fail
              refine (F4.out _).mono ?_
              rintro e v ⟨rfl, rfl⟩
              go_wp2_with fail
              refine (F1.out _).mono ?_
              rintro e v ⟨rfl, rfl⟩
              go_wp2_with fail
              go_ret
              exact ⟨rfl, rfl⟩
            · rw [show endsN 3 true = 5 by decide]
              have F4 := Lib.hid f4
              have F1 := Lib.hid f1
              have F2 := Lib.hid f2
              have F16 := Lib.hid f16
              have KT := Lib.hid kt
              clear f4 f1 f2 f16 kt
              go_enter Tryd.func48, Tryd.ntmps48
              go_wp2_with fail
              refine (KT.out _).mono ?_
              rintro e v ⟨rfl, rfl⟩
              go_wp2_with fail
              refine (F4.out _).mono ?_
              rintro e v ⟨rfl, rfl⟩
              go_wp2_with fail
              refine (F1.out _).mono ?_
              rintro e v ⟨rfl, rfl⟩
              go_wp2_with fail
              go_ret
              exact ⟨rfl, rfl⟩
            · rw [show endsN 4 false = 4 by decide]
              have F4 := Lib.hid f4
              have F1 := Lib.hid f1
              have F2 := Lib.hid f2
              have F16 := Lib.hid f16
              have KT := Lib.hid kt
              clear f4 f1 f2 f16 kt
              go_enter Tryd.func48, Tryd.ntmps48
              go_wp2_with fail
              refine (KT.out _).mono ?_
              rintro e v ⟨rfl, rfl⟩
              go_wp2_with fail
              refine (F4.out _).mono ?_
              rintro e v ⟨rfl, rfl⟩
              go_wp2_with fail
              refine (F1.out _).mono ?_
              rintro e v ⟨rfl, rfl⟩
              go_wp2_with fail
              go_ret
              exact ⟨rfl, rfl⟩
            · rw [show endsN 4 true = 6 by decide]
              have F4 := Lib.hid f4
              have F1 := Lib.hid f1
              have F2 := Lib.hid f2
              have F16 := Lib.hid f16
              have KT := Lib.hid kt
              clear f4 f1 f2 f16 kt
              go_enter Tryd.func48, Tryd.ntmps48
              go_wp2_with fail
              refine (KT.out _).mono ?_
              rintro e v ⟨rfl, rfl⟩
              go_wp2_with fail
              refine (F4.out _).mono ?_
              rintro e v ⟨rfl, rfl⟩
              go_wp2_with fail
              refine (F1.out _).mono ?_
              rintro e v ⟨rfl, rfl⟩
              go_wp2_with fail
              go_ret
              exact ⟨rfl, rfl⟩
            · rw [show endsN 5 false = 6 by decide]
              have F4 := Lib.hid f4
              have F1 := Lib.hid f1
              have F2 := Lib.hid f2
              have F16 := Lib.hid f16
              have KT := Lib.hid kt
              clear f4 f1 f2 f16 kt
              go_enter Tryd.func48, Tryd.ntmps48
              go_wp2_with fail
              refine (KT.out _).mono ?_
              rintro e v ⟨rfl, rfl⟩
              go_wp2_with fail
              refine (F4.out _).mono ?_
              rintro e v ⟨rfl, rfl⟩
              go_wp2_with fail
              refine (F1.out _).mono ?_
              rintro e v ⟨rfl, rfl⟩
              go_wp2_with fail
              go_ret
              exact ⟨rfl, rfl⟩
            · rw [show endsN 5 true = 5 by decide]
              have F4 := Lib.hid f4
              have F1 := Lib.hid f1
              have F2 := Lib.hid f2
              have F16 := Lib.hid f16
              have KT := Lib.hid kt
              clear f4 f1 f2 f16 kt
              go_enter Tryd.func48, Tryd.ntmps48
              go_wp2_with fail
              refine (KT.out _).mono ?_
              rintro e v ⟨rfl, rfl⟩
              go_wp2_with fail
              refine (F4.out _).mono ?_
              rintro e v ⟨rfl, rfl⟩
              go_wp2_with fail
              refine (F1.out _).mono ?_
              rintro e v ⟨rfl, rfl⟩
              go_wp2_with fail
              go_ret
              exact ⟨rfl, rfl⟩
            · rw [show endsN 6 false = 6 by decide]
              have F4 := Lib.hid f4
              have F1 := Lib.hid f1
              have F2 := Lib.hid f2
              have F16 := Lib.hid f16
              have KT := Lib.hid kt
              clear f4 f1 f2 f16 kt
              go_enter Tryd.func48, Tryd.ntmps48
              go_wp2_with fail
              refine (KT.out _).mono ?_
              rintro e v ⟨rfl, rfl⟩
              go_wp2_with fail
              refine (F4.out _).mono ?_
              rintro e v ⟨rfl, rfl⟩
              go_wp2_with fail
              refine (F1.out _).mono ?_
              rintro e v ⟨rfl, rfl⟩
              go_wp2_with fail
              go_ret
              exact ⟨rfl, rfl⟩
            · rw [show endsN 6 true = 6 by decide]
              have F4 := Lib.hid f4
              have F1 := Lib.hid f1
              have F2 := Lib.hid f2
              have F16 := Lib.hid f16
              have KT := Lib.hid kt
              clear f4 f1 f2 f16 kt
              go_enter Tryd.func48, Tryd.ntmps48
              go_wp2_with fail
              refine (KT.out _).mono ?_
              rintro e v ⟨rfl, rfl⟩
              go_wp2_with fail
              refine (F4.out _).mono ?_
              rintro e v ⟨rfl, rfl⟩
              go_wp2_with fail
              refine (F1.out _).mono ?_
              rintro e v ⟨rfl, rfl⟩
              go_wp2_with fail
              go_ret
              exact ⟨rfl, rfl⟩
      · rw [h4] at f4
        rw [if_pos rfl]
        clear h4 hs
        have F4 := Lib.hid f4
        have F1 := Lib.hid f1
        have F2 := Lib.hid f2
        have F16 := Lib.hid f16
        have KT := Lib.hid kt
        clear f4 f1 f2 f16 kt
        go_enter Tryd.func48, Tryd.ntmps48
        go_wp2_with fail
        refine (KT.out _).mono ?_
        rintro e v ⟨rfl, rfl⟩
        go_wp2_with fail
        refine (F4.out _).mono ?_
        rintro e v ⟨rfl, rfl⟩
        go_wp2_with fail
        go_ret
        exact ⟨rfl, rfl⟩
    · rw [if_neg h3]
      have e3 : decide ((f : Int) < 3) = true := decide_eq_true (by omega)
      have hz2 : (toN f s == 0) = false := beq_eq_false_iff_ne.2 hz
      generalize toN f s = tm at *
      clear hz h3 hf hfl
      rcases bk with _ | _
      · simp only [Bool.false_eq_true, if_false]
        have F4 := Lib.hid f4
        have F1 := Lib.hid f1
        have F2 := Lib.hid f2
        have F16 := Lib.hid f16
        have KT := Lib.hid kt
        clear f4 f1 f2 f16 kt
        go_enter Tryd.func48, Tryd.ntmps48
        go_wp2_with fail
        refine (KT.out _).mono ?_
        rintro e v ⟨rfl, rfl⟩
        go_wp2_with fail
        go_ret
        exact ⟨rfl, rfl⟩
      · rw [if_pos rfl]
        have F4 := Lib.hid f4
        have F1 := Lib.hid f1
        have F2 := Lib.hid f2
        have F16 := Lib.hid f16
        have KT := Lib.hid kt
        clear f4 f1 f2 f16 kt
        go_enter Tryd.func48, Tryd.ntmps48
        go_wp2_with fail
        refine (KT.out _).mono ?_
        rintro e v ⟨rfl, rfl⟩
        go_wp2_with fail
        go_ret
        exact ⟨rfl, rfl⟩
end Go.Proofs.YtdmbjndhdldggaaDoor
