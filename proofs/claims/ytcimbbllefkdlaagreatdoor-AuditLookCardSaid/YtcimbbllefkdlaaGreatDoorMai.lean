/- Texts of this proof, merged: EtC. -/
import Derived.Test.YtcimbbllefkdlaaGreatDoorMah
import Derived.Test.YtcimbbllefkdlaaGreatDoorMaa
import Derived.Test.YtcimbbllefkdlaaGreatDoorMab
import Derived.Test.YtcimbbllefkdlaaGreatDoorMac
import Derived.Test.YtcimbbllefkdlaaGreatDoorMad
import Derived.Test.YtcimbbllefkdlaaGreatDoorMae
import Derived.Test.YtcimbbllefkdlaaGreatDoorMaf
import Derived.Test.YtcimbbllefkdlaaGreatDoorMag
namespace Go.Proofs.YtcimbbllefkdlaaGreatDoor
set_option linter.unusedVariables false
set_option linter.unusedSimpArgs false
open Go.RowKit Go.Lib Go.Sort
theorem toN_nonneg (f : Nat) (hf : f < 4) (s : Int) : 0 ≤ toN f s := by
  unfold toN
  split
  · obtain ⟨n, rfl⟩ : ∃ n : Nat, s = n := ⟨s.toNat, by omega⟩
    have hn : n < 8 := by omega
    rw [Int.toNat_natCast]
    have key : ∀ f : Fin 4, ∀ n : Fin 8, 0 ≤ lastN f.val n.val := by decide +kernel
    exact key ⟨f, hf⟩ ⟨n, hn⟩
  · exact Int.le_refl _

set_option maxHeartbeats 2000000 in
set_option maxRecDepth 100000 in
theorem rmay_t1 (r a p b q r2 a2 p2 b2 q2 : Nat) (st dl : Int) (o : Option Addr) (n c : Nat) (w : World) (h1 : tupB r p q = false) :
    Calls Tryz.prog 48 #[.agg #[.int .u8 r, .int .u32 a, .int .u16 p, .int .u32 b, .int .u16 q, .int .u8 r2, .int .u32 a2, .int .u16 p2, .int .u32 b2, .int .u16 q2, .int .i64 st, .int .i64 dl, .slice o n c]] w (Ret1 (.bool false) w) := by
  have k1 := fun W => rmay8_ok r a p b q W
  have k2 := fun W => rmay8_ok r2 a2 p2 b2 q2 W
  have k3 := fun W => rflow_ok r W
  have k4 := fun W => rtimeout_ok (flowN r) (flowN_lt r) st W
  rw [h1] at k1
  have K1 := Lib.hid k1
  have K2 := Lib.hid k2
  have K3 := Lib.hid k3
  have K4 := Lib.hid k4
  clear k1 k2 k3 k4
  go_enter Tryz.func48, Tryz.ntmps48
  go_wp2_with fail
  have hn0 : NoW w (w.alloc (.cells #[.int .u8 r, .int .u32 a, .int .u16 p, .int .u32 b, .int .u16 q, .int .u8 r2, .int .u32 a2, .int .u16 p2, .int .u32 b2, .int .u16 q2, .int .i64 st, .int .i64 dl, .slice o n c] 69)) := (Fp.refl _ _).alloc _
  have hb0 := heap_alloc_new w (.cells #[.int .u8 r, .int .u32 a, .int .u16 p, .int .u32 b, .int .u16 q, .int .u8 r2, .int .u32 a2, .int .u16 p2, .int .u32 b2, .int .u16 q2, .int .i64 st, .int .i64 dl, .slice o n c] 69)
  generalize w.alloc (.cells #[.int .u8 r, .int .u32 a, .int .u16 p, .int .u32 b, .int .u16 q, .int .u8 r2, .int .u32 a2, .int .u16 p2, .int .u32 b2, .int .u16 q2, .int .i64 st, .int .i64 dl, .slice o n c] 69) = w0 at *
  generalize w.heap.size = g at *
  have Hn0 := Lib.hid hn0
  have B := Lib.hid hb0
  clear hn0 hb0
  refine (K1.out _).mono ?_
  rintro e v0 ⟨rfl, hp⟩
  have Hm0 := Lib.hid (Hn0.out.trans hp (fun _ _ h => h))
  have hb := (hp.block _ (Array.getElem?_eq_some_iff.1 B.out).1 id).trans B.out
  clear B hp Hn0
  have B := Lib.hid hb
  clear hb
  have c0 : v0.cell? ⟨g, 0, none⟩ = some (.int .u8 r) := by simp [World.cell?, B.out]
  have c1 : v0.cell? ⟨g, 1, none⟩ = some (.int .u32 a) := by simp [World.cell?, B.out]
  have c2 : v0.cell? ⟨g, 2, none⟩ = some (.int .u16 p) := by simp [World.cell?, B.out]
  have c3 : v0.cell? ⟨g, 3, none⟩ = some (.int .u32 b) := by simp [World.cell?, B.out]
  have c4 : v0.cell? ⟨g, 4, none⟩ = some (.int .u16 q) := by simp [World.cell?, B.out]
  have c5 : v0.cell? ⟨g, 5, none⟩ = some (.int .u8 r2) := by simp [World.cell?, B.out]
  have c6 : v0.cell? ⟨g, 6, none⟩ = some (.int .u32 a2) := by simp [World.cell?, B.out]
  have c7 : v0.cell? ⟨g, 7, none⟩ = some (.int .u16 p2) := by simp [World.cell?, B.out]
  have c8 : v0.cell? ⟨g, 8, none⟩ = some (.int .u32 b2) := by simp [World.cell?, B.out]
  have c9 : v0.cell? ⟨g, 9, none⟩ = some (.int .u16 q2) := by simp [World.cell?, B.out]
  have c10 : v0.cell? ⟨g, 10, none⟩ = some (.int .i64 st) := by simp [World.cell?, B.out]
  have c11 : v0.cell? ⟨g, 11, none⟩ = some (.int .i64 dl) := by simp [World.cell?, B.out]
  have c12 : v0.cell? ⟨g, 12, none⟩ = some (.slice o n c) := by simp [World.cell?, B.out]
  go_wp2_with fail
  go_ret
  exact ⟨rfl, Hm0.out⟩

set_option maxHeartbeats 2000000 in
set_option maxRecDepth 100000 in
theorem rmay_t2 (r a p b q r2 a2 p2 b2 q2 : Nat) (st dl : Int) (o : Option Addr) (n c : Nat) (w : World) (h1 : tupB r p q = true) (h2 : tupB r2 p2 q2 = false) :
    Calls Tryz.prog 48 #[.agg #[.int .u8 r, .int .u32 a, .int .u16 p, .int .u32 b, .int .u16 q, .int .u8 r2, .int .u32 a2, .int .u16 p2, .int .u32 b2, .int .u16 q2, .int .i64 st, .int .i64 dl, .slice o n c]] w (Ret1 (.bool false) w) := by
  have k1 := fun W => rmay8_ok r a p b q W
  have k2 := fun W => rmay8_ok r2 a2 p2 b2 q2 W
  have k3 := fun W => rflow_ok r W
  have k4 := fun W => rtimeout_ok (flowN r) (flowN_lt r) st W
  rw [h1] at k1
  rw [h2] at k2
  have K1 := Lib.hid k1
  have K2 := Lib.hid k2
  have K3 := Lib.hid k3
  have K4 := Lib.hid k4
  clear k1 k2 k3 k4
  go_enter Tryz.func48, Tryz.ntmps48
  go_wp2_with fail
  have hn0 : NoW w (w.alloc (.cells #[.int .u8 r, .int .u32 a, .int .u16 p, .int .u32 b, .int .u16 q, .int .u8 r2, .int .u32 a2, .int .u16 p2, .int .u32 b2, .int .u16 q2, .int .i64 st, .int .i64 dl, .slice o n c] 69)) := (Fp.refl _ _).alloc _
  have hb0 := heap_alloc_new w (.cells #[.int .u8 r, .int .u32 a, .int .u16 p, .int .u32 b, .int .u16 q, .int .u8 r2, .int .u32 a2, .int .u16 p2, .int .u32 b2, .int .u16 q2, .int .i64 st, .int .i64 dl, .slice o n c] 69)
  generalize w.alloc (.cells #[.int .u8 r, .int .u32 a, .int .u16 p, .int .u32 b, .int .u16 q, .int .u8 r2, .int .u32 a2, .int .u16 p2, .int .u32 b2, .int .u16 q2, .int .i64 st, .int .i64 dl, .slice o n c] 69) = w0 at *
  generalize w.heap.size = g at *
  have Hn0 := Lib.hid hn0
  have B := Lib.hid hb0
  clear hn0 hb0
  refine (K1.out _).mono ?_
  rintro e v0 ⟨rfl, hp⟩
  have Hm0 := Lib.hid (Hn0.out.trans hp (fun _ _ h => h))
  have hb := (hp.block _ (Array.getElem?_eq_some_iff.1 B.out).1 id).trans B.out
  clear B hp Hn0
  have B := Lib.hid hb
  clear hb
  have c0 : v0.cell? ⟨g, 0, none⟩ = some (.int .u8 r) := by simp [World.cell?, B.out]
  have c1 : v0.cell? ⟨g, 1, none⟩ = some (.int .u32 a) := by simp [World.cell?, B.out]
  have c2 : v0.cell? ⟨g, 2, none⟩ = some (.int .u16 p) := by simp [World.cell?, B.out]
  have c3 : v0.cell? ⟨g, 3, none⟩ = some (.int .u32 b) := by simp [World.cell?, B.out]
  have c4 : v0.cell? ⟨g, 4, none⟩ = some (.int .u16 q) := by simp [World.cell?, B.out]
  have c5 : v0.cell? ⟨g, 5, none⟩ = some (.int .u8 r2) := by simp [World.cell?, B.out]
  have c6 : v0.cell? ⟨g, 6, none⟩ = some (.int .u32 a2) := by simp [World.cell?, B.out]
  have c7 : v0.cell? ⟨g, 7, none⟩ = some (.int .u16 p2) := by simp [World.cell?, B.out]
  have c8 : v0.cell? ⟨g, 8, none⟩ = some (.int .u32 b2) := by simp [World.cell?, B.out]
  have c9 : v0.cell? ⟨g, 9, none⟩ = some (.int .u16 q2) := by simp [World.cell?, B.out]
  have c10 : v0.cell? ⟨g, 10, none⟩ = some (.int .i64 st) := by simp [World.cell?, B.out]
  have c11 : v0.cell? ⟨g, 11, none⟩ = some (.int .i64 dl) := by simp [World.cell?, B.out]
  have c12 : v0.cell? ⟨g, 12, none⟩ = some (.slice o n c) := by simp [World.cell?, B.out]
  go_wp2_with fail
  clear c0 c1 c2 c3 c4 c5 c6 c7 c8 c9 c10 c11 c12
  refine (K2.out _).mono ?_
  rintro e v1 ⟨rfl, hp⟩
  have Hm1 := Lib.hid (Hm0.out.trans hp (fun _ _ h => h))
  have hb := (hp.block _ (Array.getElem?_eq_some_iff.1 B.out).1 id).trans B.out
  clear B hp Hm0
  have B := Lib.hid hb
  clear hb
  have c0 : v1.cell? ⟨g, 0, none⟩ = some (.int .u8 r) := by simp [World.cell?, B.out]
  have c1 : v1.cell? ⟨g, 1, none⟩ = some (.int .u32 a) := by simp [World.cell?, B.out]
  have c2 : v1.cell? ⟨g, 2, none⟩ = some (.int .u16 p) := by simp [World.cell?, B.out]
  have c3 : v1.cell? ⟨g, 3, none⟩ = some (.int .u32 b) := by simp [World.cell?, B.out]
  have c4 : v1.cell? ⟨g, 4, none⟩ = some (.int .u16 q) := by simp [World.cell?, B.out]
  have c5 : v1.cell? ⟨g, 5, none⟩ = some (.int .u8 r2) := by simp [World.cell?, B.out]
  have c6 : v1.cell? ⟨g, 6, none⟩ = some (.int .u32 a2) := by simp [World.cell?, B.out]
  have c7 : v1.cell? ⟨g, 7, none⟩ = some (.int .u16 p2) := by simp [World.cell?, B.out]
  have c8 : v1.cell? ⟨g, 8, none⟩ = some (.int .u32 b2) := by simp [World.cell?, B.out]
  have c9 : v1.cell? ⟨g, 9, none⟩ = some (.int .u16 q2) := by simp [World.cell?, B.out]
  have c10 : v1.cell? ⟨g, 10, none⟩ = some (.int .i64 st) := by simp [World.cell?, B.out]
  have c11 : v1.cell? ⟨g, 11, none⟩ = some (.int .i64 dl) := by simp [World.cell?, B.out]
  have c12 : v1.cell? ⟨g, 12, none⟩ = some (.slice o n c) := by simp [World.cell?, B.out]
  go_wp2_with fail
  go_ret
  exact ⟨rfl, Hm1.out⟩

set_option maxHeartbeats 2000000 in
set_option maxRecDepth 100000 in
theorem rmay_same (r a p b q r2 a2 p2 b2 q2 : Nat) (st dl : Int) (o : Option Addr) (n c : Nat) (w : World) (h1 : tupB r p q = true) (h2 : tupB r2 p2 q2 = true) (hne : decide (r = r2 ∧ a = a2 ∧ p = p2 ∧ b = b2 ∧ q = q2) = true) :
    Calls Tryz.prog 48 #[.agg #[.int .u8 r, .int .u32 a, .int .u16 p, .int .u32 b, .int .u16 q, .int .u8 r2, .int .u32 a2, .int .u16 p2, .int .u32 b2, .int .u16 q2, .int .i64 st, .int .i64 dl, .slice o n c]] w (Ret1 (.bool false) w) := by
  have k1 := fun W => rmay8_ok r a p b q W
  have k2 := fun W => rmay8_ok r2 a2 p2 b2 q2 W
  have k3 := fun W => rflow_ok r W
  have k4 := fun W => rtimeout_ok (flowN r) (flowN_lt r) st W
  rw [h1] at k1
  rw [h2] at k2
  have heq := fun W => tup_eq2 r a p b q r2 a2 p2 b2 q2 W
  rw [hne] at heq
  clear hne
  have K1 := Lib.hid k1
  have K2 := Lib.hid k2
  have K3 := Lib.hid k3
  have K4 := Lib.hid k4
  clear k1 k2 k3 k4
  go_enter Tryz.func48, Tryz.ntmps48
  go_wp2_with fail
  have hn0 : NoW w (w.alloc (.cells #[.int .u8 r, .int .u32 a, .int .u16 p, .int .u32 b, .int .u16 q, .int .u8 r2, .int .u32 a2, .int .u16 p2, .int .u32 b2, .int .u16 q2, .int .i64 st, .int .i64 dl, .slice o n c] 69)) := (Fp.refl _ _).alloc _
  have hb0 := heap_alloc_new w (.cells #[.int .u8 r, .int .u32 a, .int .u16 p, .int .u32 b, .int .u16 q, .int .u8 r2, .int .u32 a2, .int .u16 p2, .int .u32 b2, .int .u16 q2, .int .i64 st, .int .i64 dl, .slice o n c] 69)
  generalize w.alloc (.cells #[.int .u8 r, .int .u32 a, .int .u16 p, .int .u32 b, .int .u16 q, .int .u8 r2, .int .u32 a2, .int .u16 p2, .int .u32 b2, .int .u16 q2, .int .i64 st, .int .i64 dl, .slice o n c] 69) = w0 at *
  generalize w.heap.size = g at *
  have Hn0 := Lib.hid hn0
  have B := Lib.hid hb0
  clear hn0 hb0
  refine (K1.out _).mono ?_
  rintro e v0 ⟨rfl, hp⟩
  have Hm0 := Lib.hid (Hn0.out.trans hp (fun _ _ h => h))
  have hb := (hp.block _ (Array.getElem?_eq_some_iff.1 B.out).1 id).trans B.out
  clear B hp Hn0
  have B := Lib.hid hb
  clear hb
  have c0 : v0.cell? ⟨g, 0, none⟩ = some (.int .u8 r) := by simp [World.cell?, B.out]
  have c1 : v0.cell? ⟨g, 1, none⟩ = some (.int .u32 a) := by simp [World.cell?, B.out]
  have c2 : v0.cell? ⟨g, 2, none⟩ = some (.int .u16 p) := by simp [World.cell?, B.out]
  have c3 : v0.cell? ⟨g, 3, none⟩ = some (.int .u32 b) := by simp [World.cell?, B.out]
  have c4 : v0.cell? ⟨g, 4, none⟩ = some (.int .u16 q) := by simp [World.cell?, B.out]
  have c5 : v0.cell? ⟨g, 5, none⟩ = some (.int .u8 r2) := by simp [World.cell?, B.out]
  have c6 : v0.cell? ⟨g, 6, none⟩ = some (.int .u32 a2) := by simp [World.cell?, B.out]
  have c7 : v0.cell? ⟨g, 7, none⟩ = some (.int .u16 p2) := by simp [World.cell?, B.out]
  have c8 : v0.cell? ⟨g, 8, none⟩ = some (.int .u32 b2) := by simp [World.cell?, B.out]
  have c9 : v0.cell? ⟨g, 9, none⟩ = some (.int .u16 q2) := by simp [World.cell?, B.out]
  have c10 : v0.cell? ⟨g, 10, none⟩ = some (.int .i64 st) := by simp [World.cell?, B.out]
  have c11 : v0.cell? ⟨g, 11, none⟩ = some (.int .i64 dl) := by simp [World.cell?, B.out]
  have c12 : v0.cell? ⟨g, 12, none⟩ = some (.slice o n c) := by simp [World.cell?, B.out]
  go_wp2_with fail
  clear c0 c1 c2 c3 c4 c5 c6 c7 c8 c9 c10 c11 c12
  refine (K2.out _).mono ?_
  rintro e v1 ⟨rfl, hp⟩
  have Hm1 := Lib.hid (Hm0.out.trans hp (fun _ _ h => h))
  have hb := (hp.block _ (Array.getElem?_eq_some_iff.1 B.out).1 id).trans B.out
  clear B hp Hm0
  have B := Lib.hid hb
  clear hb
  have c0 : v1.cell? ⟨g, 0, none⟩ = some (.int .u8 r) := by simp [World.cell?, B.out]
  have c1 : v1.cell? ⟨g, 1, none⟩ = some (.int .u32 a) := by simp [World.cell?, B.out]
  have c2 : v1.cell? ⟨g, 2, none⟩ = some (.int .u16 p) := by simp [World.cell?, B.out]
  have c3 : v1.cell? ⟨g, 3, none⟩ = some (.int .u32 b) := by simp [World.cell?, B.out]
  have c4 : v1.cell? ⟨g, 4, none⟩ = some (.int .u16 q) := by simp [World.cell?, B.out]
  have c5 : v1.cell? ⟨g, 5, none⟩ = some (.int .u8 r2) := by simp [World.cell?, B.out]
  have c6 : v1.cell? ⟨g, 6, none⟩ = some (.int .u32 a2) := by simp [World.cell?, B.out]
  have c7 : v1.cell? ⟨g, 7, none⟩ = some (.int .u16 p2) := by simp [World.cell?, B.out]
  have c8 : v1.cell? ⟨g, 8, none⟩ = some (.int .u32 b2) := by simp [World.cell?, B.out]
  have c9 : v1.cell? ⟨g, 9, none⟩ = some (.int .u16 q2) := by simp [World.cell?, B.out]
  have c10 : v1.cell? ⟨g, 10, none⟩ = some (.int .i64 st) := by simp [World.cell?, B.out]
  have c11 : v1.cell? ⟨g, 11, none⟩ = some (.int .i64 dl) := by simp [World.cell?, B.out]
  have c12 : v1.cell? ⟨g, 12, none⟩ = some (.slice o n c) := by simp [World.cell?, B.out]
  go_wp2_with fail
  go_ret
  exact ⟨rfl, Hm1.out⟩

set_option maxHeartbeats 2000000 in
set_option maxRecDepth 100000 in
theorem rmay_proto (r a p b q r2 a2 p2 b2 q2 : Nat) (st dl : Int) (o : Option Addr) (n c : Nat) (w : World) (h1 : tupB r p q = true) (h2 : tupB r2 p2 q2 = true) (hne : decide (r = r2 ∧ a = a2 ∧ p = p2 ∧ b = b2 ∧ q = q2) = false) (hpr : r ≠ r2) :
    Calls Tryz.prog 48 #[.agg #[.int .u8 r, .int .u32 a, .int .u16 p, .int .u32 b, .int .u16 q, .int .u8 r2, .int .u32 a2, .int .u16 p2, .int .u32 b2, .int .u16 q2, .int .i64 st, .int .i64 dl, .slice o n c]] w (Ret1 (.bool false) w) := by
  have k1 := fun W => rmay8_ok r a p b q W
  have k2 := fun W => rmay8_ok r2 a2 p2 b2 q2 W
  have k3 := fun W => rflow_ok r W
  have k4 := fun W => rtimeout_ok (flowN r) (flowN_lt r) st W
  rw [h1] at k1
  rw [h2] at k2
  have heq := fun W => tup_eq2 r a p b q r2 a2 p2 b2 q2 W
  rw [hne] at heq
  clear hne
  have hp2 : ((r : Int) != (r2 : Int)) = true := by simp; omega
  clear hpr
  have K1 := Lib.hid k1
  have K2 := Lib.hid k2
  have K3 := Lib.hid k3
  have K4 := Lib.hid k4
  clear k1 k2 k3 k4
  go_enter Tryz.func48, Tryz.ntmps48
  go_wp2_with fail
  have hn0 : NoW w (w.alloc (.cells #[.int .u8 r, .int .u32 a, .int .u16 p, .int .u32 b, .int .u16 q, .int .u8 r2, .int .u32 a2, .int .u16 p2, .int .u32 b2, .int .u16 q2, .int .i64 st, .int .i64 dl, .slice o n c] 69)) := (Fp.refl _ _).alloc _
  have hb0 := heap_alloc_new w (.cells #[.int .u8 r, .int .u32 a, .int .u16 p, .int .u32 b, .int .u16 q, .int .u8 r2, .int .u32 a2, .int .u16 p2, .int .u32 b2, .int .u16 q2, .int .i64 st, .int .i64 dl, .slice o n c] 69)
  generalize w.alloc (.cells #[.int .u8 r, .int .u32 a, .int .u16 p, .int .u32 b, .int .u16 q, .int .u8 r2, .int .u32 a2, .int .u16 p2, .int .u32 b2, .int .u16 q2, .int .i64 st, .int .i64 dl, .slice o n c] 69) = w0 at *
  generalize w.heap.size = g at *
  have Hn0 := Lib.hid hn0
  have B := Lib.hid hb0
  clear hn0 hb0
  refine (K1.out _).mono ?_
  rintro e v0 ⟨rfl, hp⟩
  have Hm0 := Lib.hid (Hn0.out.trans hp (fun _ _ h => h))
  have hb := (hp.block _ (Array.getElem?_eq_some_iff.1 B.out).1 id).trans B.out
  clear B hp Hn0
  have B := Lib.hid hb
  clear hb
  have c0 : v0.cell? ⟨g, 0, none⟩ = some (.int .u8 r) := by simp [World.cell?, B.out]
  have c1 : v0.cell? ⟨g, 1, none⟩ = some (.int .u32 a) := by simp [World.cell?, B.out]
  have c2 : v0.cell? ⟨g, 2, none⟩ = some (.int .u16 p) := by simp [World.cell?, B.out]
  have c3 : v0.cell? ⟨g, 3, none⟩ = some (.int .u32 b) := by simp [World.cell?, B.out]
  have c4 : v0.cell? ⟨g, 4, none⟩ = some (.int .u16 q) := by simp [World.cell?, B.out]
  have c5 : v0.cell? ⟨g, 5, none⟩ = some (.int .u8 r2) := by simp [World.cell?, B.out]
  have c6 : v0.cell? ⟨g, 6, none⟩ = some (.int .u32 a2) := by simp [World.cell?, B.out]
  have c7 : v0.cell? ⟨g, 7, none⟩ = some (.int .u16 p2) := by simp [World.cell?, B.out]
  have c8 : v0.cell? ⟨g, 8, none⟩ = some (.int .u32 b2) := by simp [World.cell?, B.out]
  have c9 : v0.cell? ⟨g, 9, none⟩ = some (.int .u16 q2) := by simp [World.cell?, B.out]
  have c10 : v0.cell? ⟨g, 10, none⟩ = some (.int .i64 st) := by simp [World.cell?, B.out]
  have c11 : v0.cell? ⟨g, 11, none⟩ = some (.int .i64 dl) := by simp [World.cell?, B.out]
  have c12 : v0.cell? ⟨g, 12, none⟩ = some (.slice o n c) := by simp [World.cell?, B.out]
  go_wp2_with fail
  clear c0 c1 c2 c3 c4 c5 c6 c7 c8 c9 c10 c11 c12
  refine (K2.out _).mono ?_
  rintro e v1 ⟨rfl, hp⟩
  have Hm1 := Lib.hid (Hm0.out.trans hp (fun _ _ h => h))
  have hb := (hp.block _ (Array.getElem?_eq_some_iff.1 B.out).1 id).trans B.out
  clear B hp Hm0
  have B := Lib.hid hb
  clear hb
  have c0 : v1.cell? ⟨g, 0, none⟩ = some (.int .u8 r) := by simp [World.cell?, B.out]
  have c1 : v1.cell? ⟨g, 1, none⟩ = some (.int .u32 a) := by simp [World.cell?, B.out]
  have c2 : v1.cell? ⟨g, 2, none⟩ = some (.int .u16 p) := by simp [World.cell?, B.out]
  have c3 : v1.cell? ⟨g, 3, none⟩ = some (.int .u32 b) := by simp [World.cell?, B.out]
  have c4 : v1.cell? ⟨g, 4, none⟩ = some (.int .u16 q) := by simp [World.cell?, B.out]
  have c5 : v1.cell? ⟨g, 5, none⟩ = some (.int .u8 r2) := by simp [World.cell?, B.out]
  have c6 : v1.cell? ⟨g, 6, none⟩ = some (.int .u32 a2) := by simp [World.cell?, B.out]
  have c7 : v1.cell? ⟨g, 7, none⟩ = some (.int .u16 p2) := by simp [World.cell?, B.out]
  have c8 : v1.cell? ⟨g, 8, none⟩ = some (.int .u32 b2) := by simp [World.cell?, B.out]
  have c9 : v1.cell? ⟨g, 9, none⟩ = some (.int .u16 q2) := by simp [World.cell?, B.out]
  have c10 : v1.cell? ⟨g, 10, none⟩ = some (.int .i64 st) := by simp [World.cell?, B.out]
  have c11 : v1.cell? ⟨g, 11, none⟩ = some (.int .i64 dl) := by simp [World.cell?, B.out]
  have c12 : v1.cell? ⟨g, 12, none⟩ = some (.slice o n c) := by simp [World.cell?, B.out]
  go_wp2_with fail
  go_ret
  exact ⟨rfl, Hm1.out⟩

set_option maxHeartbeats 2000000 in
set_option maxRecDepth 100000 in
theorem rmay_track (r a p b q r2 a2 p2 b2 q2 : Nat) (st dl : Int) (o : Option Addr) (n c : Nat) (w : World) (h1 : tupB r p q = true) (h2 : tupB r2 p2 q2 = true) (hne : decide (r = r2 ∧ a = a2 ∧ p = p2 ∧ b = b2 ∧ q = q2) = false) (hpr : r = r2) (h4 : (toN (flowN r) st == 0) = true) :
    Calls Tryz.prog 48 #[.agg #[.int .u8 r, .int .u32 a, .int .u16 p, .int .u32 b, .int .u16 q, .int .u8 r2, .int .u32 a2, .int .u16 p2, .int .u32 b2, .int .u16 q2, .int .i64 st, .int .i64 dl, .slice o n c]] w (Ret1 (.bool false) w) := by
  have k1 := fun W => rmay8_ok r a p b q W
  have k2 := fun W => rmay8_ok r2 a2 p2 b2 q2 W
  have k3 := fun W => rflow_ok r W
  have k4 := fun W => rtimeout_ok (flowN r) (flowN_lt r) st W
  rw [h1] at k1
  rw [h2] at k2
  have heq := fun W => tup_eq2 r a p b q r2 a2 p2 b2 q2 W
  rw [hne] at heq
  clear hne
  have hp2 : ((r : Int) != (r2 : Int)) = false := by rw [hpr]; simp
  clear hpr
  generalize toN (flowN r) st = tm at *
  have K1 := Lib.hid k1
  have K2 := Lib.hid k2
  have K3 := Lib.hid k3
  have K4 := Lib.hid k4
  clear k1 k2 k3 k4
  go_enter Tryz.func48, Tryz.ntmps48
  go_wp2_with fail
  have hn0 : NoW w (w.alloc (.cells #[.int .u8 r, .int .u32 a, .int .u16 p, .int .u32 b, .int .u16 q, .int .u8 r2, .int .u32 a2, .int .u16 p2, .int .u32 b2, .int .u16 q2, .int .i64 st, .int .i64 dl, .slice o n c] 69)) := (Fp.refl _ _).alloc _
  have hb0 := heap_alloc_new w (.cells #[.int .u8 r, .int .u32 a, .int .u16 p, .int .u32 b, .int .u16 q, .int .u8 r2, .int .u32 a2, .int .u16 p2, .int .u32 b2, .int .u16 q2, .int .i64 st, .int .i64 dl, .slice o n c] 69)
  generalize w.alloc (.cells #[.int .u8 r, .int .u32 a, .int .u16 p, .int .u32 b, .int .u16 q, .int .u8 r2, .int .u32 a2, .int .u16 p2, .int .u32 b2, .int .u16 q2, .int .i64 st, .int .i64 dl, .slice o n c] 69) = w0 at *
  generalize w.heap.size = g at *
  have Hn0 := Lib.hid hn0
  have B := Lib.hid hb0
  clear hn0 hb0
  refine (K1.out _).mono ?_
  rintro e v0 ⟨rfl, hp⟩
  have Hm0 := Lib.hid (Hn0.out.trans hp (fun _ _ h => h))
  have hb := (hp.block _ (Array.getElem?_eq_some_iff.1 B.out).1 id).trans B.out
  clear B hp Hn0
  have B := Lib.hid hb
  clear hb
  have c0 : v0.cell? ⟨g, 0, none⟩ = some (.int .u8 r) := by simp [World.cell?, B.out]
  have c1 : v0.cell? ⟨g, 1, none⟩ = some (.int .u32 a) := by simp [World.cell?, B.out]
  have c2 : v0.cell? ⟨g, 2, none⟩ = some (.int .u16 p) := by simp [World.cell?, B.out]
  have c3 : v0.cell? ⟨g, 3, none⟩ = some (.int .u32 b) := by simp [World.cell?, B.out]
  have c4 : v0.cell? ⟨g, 4, none⟩ = some (.int .u16 q) := by simp [World.cell?, B.out]
  have c5 : v0.cell? ⟨g, 5, none⟩ = some (.int .u8 r2) := by simp [World.cell?, B.out]
  have c6 : v0.cell? ⟨g, 6, none⟩ = some (.int .u32 a2) := by simp [World.cell?, B.out]
  have c7 : v0.cell? ⟨g, 7, none⟩ = some (.int .u16 p2) := by simp [World.cell?, B.out]
  have c8 : v0.cell? ⟨g, 8, none⟩ = some (.int .u32 b2) := by simp [World.cell?, B.out]
  have c9 : v0.cell? ⟨g, 9, none⟩ = some (.int .u16 q2) := by simp [World.cell?, B.out]
  have c10 : v0.cell? ⟨g, 10, none⟩ = some (.int .i64 st) := by simp [World.cell?, B.out]
  have c11 : v0.cell? ⟨g, 11, none⟩ = some (.int .i64 dl) := by simp [World.cell?, B.out]
  have c12 : v0.cell? ⟨g, 12, none⟩ = some (.slice o n c) := by simp [World.cell?, B.out]
  go_wp2_with fail
  clear c0 c1 c2 c3 c4 c5 c6 c7 c8 c9 c10 c11 c12
  refine (K2.out _).mono ?_
  rintro e v1 ⟨rfl, hp⟩
  have Hm1 := Lib.hid (Hm0.out.trans hp (fun _ _ h => h))
  have hb := (hp.block _ (Array.getElem?_eq_some_iff.1 B.out).1 id).trans B.out
  clear B hp Hm0
  have B := Lib.hid hb
  clear hb
  have c0 : v1.cell? ⟨g, 0, none⟩ = some (.int .u8 r) := by simp [World.cell?, B.out]
  have c1 : v1.cell? ⟨g, 1, none⟩ = some (.int .u32 a) := by simp [World.cell?, B.out]
  have c2 : v1.cell? ⟨g, 2, none⟩ = some (.int .u16 p) := by simp [World.cell?, B.out]
  have c3 : v1.cell? ⟨g, 3, none⟩ = some (.int .u32 b) := by simp [World.cell?, B.out]
  have c4 : v1.cell? ⟨g, 4, none⟩ = some (.int .u16 q) := by simp [World.cell?, B.out]
  have c5 : v1.cell? ⟨g, 5, none⟩ = some (.int .u8 r2) := by simp [World.cell?, B.out]
  have c6 : v1.cell? ⟨g, 6, none⟩ = some (.int .u32 a2) := by simp [World.cell?, B.out]
  have c7 : v1.cell? ⟨g, 7, none⟩ = some (.int .u16 p2) := by simp [World.cell?, B.out]
  have c8 : v1.cell? ⟨g, 8, none⟩ = some (.int .u32 b2) := by simp [World.cell?, B.out]
  have c9 : v1.cell? ⟨g, 9, none⟩ = some (.int .u16 q2) := by simp [World.cell?, B.out]
  have c10 : v1.cell? ⟨g, 10, none⟩ = some (.int .i64 st) := by simp [World.cell?, B.out]
  have c11 : v1.cell? ⟨g, 11, none⟩ = some (.int .i64 dl) := by simp [World.cell?, B.out]
  have c12 : v1.cell? ⟨g, 12, none⟩ = some (.slice o n c) := by simp [World.cell?, B.out]
  go_wp2_with fail
  go_quiet ((first | (go_at_call 73; exact Calls.quiet_of_same (K3.out _)) | (go_at_call 72; exact Calls.quiet_of_same (K4.out _))))
  go_wp2_with fail
  go_ret
  exact ⟨rfl, Hm1.out.drewN _⟩

set_option maxHeartbeats 2000000 in
set_option maxRecDepth 100000 in
theorem rmay_low (r a p b q r2 a2 p2 b2 q2 : Nat) (st dl : Int) (o : Option Addr) (n c : Nat) (w : World) (h1 : tupB r p q = true) (h2 : tupB r2 p2 q2 = true) (hne : decide (r = r2 ∧ a = a2 ∧ p = p2 ∧ b = b2 ∧ q = q2) = false) (hpr : r = r2) (h4 : (toN (flowN r) st == 0) = false) (hd : decide (0 ≤ dl) = false) :
    Calls Tryz.prog 48 #[.agg #[.int .u8 r, .int .u32 a, .int .u16 p, .int .u32 b, .int .u16 q, .int .u8 r2, .int .u32 a2, .int .u16 p2, .int .u32 b2, .int .u16 q2, .int .i64 st, .int .i64 dl, .slice o n c]] w (Ret1 (.bool false) w) := by
  have k1 := fun W => rmay8_ok r a p b q W
  have k2 := fun W => rmay8_ok r2 a2 p2 b2 q2 W
  have k3 := fun W => rflow_ok r W
  have k4 := fun W => rtimeout_ok (flowN r) (flowN_lt r) st W
  rw [h1] at k1
  rw [h2] at k2
  have heq := fun W => tup_eq2 r a p b q r2 a2 p2 b2 q2 W
  rw [hne] at heq
  clear hne
  have hp2 : ((r : Int) != (r2 : Int)) = false := by rw [hpr]; simp
  clear hpr
  generalize toN (flowN r) st = tm at *
  have K1 := Lib.hid k1
  have K2 := Lib.hid k2
  have K3 := Lib.hid k3
  have K4 := Lib.hid k4
  clear k1 k2 k3 k4
  go_enter Tryz.func48, Tryz.ntmps48
  go_wp2_with fail
  have hn0 : NoW w (w.alloc (.cells #[.int .u8 r, .int .u32 a, .int .u16 p, .int .u32 b, .int .u16 q, .int .u8 r2, .int .u32 a2, .int .u16 p2, .int .u32 b2, .int .u16 q2, .int .i64 st, .int .i64 dl, .slice o n c] 69)) := (Fp.refl _ _).alloc _
  have hb0 := heap_alloc_new w (.cells #[.int .u8 r, .int .u32 a, .int .u16 p, .int .u32 b, .int .u16 q, .int .u8 r2, .int .u32 a2, .int .u16 p2, .int .u32 b2, .int .u16 q2, .int .i64 st, .int .i64 dl, .slice o n c] 69)
  generalize w.alloc (.cells #[.int .u8 r, .int .u32 a, .int .u16 p, .int .u32 b, .int .u16 q, .int .u8 r2, .int .u32 a2, .int .u16 p2, .int .u32 b2, .int .u16 q2, .int .i64 st, .int .i64 dl, .slice o n c] 69) = w0 at *
  generalize w.heap.size = g at *
  have Hn0 := Lib.hid hn0
  have B := Lib.hid hb0
  clear hn0 hb0
  refine (K1.out _).mono ?_
  rintro e v0 ⟨rfl, hp⟩
  have Hm0 := Lib.hid (Hn0.out.trans hp (fun _ _ h => h))
  have hb := (hp.block _ (Array.getElem?_eq_some_iff.1 B.out).1 id).trans B.out
  clear B hp Hn0
  have B := Lib.hid hb
  clear hb
  have c0 : v0.cell? ⟨g, 0, none⟩ = some (.int .u8 r) := by simp [World.cell?, B.out]
  have c1 : v0.cell? ⟨g, 1, none⟩ = some (.int .u32 a) := by simp [World.cell?, B.out]
  have c2 : v0.cell? ⟨g, 2, none⟩ = some (.int .u16 p) := by simp [World.cell?, B.out]
  have c3 : v0.cell? ⟨g, 3, none⟩ = some (.int .u32 b) := by simp [World.cell?, B.out]
  have c4 : v0.cell? ⟨g, 4, none⟩ = some (.int .u16 q) := by simp [World.cell?, B.out]
  have c5 : v0.cell? ⟨g, 5, none⟩ = some (.int .u8 r2) := by simp [World.cell?, B.out]
  have c6 : v0.cell? ⟨g, 6, none⟩ = some (.int .u32 a2) := by simp [World.cell?, B.out]
  have c7 : v0.cell? ⟨g, 7, none⟩ = some (.int .u16 p2) := by simp [World.cell?, B.out]
  have c8 : v0.cell? ⟨g, 8, none⟩ = some (.int .u32 b2) := by simp [World.cell?, B.out]
  have c9 : v0.cell? ⟨g, 9, none⟩ = some (.int .u16 q2) := by simp [World.cell?, B.out]
  have c10 : v0.cell? ⟨g, 10, none⟩ = some (.int .i64 st) := by simp [World.cell?, B.out]
  have c11 : v0.cell? ⟨g, 11, none⟩ = some (.int .i64 dl) := by simp [World.cell?, B.out]
  have c12 : v0.cell? ⟨g, 12, none⟩ = some (.slice o n c) := by simp [World.cell?, B.out]
  go_wp2_with fail
  clear c0 c1 c2 c3 c4 c5 c6 c7 c8 c9 c10 c11 c12
  refine (K2.out _).mono ?_
  rintro e v1 ⟨rfl, hp⟩
  have Hm1 := Lib.hid (Hm0.out.trans hp (fun _ _ h => h))
  have hb := (hp.block _ (Array.getElem?_eq_some_iff.1 B.out).1 id).trans B.out
  clear B hp Hm0
  have B := Lib.hid hb
  clear hb
  have c0 : v1.cell? ⟨g, 0, none⟩ = some (.int .u8 r) := by simp [World.cell?, B.out]
  have c1 : v1.cell? ⟨g, 1, none⟩ = some (.int .u32 a) := by simp [World.cell?, B.out]
  have c2 : v1.cell? ⟨g, 2, none⟩ = some (.int .u16 p) := by simp [World.cell?, B.out]
  have c3 : v1.cell? ⟨g, 3, none⟩ = some (.int .u32 b) := by simp [World.cell?, B.out]
  have c4 : v1.cell? ⟨g, 4, none⟩ = some (.int .u16 q) := by simp [World.cell?, B.out]
  have c5 : v1.cell? ⟨g, 5, none⟩ = some (.int .u8 r2) := by simp [World.cell?, B.out]
  have c6 : v1.cell? ⟨g, 6, none⟩ = some (.int .u32 a2) := by simp [World.cell?, B.out]
  have c7 : v1.cell? ⟨g, 7, none⟩ = some (.int .u16 p2) := by simp [World.cell?, B.out]
  have c8 : v1.cell? ⟨g, 8, none⟩ = some (.int .u32 b2) := by simp [World.cell?, B.out]
  have c9 : v1.cell? ⟨g, 9, none⟩ = some (.int .u16 q2) := by simp [World.cell?, B.out]
  have c10 : v1.cell? ⟨g, 10, none⟩ = some (.int .i64 st) := by simp [World.cell?, B.out]
  have c11 : v1.cell? ⟨g, 11, none⟩ = some (.int .i64 dl) := by simp [World.cell?, B.out]
  have c12 : v1.cell? ⟨g, 12, none⟩ = some (.slice o n c) := by simp [World.cell?, B.out]
  go_wp2_with fail
  go_quiet ((first | (go_at_call 73; exact Calls.quiet_of_same (K3.out _)) | (go_at_call 72; exact Calls.quiet_of_same (K4.out _))))
  go_wp2_with fail
  go_ret
  exact ⟨rfl, Hm1.out.drewN _⟩

set_option maxHeartbeats 2000000 in
set_option maxRecDepth 100000 in
theorem rmay_high (r a p b q r2 a2 p2 b2 q2 : Nat) (st dl : Int) (o : Option Addr) (n c : Nat) (w : World) (h1 : tupB r p q = true) (h2 : tupB r2 p2 q2 = true) (hne : decide (r = r2 ∧ a = a2 ∧ p = p2 ∧ b = b2 ∧ q = q2) = false) (hpr : r = r2) (h4 : (toN (flowN r) st == 0) = false) (hd : decide (0 ≤ dl) = true) (hd2 : decide (dl ≤ 1099511635216) = false) :
    Calls Tryz.prog 48 #[.agg #[.int .u8 r, .int .u32 a, .int .u16 p, .int .u32 b, .int .u16 q, .int .u8 r2, .int .u32 a2, .int .u16 p2, .int .u32 b2, .int .u16 q2, .int .i64 st, .int .i64 dl, .slice o n c]] w (Ret1 (.bool false) w) := by
  have k1 := fun W => rmay8_ok r a p b q W
  have k2 := fun W => rmay8_ok r2 a2 p2 b2 q2 W
  have k3 := fun W => rflow_ok r W
  have k4 := fun W => rtimeout_ok (flowN r) (flowN_lt r) st W
  rw [h1] at k1
  rw [h2] at k2
  have heq := fun W => tup_eq2 r a p b q r2 a2 p2 b2 q2 W
  rw [hne] at heq
  clear hne
  have hp2 : ((r : Int) != (r2 : Int)) = false := by rw [hpr]; simp
  clear hpr
  generalize toN (flowN r) st = tm at *
  have K1 := Lib.hid k1
  have K2 := Lib.hid k2
  have K3 := Lib.hid k3
  have K4 := Lib.hid k4
  clear k1 k2 k3 k4
  go_enter Tryz.func48, Tryz.ntmps48
  go_wp2_with fail
  have hn0 : NoW w (w.alloc (.cells #[.int .u8 r, .int .u32 a, .int .u16 p, .int .u32 b, .int .u16 q, .int .u8 r2, .int .u32 a2, .int .u16 p2, .int .u32 b2, .int .u16 q2, .int .i64 st, .int .i64 dl, .slice o n c] 69)) := (Fp.refl _ _).alloc _
  have hb0 := heap_alloc_new w (.cells #[.int .u8 r, .int .u32 a, .int .u16 p, .int .u32 b, .int .u16 q, .int .u8 r2, .int .u32 a2, .int .u16 p2, .int .u32 b2, .int .u16 q2, .int .i64 st, .int .i64 dl, .slice o n c] 69)
  generalize w.alloc (.cells #[.int .u8 r, .int .u32 a, .int .u16 p, .int .u32 b, .int .u16 q, .int .u8 r2, .int .u32 a2, .int .u16 p2, .int .u32 b2, .int .u16 q2, .int .i64 st, .int .i64 dl, .slice o n c] 69) = w0 at *
  generalize w.heap.size = g at *
  have Hn0 := Lib.hid hn0
  have B := Lib.hid hb0
  clear hn0 hb0
  refine (K1.out _).mono ?_
  rintro e v0 ⟨rfl, hp⟩
  have Hm0 := Lib.hid (Hn0.out.trans hp (fun _ _ h => h))
  have hb := (hp.block _ (Array.getElem?_eq_some_iff.1 B.out).1 id).trans B.out
  clear B hp Hn0
  have B := Lib.hid hb
  clear hb
  have c0 : v0.cell? ⟨g, 0, none⟩ = some (.int .u8 r) := by simp [World.cell?, B.out]
  have c1 : v0.cell? ⟨g, 1, none⟩ = some (.int .u32 a) := by simp [World.cell?, B.out]
  have c2 : v0.cell? ⟨g, 2, none⟩ = some (.int .u16 p) := by simp [World.cell?, B.out]
  have c3 : v0.cell? ⟨g, 3, none⟩ = some (.int .u32 b) := by simp [World.cell?, B.out]
  have c4 : v0.cell? ⟨g, 4, none⟩ = some (.int .u16 q) := by simp [World.cell?, B.out]
  have c5 : v0.cell? ⟨g, 5, none⟩ = some (.int .u8 r2) := by simp [World.cell?, B.out]
  have c6 : v0.cell? ⟨g, 6, none⟩ = some (.int .u32 a2) := by simp [World.cell?, B.out]
  have c7 : v0.cell? ⟨g, 7, none⟩ = some (.int .u16 p2) := by simp [World.cell?, B.out]
  have c8 : v0.cell? ⟨g, 8, none⟩ = some (.int .u32 b2) := by simp [World.cell?, B.out]
  have c9 : v0.cell? ⟨g, 9, none⟩ = some (.int .u16 q2) := by simp [World.cell?, B.out]
  have c10 : v0.cell? ⟨g, 10, none⟩ = some (.int .i64 st) := by simp [World.cell?, B.out]
  have c11 : v0.cell? ⟨g, 11, none⟩ = some (.int .i64 dl) := by simp [World.cell?, B.out]
  have c12 : v0.cell? ⟨g, 12, none⟩ = some (.slice o n c) := by simp [World.cell?, B.out]
  go_wp2_with fail
  clear c0 c1 c2 c3 c4 c5 c6 c7 c8 c9 c10 c11 c12
  refine (K2.out _).mono ?_
  rintro e v1 ⟨rfl, hp⟩
  have Hm1 := Lib.hid (Hm0.out.trans hp (fun _ _ h => h))
  have hb := (hp.block _ (Array.getElem?_eq_some_iff.1 B.out).1 id).trans B.out
  clear B hp Hm0
  have B := Lib.hid hb
  clear hb
  have c0 : v1.cell? ⟨g, 0, none⟩ = some (.int .u8 r) := by simp [World.cell?, B.out]
  have c1 : v1.cell? ⟨g, 1, none⟩ = some (.int .u32 a) := by simp [World.cell?, B.out]
  have c2 : v1.cell? ⟨g, 2, none⟩ = some (.int .u16 p) := by simp [World.cell?, B.out]
  have c3 : v1.cell? ⟨g, 3, none⟩ = some (.int .u32 b) := by simp [World.cell?, B.out]
  have c4 : v1.cell? ⟨g, 4, none⟩ = some (.int .u16 q) := by simp [World.cell?, B.out]
  have c5 : v1.cell? ⟨g, 5, none⟩ = some (.int .u8 r2) := by simp [World.cell?, B.out]
  have c6 : v1.cell? ⟨g, 6, none⟩ = some (.int .u32 a2) := by simp [World.cell?, B.out]
  have c7 : v1.cell? ⟨g, 7, none⟩ = some (.int .u16 p2) := by simp [World.cell?, B.out]
  have c8 : v1.cell? ⟨g, 8, none⟩ = some (.int .u32 b2) := by simp [World.cell?, B.out]
  have c9 : v1.cell? ⟨g, 9, none⟩ = some (.int .u16 q2) := by simp [World.cell?, B.out]
  have c10 : v1.cell? ⟨g, 10, none⟩ = some (.int .i64 st) := by simp [World.cell?, B.out]
  have c11 : v1.cell? ⟨g, 11, none⟩ = some (.int .i64 dl) := by simp [World.cell?, B.out]
  have c12 : v1.cell? ⟨g, 12, none⟩ = some (.slice o n c) := by simp [World.cell?, B.out]
  go_wp2_with fail
  go_quiet ((first | (go_at_call 73; exact Calls.quiet_of_same (K3.out _)) | (go_at_call 72; exact Calls.quiet_of_same (K4.out _))))
  go_wp2_with fail
  go_ret
  exact ⟨rfl, Hm1.out.drewN _⟩

set_option maxHeartbeats 2000000 in
set_option maxRecDepth 100000 in
theorem rmay_one (r a p b q r2 a2 p2 b2 q2 : Nat) (st dl : Int) (o : Option Addr) (n c : Nat) (w : World) (h1 : tupB r p q = true) (h2 : tupB r2 p2 q2 = true) (hne : decide (r = r2 ∧ a = a2 ∧ p = p2 ∧ b = b2 ∧ q = q2) = false) (hpr : r = r2) (h4 : (toN (flowN r) st == 0) = false) (hd : decide (0 ≤ dl) = true) (hd2 : decide (dl ≤ 1099511635216) = true) (hl : ((n : Int) == 1) = true) :
    Calls Tryz.prog 48 #[.agg #[.int .u8 r, .int .u32 a, .int .u16 p, .int .u32 b, .int .u16 q, .int .u8 r2, .int .u32 a2, .int .u16 p2, .int .u32 b2, .int .u16 q2, .int .i64 st, .int .i64 dl, .slice o n c]] w (Ret1 (.bool true) w) := by
  have k1 := fun W => rmay8_ok r a p b q W
  have k2 := fun W => rmay8_ok r2 a2 p2 b2 q2 W
  have k3 := fun W => rflow_ok r W
  have k4 := fun W => rtimeout_ok (flowN r) (flowN_lt r) st W
  rw [h1] at k1
  rw [h2] at k2
  have heq := fun W => tup_eq2 r a p b q r2 a2 p2 b2 q2 W
  rw [hne] at heq
  clear hne
  have hp2 : ((r : Int) != (r2 : Int)) = false := by rw [hpr]; simp
  clear hpr
  generalize toN (flowN r) st = tm at *
  have K1 := Lib.hid k1
  have K2 := Lib.hid k2
  have K3 := Lib.hid k3
  have K4 := Lib.hid k4
  clear k1 k2 k3 k4
  go_enter Tryz.func48, Tryz.ntmps48
  go_wp2_with fail
  have hn0 : NoW w (w.alloc (.cells #[.int .u8 r, .int .u32 a, .int .u16 p, .int .u32 b, .int .u16 q, .int .u8 r2, .int .u32 a2, .int .u16 p2, .int .u32 b2, .int .u16 q2, .int .i64 st, .int .i64 dl, .slice o n c] 69)) := (Fp.refl _ _).alloc _
  have hb0 := heap_alloc_new w (.cells #[.int .u8 r, .int .u32 a, .int .u16 p, .int .u32 b, .int .u16 q, .int .u8 r2, .int .u32 a2, .int .u16 p2, .int .u32 b2, .int .u16 q2, .int .i64 st, .int .i64 dl, .slice o n c] 69)
  generalize w.alloc (.cells #[.int .u8 r, .int .u32 a, .int .u16 p, .int .u32 b, .int .u16 q, .int .u8 r2, .int .u32 a2, .int .u16 p2, .int .u32 b2, .int .u16 q2, .int .i64 st, .int .i64 dl, .slice o n c] 69) = w0 at *
  generalize w.heap.size = g at *
  have Hn0 := Lib.hid hn0
  have B := Lib.hid hb0
  clear hn0 hb0
  refine (K1.out _).mono ?_
  rintro e v0 ⟨rfl, hp⟩
  have Hm0 := Lib.hid (Hn0.out.trans hp (fun _ _ h => h))
  have hb := (hp.block _ (Array.getElem?_eq_some_iff.1 B.out).1 id).trans B.out
  clear B hp Hn0
  have B := Lib.hid hb
  clear hb
  have c0 : v0.cell? ⟨g, 0, none⟩ = some (.int .u8 r) := by simp [World.cell?, B.out]
  have c1 : v0.cell? ⟨g, 1, none⟩ = some (.int .u32 a) := by simp [World.cell?, B.out]
  have c2 : v0.cell? ⟨g, 2, none⟩ = some (.int .u16 p) := by simp [World.cell?, B.out]
  have c3 : v0.cell? ⟨g, 3, none⟩ = some (.int .u32 b) := by simp [World.cell?, B.out]
  have c4 : v0.cell? ⟨g, 4, none⟩ = some (.int .u16 q) := by simp [World.cell?, B.out]
  have c5 : v0.cell? ⟨g, 5, none⟩ = some (.int .u8 r2) := by simp [World.cell?, B.out]
  have c6 : v0.cell? ⟨g, 6, none⟩ = some (.int .u32 a2) := by simp [World.cell?, B.out]
  have c7 : v0.cell? ⟨g, 7, none⟩ = some (.int .u16 p2) := by simp [World.cell?, B.out]
  have c8 : v0.cell? ⟨g, 8, none⟩ = some (.int .u32 b2) := by simp [World.cell?, B.out]
  have c9 : v0.cell? ⟨g, 9, none⟩ = some (.int .u16 q2) := by simp [World.cell?, B.out]
  have c10 : v0.cell? ⟨g, 10, none⟩ = some (.int .i64 st) := by simp [World.cell?, B.out]
  have c11 : v0.cell? ⟨g, 11, none⟩ = some (.int .i64 dl) := by simp [World.cell?, B.out]
  have c12 : v0.cell? ⟨g, 12, none⟩ = some (.slice o n c) := by simp [World.cell?, B.out]
  go_wp2_with fail
  clear c0 c1 c2 c3 c4 c5 c6 c7 c8 c9 c10 c11 c12
  refine (K2.out _).mono ?_
  rintro e v1 ⟨rfl, hp⟩
  have Hm1 := Lib.hid (Hm0.out.trans hp (fun _ _ h => h))
  have hb := (hp.block _ (Array.getElem?_eq_some_iff.1 B.out).1 id).trans B.out
  clear B hp Hm0
  have B := Lib.hid hb
  clear hb
  have c0 : v1.cell? ⟨g, 0, none⟩ = some (.int .u8 r) := by simp [World.cell?, B.out]
  have c1 : v1.cell? ⟨g, 1, none⟩ = some (.int .u32 a) := by simp [World.cell?, B.out]
  have c2 : v1.cell? ⟨g, 2, none⟩ = some (.int .u16 p) := by simp [World.cell?, B.out]
  have c3 : v1.cell? ⟨g, 3, none⟩ = some (.int .u32 b) := by simp [World.cell?, B.out]
  have c4 : v1.cell? ⟨g, 4, none⟩ = some (.int .u16 q) := by simp [World.cell?, B.out]
  have c5 : v1.cell? ⟨g, 5, none⟩ = some (.int .u8 r2) := by simp [World.cell?, B.out]
  have c6 : v1.cell? ⟨g, 6, none⟩ = some (.int .u32 a2) := by simp [World.cell?, B.out]
  have c7 : v1.cell? ⟨g, 7, none⟩ = some (.int .u16 p2) := by simp [World.cell?, B.out]
  have c8 : v1.cell? ⟨g, 8, none⟩ = some (.int .u32 b2) := by simp [World.cell?, B.out]
  have c9 : v1.cell? ⟨g, 9, none⟩ = some (.int .u16 q2) := by simp [World.cell?, B.out]
  have c10 : v1.cell? ⟨g, 10, none⟩ = some (.int .i64 st) := by simp [World.cell?, B.out]
  have c11 : v1.cell? ⟨g, 11, none⟩ = some (.int .i64 dl) := by simp [World.cell?, B.out]
  have c12 : v1.cell? ⟨g, 12, none⟩ = some (.slice o n c) := by simp [World.cell?, B.out]
  go_wp2_with fail
  go_quiet ((first | (go_at_call 73; exact Calls.quiet_of_same (K3.out _)) | (go_at_call 72; exact Calls.quiet_of_same (K4.out _))))
  go_wp2_with fail
  go_ret
  exact ⟨rfl, Hm1.out.drewN _⟩

set_option maxHeartbeats 2000000 in
set_option maxRecDepth 100000 in
theorem rmay_two (r a p b q r2 a2 p2 b2 q2 : Nat) (st dl : Int) (o : Option Addr) (n c : Nat) (w : World) (h1 : tupB r p q = true) (h2 : tupB r2 p2 q2 = true) (hne : decide (r = r2 ∧ a = a2 ∧ p = p2 ∧ b = b2 ∧ q = q2) = false) (hpr : r = r2) (h4 : (toN (flowN r) st == 0) = false) (hd : decide (0 ≤ dl) = true) (hd2 : decide (dl ≤ 1099511635216) = true) (hl : ((n : Int) == 1) = false) (hl2 : ((n : Int) == 2) = true) :
    Calls Tryz.prog 48 #[.agg #[.int .u8 r, .int .u32 a, .int .u16 p, .int .u32 b, .int .u16 q, .int .u8 r2, .int .u32 a2, .int .u16 p2, .int .u32 b2, .int .u16 q2, .int .i64 st, .int .i64 dl, .slice o n c]] w (Ret1 (.bool true) w) := by
  have k1 := fun W => rmay8_ok r a p b q W
  have k2 := fun W => rmay8_ok r2 a2 p2 b2 q2 W
  have k3 := fun W => rflow_ok r W
  have k4 := fun W => rtimeout_ok (flowN r) (flowN_lt r) st W
  rw [h1] at k1
  rw [h2] at k2
  have heq := fun W => tup_eq2 r a p b q r2 a2 p2 b2 q2 W
  rw [hne] at heq
  clear hne
  have hp2 : ((r : Int) != (r2 : Int)) = false := by rw [hpr]; simp
  clear hpr
  generalize toN (flowN r) st = tm at *
  have K1 := Lib.hid k1
  have K2 := Lib.hid k2
  have K3 := Lib.hid k3
  have K4 := Lib.hid k4
  clear k1 k2 k3 k4
  go_enter Tryz.func48, Tryz.ntmps48
  go_wp2_with fail
  have hn0 : NoW w (w.alloc (.cells #[.int .u8 r, .int .u32 a, .int .u16 p, .int .u32 b, .int .u16 q, .int .u8 r2, .int .u32 a2, .int .u16 p2, .int .u32 b2, .int .u16 q2, .int .i64 st, .int .i64 dl, .slice o n c] 69)) := (Fp.refl _ _).alloc _
  have hb0 := heap_alloc_new w (.cells #[.int .u8 r, .int .u32 a, .int .u16 p, .int .u32 b, .int .u16 q, .int .u8 r2, .int .u32 a2, .int .u16 p2, .int .u32 b2, .int .u16 q2, .int .i64 st, .int .i64 dl, .slice o n c] 69)
  generalize w.alloc (.cells #[.int .u8 r, .int .u32 a, .int .u16 p, .int .u32 b, .int .u16 q, .int .u8 r2, .int .u32 a2, .int .u16 p2, .int .u32 b2, .int .u16 q2, .int .i64 st, .int .i64 dl, .slice o n c] 69) = w0 at *
  generalize w.heap.size = g at *
  have Hn0 := Lib.hid hn0
  have B := Lib.hid hb0
  clear hn0 hb0
  refine (K1.out _).mono ?_
  rintro e v0 ⟨rfl, hp⟩
  have Hm0 := Lib.hid (Hn0.out.trans hp (fun _ _ h => h))
  have hb := (hp.block _ (Array.getElem?_eq_some_iff.1 B.out).1 id).trans B.out
  clear B hp Hn0
  have B := Lib.hid hb
  clear hb
  have c0 : v0.cell? ⟨g, 0, none⟩ = some (.int .u8 r) := by simp [World.cell?, B.out]
  have c1 : v0.cell? ⟨g, 1, none⟩ = some (.int .u32 a) := by simp [World.cell?, B.out]
  have c2 : v0.cell? ⟨g, 2, none⟩ = some (.int .u16 p) := by simp [World.cell?, B.out]
  have c3 : v0.cell? ⟨g, 3, none⟩ = some (.int .u32 b) := by simp [World.cell?, B.out]
  have c4 : v0.cell? ⟨g, 4, none⟩ = some (.int .u16 q) := by simp [World.cell?, B.out]
  have c5 : v0.cell? ⟨g, 5, none⟩ = some (.int .u8 r2) := by simp [World.cell?, B.out]
  have c6 : v0.cell? ⟨g, 6, none⟩ = some (.int .u32 a2) := by simp [World.cell?, B.out]
  have c7 : v0.cell? ⟨g, 7, none⟩ = some (.int .u16 p2) := by simp [World.cell?, B.out]
  have c8 : v0.cell? ⟨g, 8, none⟩ = some (.int .u32 b2) := by simp [World.cell?, B.out]
  have c9 : v0.cell? ⟨g, 9, none⟩ = some (.int .u16 q2) := by simp [World.cell?, B.out]
  have c10 : v0.cell? ⟨g, 10, none⟩ = some (.int .i64 st) := by simp [World.cell?, B.out]
  have c11 : v0.cell? ⟨g, 11, none⟩ = some (.int .i64 dl) := by simp [World.cell?, B.out]
  have c12 : v0.cell? ⟨g, 12, none⟩ = some (.slice o n c) := by simp [World.cell?, B.out]
  go_wp2_with fail
  clear c0 c1 c2 c3 c4 c5 c6 c7 c8 c9 c10 c11 c12
  refine (K2.out _).mono ?_
  rintro e v1 ⟨rfl, hp⟩
  have Hm1 := Lib.hid (Hm0.out.trans hp (fun _ _ h => h))
  have hb := (hp.block _ (Array.getElem?_eq_some_iff.1 B.out).1 id).trans B.out
  clear B hp Hm0
  have B := Lib.hid hb
  clear hb
  have c0 : v1.cell? ⟨g, 0, none⟩ = some (.int .u8 r) := by simp [World.cell?, B.out]
  have c1 : v1.cell? ⟨g, 1, none⟩ = some (.int .u32 a) := by simp [World.cell?, B.out]
  have c2 : v1.cell? ⟨g, 2, none⟩ = some (.int .u16 p) := by simp [World.cell?, B.out]
  have c3 : v1.cell? ⟨g, 3, none⟩ = some (.int .u32 b) := by simp [World.cell?, B.out]
  have c4 : v1.cell? ⟨g, 4, none⟩ = some (.int .u16 q) := by simp [World.cell?, B.out]
  have c5 : v1.cell? ⟨g, 5, none⟩ = some (.int .u8 r2) := by simp [World.cell?, B.out]
  have c6 : v1.cell? ⟨g, 6, none⟩ = some (.int .u32 a2) := by simp [World.cell?, B.out]
  have c7 : v1.cell? ⟨g, 7, none⟩ = some (.int .u16 p2) := by simp [World.cell?, B.out]
  have c8 : v1.cell? ⟨g, 8, none⟩ = some (.int .u32 b2) := by simp [World.cell?, B.out]
  have c9 : v1.cell? ⟨g, 9, none⟩ = some (.int .u16 q2) := by simp [World.cell?, B.out]
  have c10 : v1.cell? ⟨g, 10, none⟩ = some (.int .i64 st) := by simp [World.cell?, B.out]
  have c11 : v1.cell? ⟨g, 11, none⟩ = some (.int .i64 dl) := by simp [World.cell?, B.out]
  have c12 : v1.cell? ⟨g, 12, none⟩ = some (.slice o n c) := by simp [World.cell?, B.out]
  go_wp2_with fail
  go_quiet ((first | (go_at_call 73; exact Calls.quiet_of_same (K3.out _)) | (go_at_call 72; exact Calls.quiet_of_same (K4.out _))))
  go_wp2_with fail
  go_ret
  exact ⟨rfl, Hm1.out.drewN _⟩

set_option maxHeartbeats 2000000 in
set_option maxRecDepth 100000 in
theorem rmay_bad (r a p b q r2 a2 p2 b2 q2 : Nat) (st dl : Int) (o : Option Addr) (n c : Nat) (w : World) (h1 : tupB r p q = true) (h2 : tupB r2 p2 q2 = true) (hne : decide (r = r2 ∧ a = a2 ∧ p = p2 ∧ b = b2 ∧ q = q2) = false) (hpr : r = r2) (h4 : (toN (flowN r) st == 0) = false) (hd : decide (0 ≤ dl) = true) (hd2 : decide (dl ≤ 1099511635216) = true) (hl : ((n : Int) == 1) = false) (hl2 : ((n : Int) == 2) = false) :
    Calls Tryz.prog 48 #[.agg #[.int .u8 r, .int .u32 a, .int .u16 p, .int .u32 b, .int .u16 q, .int .u8 r2, .int .u32 a2, .int .u16 p2, .int .u32 b2, .int .u16 q2, .int .i64 st, .int .i64 dl, .slice o n c]] w (Ret1 (.bool false) w) := by
  have k1 := fun W => rmay8_ok r a p b q W
  have k2 := fun W => rmay8_ok r2 a2 p2 b2 q2 W
  have k3 := fun W => rflow_ok r W
  have k4 := fun W => rtimeout_ok (flowN r) (flowN_lt r) st W
  rw [h1] at k1
  rw [h2] at k2
  have heq := fun W => tup_eq2 r a p b q r2 a2 p2 b2 q2 W
  rw [hne] at heq
  clear hne
  have hp2 : ((r : Int) != (r2 : Int)) = false := by rw [hpr]; simp
  clear hpr
  generalize toN (flowN r) st = tm at *
  have K1 := Lib.hid k1
  have K2 := Lib.hid k2
  have K3 := Lib.hid k3
  have K4 := Lib.hid k4
  clear k1 k2 k3 k4
  go_enter Tryz.func48, Tryz.ntmps48
  go_wp2_with fail
  have hn0 : NoW w (w.alloc (.cells #[.int .u8 r, .int .u32 a, .int .u16 p, .int .u32 b, .int .u16 q, .int .u8 r2, .int .u32 a2, .int .u16 p2, .int .u32 b2, .int .u16 q2, .int .i64 st, .int .i64 dl, .slice o n c] 69)) := (Fp.refl _ _).alloc _
  have hb0 := heap_alloc_new w (.cells #[.int .u8 r, .int .u32 a, .int .u16 p, .int .u32 b, .int .u16 q, .int .u8 r2, .int .u32 a2, .int .u16 p2, .int .u32 b2, .int .u16 q2, .int .i64 st, .int .i64 dl, .slice o n c] 69)
  generalize w.alloc (.cells #[.int .u8 r, .int .u32 a, .int .u16 p, .int .u32 b, .int .u16 q, .int .u8 r2, .int .u32 a2, .int .u16 p2, .int .u32 b2, .int .u16 q2, .int .i64 st, .int .i64 dl, .slice o n c] 69) = w0 at *
  generalize w.heap.size = g at *
  have Hn0 := Lib.hid hn0
  have B := Lib.hid hb0
  clear hn0 hb0
  refine (K1.out _).mono ?_
  rintro e v0 ⟨rfl, hp⟩
  have Hm0 := Lib.hid (Hn0.out.trans hp (fun _ _ h => h))
  have hb := (hp.block _ (Array.getElem?_eq_some_iff.1 B.out).1 id).trans B.out
  clear B hp Hn0
  have B := Lib.hid hb
  clear hb
  have c0 : v0.cell? ⟨g, 0, none⟩ = some (.int .u8 r) := by simp [World.cell?, B.out]
  have c1 : v0.cell? ⟨g, 1, none⟩ = some (.int .u32 a) := by simp [World.cell?, B.out]
  have c2 : v0.cell? ⟨g, 2, none⟩ = some (.int .u16 p) := by simp [World.cell?, B.out]
  have c3 : v0.cell? ⟨g, 3, none⟩ = some (.int .u32 b) := by simp [World.cell?, B.out]
  have c4 : v0.cell? ⟨g, 4, none⟩ = some (.int .u16 q) := by simp [World.cell?, B.out]
  have c5 : v0.cell? ⟨g, 5, none⟩ = some (.int .u8 r2) := by simp [World.cell?, B.out]
  have c6 : v0.cell? ⟨g, 6, none⟩ = some (.int .u32 a2) := by simp [World.cell?, B.out]
  have c7 : v0.cell? ⟨g, 7, none⟩ = some (.int .u16 p2) := by simp [World.cell?, B.out]
  have c8 : v0.cell? ⟨g, 8, none⟩ = some (.int .u32 b2) := by simp [World.cell?, B.out]
  have c9 : v0.cell? ⟨g, 9, none⟩ = some (.int .u16 q2) := by simp [World.cell?, B.out]
  have c10 : v0.cell? ⟨g, 10, none⟩ = some (.int .i64 st) := by simp [World.cell?, B.out]
  have c11 : v0.cell? ⟨g, 11, none⟩ = some (.int .i64 dl) := by simp [World.cell?, B.out]
  have c12 : v0.cell? ⟨g, 12, none⟩ = some (.slice o n c) := by simp [World.cell?, B.out]
  go_wp2_with fail
  clear c0 c1 c2 c3 c4 c5 c6 c7 c8 c9 c10 c11 c12
  refine (K2.out _).mono ?_
  rintro e v1 ⟨rfl, hp⟩
  have Hm1 := Lib.hid (Hm0.out.trans hp (fun _ _ h => h))
  have hb := (hp.block _ (Array.getElem?_eq_some_iff.1 B.out).1 id).trans B.out
  clear B hp Hm0
  have B := Lib.hid hb
  clear hb
  have c0 : v1.cell? ⟨g, 0, none⟩ = some (.int .u8 r) := by simp [World.cell?, B.out]
  have c1 : v1.cell? ⟨g, 1, none⟩ = some (.int .u32 a) := by simp [World.cell?, B.out]
  have c2 : v1.cell? ⟨g, 2, none⟩ = some (.int .u16 p) := by simp [World.cell?, B.out]
  have c3 : v1.cell? ⟨g, 3, none⟩ = some (.int .u32 b) := by simp [World.cell?, B.out]
  have c4 : v1.cell? ⟨g, 4, none⟩ = some (.int .u16 q) := by simp [World.cell?, B.out]
  have c5 : v1.cell? ⟨g, 5, none⟩ = some (.int .u8 r2) := by simp [World.cell?, B.out]
  have c6 : v1.cell? ⟨g, 6, none⟩ = some (.int .u32 a2) := by simp [World.cell?, B.out]
  have c7 : v1.cell? ⟨g, 7, none⟩ = some (.int .u16 p2) := by simp [World.cell?, B.out]
  have c8 : v1.cell? ⟨g, 8, none⟩ = some (.int .u32 b2) := by simp [World.cell?, B.out]
  have c9 : v1.cell? ⟨g, 9, none⟩ = some (.int .u16 q2) := by simp [World.cell?, B.out]
  have c10 : v1.cell? ⟨g, 10, none⟩ = some (.int .i64 st) := by simp [World.cell?, B.out]
  have c11 : v1.cell? ⟨g, 11, none⟩ = some (.int .i64 dl) := by simp [World.cell?, B.out]
  have c12 : v1.cell? ⟨g, 12, none⟩ = some (.slice o n c) := by simp [World.cell?, B.out]
  go_wp2_with fail
  go_quiet ((first | (go_at_call 73; exact Calls.quiet_of_same (K3.out _)) | (go_at_call 72; exact Calls.quiet_of_same (K4.out _))))
  go_wp2_with fail
  go_ret
  exact ⟨rfl, Hm1.out.drewN _⟩

theorem rmay18_ok (r a p b q r2 a2 p2 b2 q2 : Nat) (st dl : Int) (o : Option Addr) (n c : Nat) (w : World) :
    Calls Tryz.prog 48 #[.agg #[.int .u8 r, .int .u32 a, .int .u16 p, .int .u32 b, .int .u16 q, .int .u8 r2, .int .u32 a2, .int .u16 p2, .int .u32 b2, .int .u16 q2, .int .i64 st, .int .i64 dl, .slice o n c]] w (Ret1 (.bool (chkB r p q r2 p2 q2 (decide (r = r2 ∧ a = a2 ∧ p = p2 ∧ b = b2 ∧ q = q2)) st dl n)) w) := by
  unfold chkB
  rcases h1 : tupB r p q with _ | _
  · simpa using rmay_t1 r a p b q r2 a2 p2 b2 q2 st dl o n c w h1
  rcases h2 : tupB r2 p2 q2 with _ | _
  · simpa using rmay_t2 r a p b q r2 a2 p2 b2 q2 st dl o n c w h1 h2
  rcases hne : decide (r = r2 ∧ a = a2 ∧ p = p2 ∧ b = b2 ∧ q = q2) with _ | _
  · by_cases hpr : r = r2
    · have hnn := toN_nonneg (flowN r) (flowN_lt r) st
      rcases h4 : (toN (flowN r) st == 0) with _ | _
      · have hpos : 0 < toN (flowN r) st := by have := beq_eq_false_iff_ne.1 h4; omega
        rw [decide_eq_true hpr, decide_eq_true hpos]
        rcases hd : decide (0 ≤ dl) with _ | _
        · rw [show decide (0 ≤ dl ∧ dl ≤ 1099511635216) = false from decide_eq_false (fun h => by have := of_decide_eq_false hd; omega)]
          exact rmay_low r a p b q r2 a2 p2 b2 q2 st dl o n c w h1 h2 hne hpr h4 hd
        · rcases hd2 : decide (dl ≤ 1099511635216) with _ | _
          · rw [show decide (0 ≤ dl ∧ dl ≤ 1099511635216) = false from decide_eq_false (fun h => by have := of_decide_eq_false hd2; omega)]
            exact rmay_high r a p b q r2 a2 p2 b2 q2 st dl o n c w h1 h2 hne hpr h4 hd hd2
          · rw [show decide (0 ≤ dl ∧ dl ≤ 1099511635216) = true from decide_eq_true ⟨of_decide_eq_true hd, of_decide_eq_true hd2⟩]
            rcases hl : ((n : Int) == 1) with _ | _
            · have n1 := beq_eq_false_iff_ne.1 hl
              rcases hl2 : ((n : Int) == 2) with _ | _
              · have n2 := beq_eq_false_iff_ne.1 hl2
                rw [show decide (1 ≤ n ∧ n ≤ 2) = false from decide_eq_false (fun h => by omega)]
                exact rmay_bad r a p b q r2 a2 p2 b2 q2 st dl o n c w h1 h2 hne hpr h4 hd hd2 hl hl2
              · have n2 := beq_iff_eq.1 hl2
                rw [show decide (1 ≤ n ∧ n ≤ 2) = true from decide_eq_true (by omega)]
                exact rmay_two r a p b q r2 a2 p2 b2 q2 st dl o n c w h1 h2 hne hpr h4 hd hd2 hl hl2
            · have n1 := beq_iff_eq.1 hl
              rw [show decide (1 ≤ n ∧ n ≤ 2) = true from decide_eq_true (by omega)]
              exact rmay_one r a p b q r2 a2 p2 b2 q2 st dl o n c w h1 h2 hne hpr h4 hd hd2 hl
      · have hz := beq_iff_eq.1 h4
        rw [show decide (0 < toN (flowN r) st) = false from decide_eq_false (by omega), decide_eq_true hpr]
        exact rmay_track r a p b q r2 a2 p2 b2 q2 st dl o n c w h1 h2 hne hpr h4
    · rw [decide_eq_false hpr]
      exact rmay_proto r a p b q r2 a2 p2 b2 q2 st dl o n c w h1 h2 hne hpr
  · simpa using rmay_same r a p b q r2 a2 p2 b2 q2 st dl o n c w h1 h2 hne
end Go.Proofs.YtcimbbllefkdlaaGreatDoor
