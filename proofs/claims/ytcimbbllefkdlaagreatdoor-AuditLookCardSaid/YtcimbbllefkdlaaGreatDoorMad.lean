/- Texts of this proof, merged: EnD. -/
import Derived.Test.YtcimbbllefkdlaaGreatDoorMac
import Derived.Deep.RegionHeld3
import Derived.Test.YtcimbbllefkdlaaGreatDoorMaa
import Derived.Laws.StructEq
import Derived.Test.YtcimbbllefkdlaaGreatDoorMab
namespace Go.Proofs.YtcimbbllefkdlaaGreatDoor
set_option linter.unusedVariables false
set_option linter.unusedSimpArgs false
open Go.RowKit Go.Lib Go.Sort

def pt (a : Nat) : List (List UInt8) := [decDigits (a / 16777216), decDigits (a / 65536 % 256), decDigits (a / 256 % 256), decDigits (a % 256)]
theorem add_eq0 (b i : Nat) : (⟨b, 0, none⟩ : Addr).add i = ⟨b, i, none⟩ := by unfold Addr.add; split <;> simp_all

end Go.Proofs.YtcimbbllefkdlaaGreatDoor
namespace Go.Proofs.YtcimbbllefkdlaaGreatDoor
set_option linter.unusedVariables false
set_option linter.unusedSimpArgs false
open Go.RowKit Go.Lib Go.Sort
end Go.Proofs.YtcimbbllefkdlaaGreatDoor
namespace Go.Proofs.YtcimbbllefkdlaaGreatDoor
set_option linter.unusedVariables false
set_option linter.unusedSimpArgs false
open Go.RowKit Go.Lib Go.Sort
theorem box2 (w : World) (A B : Obj) : ((w.alloc A).alloc B).heap[w.heap.size]? = some A ∧ ((w.alloc A).alloc B).heap[w.heap.size + 1]? = some B := by
  refine ⟨?_, ?_⟩
  · exact (((Fp.refl (fun _ => False) (w.alloc A)).alloc B).block w.heap.size (by simp) id).trans (heap_alloc_new w A)
  · simpa using heap_alloc_new (w.alloc A) B

set_option maxHeartbeats 1000000 in
theorem live_ok (r a p b q r2 a2 p2 b2 q2 st dl : Int) (h : Value) (now : Int) (w : World) : Calls Tryz.prog 70 #[.agg #[.int .u8 r, .int .u32 a, .int .u16 p, .int .u32 b, .int .u16 q, .int .u8 r2, .int .u32 a2, .int .u16 p2, .int .u32 b2, .int .u16 q2, .int .i64 st, .int .i64 dl, h], .int .i64 now] w (Ret1 (.bool (decide (now < dl))) w) := by
  go_enter Tryz.func70, Tryz.ntmps70
  go_wp2_with fail
  go_ret
  exact ⟨rfl, (Fp.refl _ _).alloc _⟩

end Go.Proofs.YtcimbbllefkdlaaGreatDoor
namespace Go.Proofs.YtcimbbllefkdlaaGreatDoor
set_option linter.unusedVariables false
set_option linter.unusedSimpArgs false
open Go.RowKit Go.Lib Go.Sort

def flowN (k : Nat) : Nat := if k = 1 then 2 else if k = 6 then 3 else if k = 17 then 1 else 0
theorem flowN_lt (k : Nat) : flowN k < 4 := by unfold flowN; split <;> (try split) <;> (try split) <;> omega
/-- How long a state lasts, any numbers. -/
def toN (f : Nat) (s : Int) : Int := if 0 ≤ s ∧ s ≤ 7 then lastN f s.toNat else 0

set_option maxHeartbeats 1000000 in
set_option maxRecDepth 100000 in
theorem flow_ok (k : Nat) (w : World) : Calls Tryz.prog 68 #[.int .u8 k] w fun e w' => e = .returned (.int .i64 (flowN k : Nat)) ∧ w' = w := by
  by_cases h1 : k = 1
  · subst h1
    go_enter Tryz.func68, Tryz.ntmps68
    go_wp2_with fail
    go_ret
    exact ⟨rfl, rfl⟩
  · have e1 : ((k : Int) == 1) = false := beq_eq_false_iff_ne.2 (by omega)
    by_cases h6 : k = 6
    · subst h6
      go_enter Tryz.func68, Tryz.ntmps68
      go_wp2_with fail
      go_ret
      exact ⟨rfl, rfl⟩
    · have e6 : ((k : Int) == 6) = false := beq_eq_false_iff_ne.2 (by omega)
      by_cases h17 : k = 17
      · subst h17
        go_enter Tryz.func68, Tryz.ntmps68
        go_wp2_with fail
        go_ret
        exact ⟨rfl, rfl⟩
      · have e17 : ((k : Int) == 17) = false := beq_eq_false_iff_ne.2 (by omega)
        have hf : flowN k = 0 := by simp [flowN, h1, h6, h17]
        rw [hf]
        go_enter Tryz.func68, Tryz.ntmps68
        go_wp2_with fail
        go_ret
        exact ⟨rfl, rfl⟩

set_option maxHeartbeats 1000000 in
set_option maxRecDepth 100000 in
theorem timeout_ok (f : Nat) (hf : f < 4) (s : Int) (w : World) (ht : Tb w) : Calls Tryz.prog 89 #[.int .i64 f, .int .i64 s] w fun e w' => e = .returned (.int .i64 (toN f s)) ∧ w' = w := by
  have hlast := ht.lasts
  have Hlast := Lib.hid hlast
  clear hlast ht
  have hf0 : ¬ ((f : Int) < 0) := by omega
  have hf1 : decide ((4 : Int) ≤ (f : Int)) = false := by simp; omega
  by_cases h0 : s < 0
  · have ht : toN f s = 0 := by unfold toN; rw [if_neg (by omega)]
    rw [ht]
    have d0 : decide (s < 0) = true := by simpa using h0
    go_enter Tryz.func89, Tryz.ntmps89
    go_wp2_with fail
    go_ret
    exact ⟨rfl, rfl⟩
  · have d0 : decide (s < 0) = false := by simpa using h0
    by_cases h7 : s ≤ 7
    · have d7 : decide (7 < s) = false := by simpa using h7
      obtain ⟨n, rfl⟩ : ∃ n : Nat, s = n := ⟨s.toNat, by omega⟩
      have ht : toN f n = lastN f n := by unfold toN; rw [if_pos (by omega), Int.toNat_natCast]
      rw [ht]
      have hc : w.cell? ⟨1, f * 8 + n, none⟩ = some (.int .i64 (lastN f n)) := Hlast.out f n hf (by omega)
      have hn8 : n < 8 := by omega
      go_enter Tryz.func89, Tryz.ntmps89
      go_wp2_with fail
      go_ret
      exact ⟨rfl, rfl⟩
    · have d7 : decide (7 < s) = true := by simp; omega
      have ht : toN f s = 0 := by unfold toN; rw [if_neg (by omega)]
      rw [ht]
      go_enter Tryz.func89, Tryz.ntmps89
      go_wp2_with fail
      go_ret
      exact ⟨rfl, rfl⟩

theorem tmay_ok (f : Nat) (hf : f < 4) (s : Int) (w : World) (ht : Tb w) : Calls Tryz.prog 67 #[.int .i64 f, .int .i64 s] w fun e w' => e = .returned (.bool (decide (0 < toN f s))) ∧ w' = w := by
  have k := fun W hW => timeout_ok f hf s W hW
  have K := Lib.hid k
  have Ht := Lib.hid ht
  clear k ht
  go_enter Tryz.func67, Tryz.ntmps67
  go_wp2_with fail
  refine (K.out _ Ht.out).mono ?_
  rintro e w' ⟨rfl, rfl⟩
  go_wp2_with fail
  go_ret
  exact ⟨rfl, rfl⟩

/-- May a tuple be? -/
def tupB (k p q : Nat) : Bool := isWord k && (decide (k ≠ 1) || decide (p = 0) || decide (q = 0))
set_option maxHeartbeats 1000000 in
set_option maxRecDepth 100000 in
theorem tup_ok (k a p b q : Nat) (hk : k < 256) (w : World) (ht : Tb w) : Calls Tryz.prog 66 #[.agg #[.int .u8 k, .int .u32 a, .int .u16 p, .int .u32 b, .int .u16 q]] w (Ret1 (.bool (tupB k p q)) w) := by
  obtain ⟨bm, o, h1, h2, h3⟩ := ht.words
  have lg := cell_lt h1
  have hl := (h3 _ ((Fp.refl (fun _ => False) w).alloc (.cells #[.int .u8 k, .int .u32 a, .int .u16 p, .int .u32 b, .int .u16 q] 49) |>.block _ (Array.getElem?_eq_some_iff.1 h2).1 id |>.trans h2) k hk).1
  rcases hw : isWord k with _ | _
  · have e : tupB k p q = false := by simp [tupB, hw]
    rw [e]
    rw [hw] at hl
    have Hl := hl
    clear e h3 hw ht
    go_enter Tryz.func66, Tryz.ntmps66
    go_wp2_with fail
    go_ret
    exact ⟨rfl, (Fp.refl _ _).alloc _⟩
  · rw [hw] at hl
    clear h3 ht
    by_cases k1 : k = 1
    · have ek : ((k : Int) == 1) = true := by rw [k1]; rfl
      have ek2 : ((k : Int) != 1) = false := by rw [k1]; rfl
      by_cases p0 : p = 0
      · have ep : ((p : Int) == 0) = true := by rw [p0]; rfl
        rw [show tupB k p q = true by simp [tupB, hw, p0]]
        clear k1 p0
        go_enter Tryz.func66, Tryz.ntmps66
        go_wp2_with fail
        go_ret
        exact ⟨rfl, (Fp.refl _ _).alloc _⟩
      · have ep : ((p : Int) == 0) = false := beq_eq_false_iff_ne.2 (by omega)
        rw [show tupB k p q = decide (q = 0) by have := hw; rw [k1] at this; simp [tupB, this, p0, k1]]
        clear k1
        have eq : ((q : Int) == 0) = decide (q = 0) := by rw [Bool.eq_iff_iff]; simp
        go_enter Tryz.func66, Tryz.ntmps66
        go_wp2_with fail
        go_ret
        exact ⟨rfl, (Fp.refl _ _).alloc _⟩
    · have ek : ((k : Int) == 1) = false := beq_eq_false_iff_ne.2 (by omega)
      have ek2 : ((k : Int) != 1) = true := by simp; omega
      rw [show tupB k p q = true by simp [tupB, hw, k1]]
      go_enter Tryz.func66, Tryz.ntmps66
      go_wp2_with fail
      go_ret
      exact ⟨rfl, (Fp.refl _ _).alloc _⟩
end Go.Proofs.YtcimbbllefkdlaaGreatDoor
namespace Go.Proofs.YtcimbbllefkdlaaGreatDoor
set_option linter.unusedVariables false
set_option linter.unusedSimpArgs false
open Go.RowKit Go.Lib Go.Sort

/-- Two tuples, compared. -/
theorem tup_eql (r a p b q r2 a2 p2 b2 q2 : Nat) (W : World) : (binOp .eql 49 (.agg #[.int .u8 r2, .int .u32 a2, .int .u16 p2, .int .u32 b2, .int .u16 q2]) (.agg #[.int .u8 r, .int .u32 a, .int .u16 p, .int .u32 b, .int .u16 q])).run Tryz.prog W =
    .ok (.bool (decide (r2 = r ∧ a2 = a ∧ p2 = p ∧ b2 = b ∧ q2 = q))) W := by
  have beq : ∀ x y : Nat, x ≠ y → ((x : Int) == (y : Int)) = false := fun x y h => beq_eq_false_iff_ne.2 (by omega)
  by_cases h1 : r2 = r
  · subst h1
    by_cases h2 : a2 = a
    · subst h2
      by_cases h3 : p2 = p
      · subst h3
        by_cases h4 : b2 = b
        · subst h4
          by_cases h5 : q2 = q
          · subst h5; simp only [and_self, decide_true]; go_simp
          · have e := beq _ _ h5
            rw [decide_eq_false (by simp [h5])]; go_simp
        · have e := beq _ _ h4
          rw [decide_eq_false (by simp [h4])]; go_simp
      · have e := beq _ _ h3
        rw [decide_eq_false (by simp [h3])]; go_simp
    · have e := beq _ _ h2
      rw [decide_eq_false (by simp [h2])]; go_simp
  · have e := beq _ _ h1
    rw [decide_eq_false (by simp [h1])]; go_simp

/-- May an entry be? -/
def chkB (r p q r2 p2 q2 : Nat) (same : Bool) (st dl : Int) (n : Nat) : Bool :=
  tupB r p q && tupB r2 p2 q2 && !same && decide (r = r2) && decide (0 < toN (flowN r) st) && decide (0 ≤ dl ∧ dl ≤ 1099511635216) && decide (1 ≤ n ∧ n ≤ 2)

set_option maxHeartbeats 2000000 in
set_option maxRecDepth 100000 in
theorem check_t1 (r a p b q r2 a2 p2 b2 q2 : Nat) (st dl : Int) (o : Option Addr) (n c : Nat) (hr : r < 256) (hr2 : r2 < 256) (w : World) (ht : Tb w) (h1 : tupB r p q = false) :
    Calls Tryz.prog 39 #[.agg #[.int .u8 r, .int .u32 a, .int .u16 p, .int .u32 b, .int .u16 q, .int .u8 r2, .int .u32 a2, .int .u16 p2, .int .u32 b2, .int .u16 q2, .int .i64 st, .int .i64 dl, .slice o n c]] w (Ret1 (.int .i64 2) w) := by
  have k1 := fun W hW => tup_ok r a p b q hr W hW
  have k2 := fun W hW => tup_ok r2 a2 p2 b2 q2 hr2 W hW
  have k3 := fun W => flow_ok r W
  have k4 := fun W hW => tmay_ok (flowN r) (flowN_lt r) st W hW
  rw [h1] at k1
  have K1 := Lib.hid k1
  have K2 := Lib.hid k2
  have K3 := Lib.hid k3
  have K4 := Lib.hid k4
  have Ht := Lib.hid ht
  clear k1 k2 k3 k4 ht
  go_enter Tryz.func39, Tryz.ntmps39
  go_wp2_with fail
  have hn0 : NoW w (w.alloc (.cells #[.int .u8 r, .int .u32 a, .int .u16 p, .int .u32 b, .int .u16 q, .int .u8 r2, .int .u32 a2, .int .u16 p2, .int .u32 b2, .int .u16 q2, .int .i64 st, .int .i64 dl, .slice o n c] 52)) := (Fp.refl _ _).alloc _
  have hb0 := heap_alloc_new w (.cells #[.int .u8 r, .int .u32 a, .int .u16 p, .int .u32 b, .int .u16 q, .int .u8 r2, .int .u32 a2, .int .u16 p2, .int .u32 b2, .int .u16 q2, .int .i64 st, .int .i64 dl, .slice o n c] 52)
  generalize w.alloc (.cells #[.int .u8 r, .int .u32 a, .int .u16 p, .int .u32 b, .int .u16 q, .int .u8 r2, .int .u32 a2, .int .u16 p2, .int .u32 b2, .int .u16 q2, .int .i64 st, .int .i64 dl, .slice o n c] 52) = w0 at *
  generalize w.heap.size = g at *
  have Hn0 := Lib.hid hn0
  have B := Lib.hid hb0
  clear hn0 hb0
  refine (K1.out _ (Ht.out.low Hn0.out)).mono ?_
  rintro e v0 ⟨rfl, hp⟩
  have Hm0 := Lib.hid (Hn0.out.trans hp (fun _ _ h => h))
  have hb := (hp.block _ (Array.getElem?_eq_some_iff.1 B.out).1 id).trans B.out
  clear B hp Hn0
  have B := Lib.hid hb
  clear hb
  have c0 : v0.cell? ⟨g, 0, none⟩ = some (.int .u8 r) := by simp [World.cell?, B.out]
  have c1 : v0.cell? ⟨g, 1, none⟩ = some (.int .u32 a) := by simp [World.cell?, B.out]
  have c2 : v0.cell? ⟨g, 2, none⟩ = some (.int .u16 p) := by simp [World.cell?, B.out]
  have c3 : v0.cell? ⟨g, 3, none⟩ = some (.int .u32 b) := by simp [World.cell?, B.out]
  have c4 : v0.cell? ⟨g, 4, none⟩ = some (.int .u16 q) := by simp [World.cell?, B.out]
  have c5 : v0.cell? ⟨g, 5, none⟩ = some (.int .u8 r2) := by simp [World.cell?, B.out]
  have c6 : v0.cell? ⟨g, 6, none⟩ = some (.int .u32 a2) := by simp [World.cell?, B.out]
  have c7 : v0.cell? ⟨g, 7, none⟩ = some (.int .u16 p2) := by simp [World.cell?, B.out]
  have c8 : v0.cell? ⟨g, 8, none⟩ = some (.int .u32 b2) := by simp [World.cell?, B.out]
  have c9 : v0.cell? ⟨g, 9, none⟩ = some (.int .u16 q2) := by simp [World.cell?, B.out]
  have c10 : v0.cell? ⟨g, 10, none⟩ = some (.int .i64 st) := by simp [World.cell?, B.out]
  have c11 : v0.cell? ⟨g, 11, none⟩ = some (.int .i64 dl) := by simp [World.cell?, B.out]
  have c12 : v0.cell? ⟨g, 12, none⟩ = some (.slice o n c) := by simp [World.cell?, B.out]
  go_wp2_with fail
  go_ret
  exact ⟨rfl, Hm0.out⟩

set_option maxHeartbeats 2000000 in
set_option maxRecDepth 100000 in
theorem check_t2 (r a p b q r2 a2 p2 b2 q2 : Nat) (st dl : Int) (o : Option Addr) (n c : Nat) (hr : r < 256) (hr2 : r2 < 256) (w : World) (ht : Tb w) (h1 : tupB r p q = true) (h2 : tupB r2 p2 q2 = false) :
    Calls Tryz.prog 39 #[.agg #[.int .u8 r, .int .u32 a, .int .u16 p, .int .u32 b, .int .u16 q, .int .u8 r2, .int .u32 a2, .int .u16 p2, .int .u32 b2, .int .u16 q2, .int .i64 st, .int .i64 dl, .slice o n c]] w (Ret1 (.int .i64 2) w) := by
  have k1 := fun W hW => tup_ok r a p b q hr W hW
  have k2 := fun W hW => tup_ok r2 a2 p2 b2 q2 hr2 W hW
  have k3 := fun W => flow_ok r W
  have k4 := fun W hW => tmay_ok (flowN r) (flowN_lt r) st W hW
  rw [h1] at k1
  rw [h2] at k2
  have K1 := Lib.hid k1
  have K2 := Lib.hid k2
  have K3 := Lib.hid k3
  have K4 := Lib.hid k4
  have Ht := Lib.hid ht
  clear k1 k2 k3 k4 ht
  go_enter Tryz.func39, Tryz.ntmps39
  go_wp2_with fail
  have hn0 : NoW w (w.alloc (.cells #[.int .u8 r, .int .u32 a, .int .u16 p, .int .u32 b, .int .u16 q, .int .u8 r2, .int .u32 a2, .int .u16 p2, .int .u32 b2, .int .u16 q2, .int .i64 st, .int .i64 dl, .slice o n c] 52)) := (Fp.refl _ _).alloc _
  have hb0 := heap_alloc_new w (.cells #[.int .u8 r, .int .u32 a, .int .u16 p, .int .u32 b, .int .u16 q, .int .u8 r2, .int .u32 a2, .int .u16 p2, .int .u32 b2, .int .u16 q2, .int .i64 st, .int .i64 dl, .slice o n c] 52)
  generalize w.alloc (.cells #[.int .u8 r, .int .u32 a, .int .u16 p, .int .u32 b, .int .u16 q, .int .u8 r2, .int .u32 a2, .int .u16 p2, .int .u32 b2, .int .u16 q2, .int .i64 st, .int .i64 dl, .slice o n c] 52) = w0 at *
  generalize w.heap.size = g at *
  have Hn0 := Lib.hid hn0
  have B := Lib.hid hb0
  clear hn0 hb0
  refine (K1.out _ (Ht.out.low Hn0.out)).mono ?_
  rintro e v0 ⟨rfl, hp⟩
  have Hm0 := Lib.hid (Hn0.out.trans hp (fun _ _ h => h))
  have hb := (hp.block _ (Array.getElem?_eq_some_iff.1 B.out).1 id).trans B.out
  clear B hp Hn0
  have B := Lib.hid hb
  clear hb
  have c0 : v0.cell? ⟨g, 0, none⟩ = some (.int .u8 r) := by simp [World.cell?, B.out]
  have c1 : v0.cell? ⟨g, 1, none⟩ = some (.int .u32 a) := by simp [World.cell?, B.out]
  have c2 : v0.cell? ⟨g, 2, none⟩ = some (.int .u16 p) := by simp [World.cell?, B.out]
  have c3 : v0.cell? ⟨g, 3, none⟩ = some (.int .u32 b) := by simp [World.cell?, B.out]
  have c4 : v0.cell? ⟨g, 4, none⟩ = some (.int .u16 q) := by simp [World.cell?, B.out]
  have c5 : v0.cell? ⟨g, 5, none⟩ = some (.int .u8 r2) := by simp [World.cell?, B.out]
  have c6 : v0.cell? ⟨g, 6, none⟩ = some (.int .u32 a2) := by simp [World.cell?, B.out]
  have c7 : v0.cell? ⟨g, 7, none⟩ = some (.int .u16 p2) := by simp [World.cell?, B.out]
  have c8 : v0.cell? ⟨g, 8, none⟩ = some (.int .u32 b2) := by simp [World.cell?, B.out]
  have c9 : v0.cell? ⟨g, 9, none⟩ = some (.int .u16 q2) := by simp [World.cell?, B.out]
  have c10 : v0.cell? ⟨g, 10, none⟩ = some (.int .i64 st) := by simp [World.cell?, B.out]
  have c11 : v0.cell? ⟨g, 11, none⟩ = some (.int .i64 dl) := by simp [World.cell?, B.out]
  have c12 : v0.cell? ⟨g, 12, none⟩ = some (.slice o n c) := by simp [World.cell?, B.out]
  go_wp2_with fail
  clear c0 c1 c2 c3 c4 c5 c6 c7 c8 c9 c10 c11 c12
  refine (K2.out _ (Ht.out.low Hm0.out)).mono ?_
  rintro e v1 ⟨rfl, hp⟩
  have Hm1 := Lib.hid (Hm0.out.trans hp (fun _ _ h => h))
  have hb := (hp.block _ (Array.getElem?_eq_some_iff.1 B.out).1 id).trans B.out
  clear B hp Hm0
  have B := Lib.hid hb
  clear hb
  have c0 : v1.cell? ⟨g, 0, none⟩ = some (.int .u8 r) := by simp [World.cell?, B.out]
  have c1 : v1.cell? ⟨g, 1, none⟩ = some (.int .u32 a) := by simp [World.cell?, B.out]
  have c2 : v1.cell? ⟨g, 2, none⟩ = some (.int .u16 p) := by simp [World.cell?, B.out]
  have c3 : v1.cell? ⟨g, 3, none⟩ = some (.int .u32 b) := by simp [World.cell?, B.out]
  have c4 : v1.cell? ⟨g, 4, none⟩ = some (.int .u16 q) := by simp [World.cell?, B.out]
  have c5 : v1.cell? ⟨g, 5, none⟩ = some (.int .u8 r2) := by simp [World.cell?, B.out]
  have c6 : v1.cell? ⟨g, 6, none⟩ = some (.int .u32 a2) := by simp [World.cell?, B.out]
  have c7 : v1.cell? ⟨g, 7, none⟩ = some (.int .u16 p2) := by simp [World.cell?, B.out]
  have c8 : v1.cell? ⟨g, 8, none⟩ = some (.int .u32 b2) := by simp [World.cell?, B.out]
  have c9 : v1.cell? ⟨g, 9, none⟩ = some (.int .u16 q2) := by simp [World.cell?, B.out]
  have c10 : v1.cell? ⟨g, 10, none⟩ = some (.int .i64 st) := by simp [World.cell?, B.out]
  have c11 : v1.cell? ⟨g, 11, none⟩ = some (.int .i64 dl) := by simp [World.cell?, B.out]
  have c12 : v1.cell? ⟨g, 12, none⟩ = some (.slice o n c) := by simp [World.cell?, B.out]
  go_wp2_with fail
  go_ret
  exact ⟨rfl, Hm1.out⟩

set_option maxHeartbeats 2000000 in
set_option maxRecDepth 100000 in
theorem check_same (r a p b q r2 a2 p2 b2 q2 : Nat) (st dl : Int) (o : Option Addr) (n c : Nat) (hr : r < 256) (hr2 : r2 < 256) (w : World) (ht : Tb w) (h1 : tupB r p q = true) (h2 : tupB r2 p2 q2 = true) (hne : decide (r = r2 ∧ a = a2 ∧ p = p2 ∧ b = b2 ∧ q = q2) = true) :
    Calls Tryz.prog 39 #[.agg #[.int .u8 r, .int .u32 a, .int .u16 p, .int .u32 b, .int .u16 q, .int .u8 r2, .int .u32 a2, .int .u16 p2, .int .u32 b2, .int .u16 q2, .int .i64 st, .int .i64 dl, .slice o n c]] w (Ret1 (.int .i64 2) w) := by
  have k1 := fun W hW => tup_ok r a p b q hr W hW
  have k2 := fun W hW => tup_ok r2 a2 p2 b2 q2 hr2 W hW
  have k3 := fun W => flow_ok r W
  have k4 := fun W hW => tmay_ok (flowN r) (flowN_lt r) st W hW
  rw [h1] at k1
  rw [h2] at k2
  have heq := fun W => tup_eql r2 a2 p2 b2 q2 r a p b q W
  rw [hne] at heq
  clear hne
  have K1 := Lib.hid k1
  have K2 := Lib.hid k2
  have K3 := Lib.hid k3
  have K4 := Lib.hid k4
  have Ht := Lib.hid ht
  clear k1 k2 k3 k4 ht
  go_enter Tryz.func39, Tryz.ntmps39
  go_wp2_with fail
  have hn0 : NoW w (w.alloc (.cells #[.int .u8 r, .int .u32 a, .int .u16 p, .int .u32 b, .int .u16 q, .int .u8 r2, .int .u32 a2, .int .u16 p2, .int .u32 b2, .int .u16 q2, .int .i64 st, .int .i64 dl, .slice o n c] 52)) := (Fp.refl _ _).alloc _
  have hb0 := heap_alloc_new w (.cells #[.int .u8 r, .int .u32 a, .int .u16 p, .int .u32 b, .int .u16 q, .int .u8 r2, .int .u32 a2, .int .u16 p2, .int .u32 b2, .int .u16 q2, .int .i64 st, .int .i64 dl, .slice o n c] 52)
  generalize w.alloc (.cells #[.int .u8 r, .int .u32 a, .int .u16 p, .int .u32 b, .int .u16 q, .int .u8 r2, .int .u32 a2, .int .u16 p2, .int .u32 b2, .int .u16 q2, .int .i64 st, .int .i64 dl, .slice o n c] 52) = w0 at *
  generalize w.heap.size = g at *
  have Hn0 := Lib.hid hn0
  have B := Lib.hid hb0
  clear hn0 hb0
  refine (K1.out _ (Ht.out.low Hn0.out)).mono ?_
  rintro e v0 ⟨rfl, hp⟩
  have Hm0 := Lib.hid (Hn0.out.trans hp (fun _ _ h => h))
  have hb := (hp.block _ (Array.getElem?_eq_some_iff.1 B.out).1 id).trans B.out
  clear B hp Hn0
  have B := Lib.hid hb
  clear hb
  have c0 : v0.cell? ⟨g, 0, none⟩ = some (.int .u8 r) := by simp [World.cell?, B.out]
  have c1 : v0.cell? ⟨g, 1, none⟩ = some (.int .u32 a) := by simp [World.cell?, B.out]
  have c2 : v0.cell? ⟨g, 2, none⟩ = some (.int .u16 p) := by simp [World.cell?, B.out]
  have c3 : v0.cell? ⟨g, 3, none⟩ = some (.int .u32 b) := by simp [World.cell?, B.out]
  have c4 : v0.cell? ⟨g, 4, none⟩ = some (.int .u16 q) := by simp [World.cell?, B.out]
  have c5 : v0.cell? ⟨g, 5, none⟩ = some (.int .u8 r2) := by simp [World.cell?, B.out]
  have c6 : v0.cell? ⟨g, 6, none⟩ = some (.int .u32 a2) := by simp [World.cell?, B.out]
  have c7 : v0.cell? ⟨g, 7, none⟩ = some (.int .u16 p2) := by simp [World.cell?, B.out]
  have c8 : v0.cell? ⟨g, 8, none⟩ = some (.int .u32 b2) := by simp [World.cell?, B.out]
  have c9 : v0.cell? ⟨g, 9, none⟩ = some (.int .u16 q2) := by simp [World.cell?, B.out]
  have c10 : v0.cell? ⟨g, 10, none⟩ = some (.int .i64 st) := by simp [World.cell?, B.out]
  have c11 : v0.cell? ⟨g, 11, none⟩ = some (.int .i64 dl) := by simp [World.cell?, B.out]
  have c12 : v0.cell? ⟨g, 12, none⟩ = some (.slice o n c) := by simp [World.cell?, B.out]
  go_wp2_with fail
  clear c0 c1 c2 c3 c4 c5 c6 c7 c8 c9 c10 c11 c12
  refine (K2.out _ (Ht.out.low Hm0.out)).mono ?_
  rintro e v1 ⟨rfl, hp⟩
  have Hm1 := Lib.hid (Hm0.out.trans hp (fun _ _ h => h))
  have hb := (hp.block _ (Array.getElem?_eq_some_iff.1 B.out).1 id).trans B.out
  clear B hp Hm0
  have B := Lib.hid hb
  clear hb
  have c0 : v1.cell? ⟨g, 0, none⟩ = some (.int .u8 r) := by simp [World.cell?, B.out]
  have c1 : v1.cell? ⟨g, 1, none⟩ = some (.int .u32 a) := by simp [World.cell?, B.out]
  have c2 : v1.cell? ⟨g, 2, none⟩ = some (.int .u16 p) := by simp [World.cell?, B.out]
  have c3 : v1.cell? ⟨g, 3, none⟩ = some (.int .u32 b) := by simp [World.cell?, B.out]
  have c4 : v1.cell? ⟨g, 4, none⟩ = some (.int .u16 q) := by simp [World.cell?, B.out]
  have c5 : v1.cell? ⟨g, 5, none⟩ = some (.int .u8 r2) := by simp [World.cell?, B.out]
  have c6 : v1.cell? ⟨g, 6, none⟩ = some (.int .u32 a2) := by simp [World.cell?, B.out]
  have c7 : v1.cell? ⟨g, 7, none⟩ = some (.int .u16 p2) := by simp [World.cell?, B.out]
  have c8 : v1.cell? ⟨g, 8, none⟩ = some (.int .u32 b2) := by simp [World.cell?, B.out]
  have c9 : v1.cell? ⟨g, 9, none⟩ = some (.int .u16 q2) := by simp [World.cell?, B.out]
  have c10 : v1.cell? ⟨g, 10, none⟩ = some (.int .i64 st) := by simp [World.cell?, B.out]
  have c11 : v1.cell? ⟨g, 11, none⟩ = some (.int .i64 dl) := by simp [World.cell?, B.out]
  have c12 : v1.cell? ⟨g, 12, none⟩ = some (.slice o n c) := by simp [World.cell?, B.out]
  go_wp2_with fail
  go_ret
  exact ⟨rfl, Hm1.out⟩

set_option maxHeartbeats 2000000 in
set_option maxRecDepth 100000 in
theorem check_proto (r a p b q r2 a2 p2 b2 q2 : Nat) (st dl : Int) (o : Option Addr) (n c : Nat) (hr : r < 256) (hr2 : r2 < 256) (w : World) (ht : Tb w) (h1 : tupB r p q = true) (h2 : tupB r2 p2 q2 = true) (hne : decide (r = r2 ∧ a = a2 ∧ p = p2 ∧ b = b2 ∧ q = q2) = false) (hpr : r ≠ r2) :
    Calls Tryz.prog 39 #[.agg #[.int .u8 r, .int .u32 a, .int .u16 p, .int .u32 b, .int .u16 q, .int .u8 r2, .int .u32 a2, .int .u16 p2, .int .u32 b2, .int .u16 q2, .int .i64 st, .int .i64 dl, .slice o n c]] w (Ret1 (.int .i64 2) w) := by
  have k1 := fun W hW => tup_ok r a p b q hr W hW
  have k2 := fun W hW => tup_ok r2 a2 p2 b2 q2 hr2 W hW
  have k3 := fun W => flow_ok r W
  have k4 := fun W hW => tmay_ok (flowN r) (flowN_lt r) st W hW
  rw [h1] at k1
  rw [h2] at k2
  have heq := fun W => tup_eql r2 a2 p2 b2 q2 r a p b q W
  rw [hne] at heq
  clear hne
  have hp1 : ((r : Int) == (r2 : Int)) = false := beq_eq_false_iff_ne.2 (by omega)
  have hp2 : ((r : Int) != (r2 : Int)) = true := by simp; omega
  clear hpr
  have K1 := Lib.hid k1
  have K2 := Lib.hid k2
  have K3 := Lib.hid k3
  have K4 := Lib.hid k4
  have Ht := Lib.hid ht
  clear k1 k2 k3 k4 ht
  go_enter Tryz.func39, Tryz.ntmps39
  go_wp2_with fail
  have hn0 : NoW w (w.alloc (.cells #[.int .u8 r, .int .u32 a, .int .u16 p, .int .u32 b, .int .u16 q, .int .u8 r2, .int .u32 a2, .int .u16 p2, .int .u32 b2, .int .u16 q2, .int .i64 st, .int .i64 dl, .slice o n c] 52)) := (Fp.refl _ _).alloc _
  have hb0 := heap_alloc_new w (.cells #[.int .u8 r, .int .u32 a, .int .u16 p, .int .u32 b, .int .u16 q, .int .u8 r2, .int .u32 a2, .int .u16 p2, .int .u32 b2, .int .u16 q2, .int .i64 st, .int .i64 dl, .slice o n c] 52)
  generalize w.alloc (.cells #[.int .u8 r, .int .u32 a, .int .u16 p, .int .u32 b, .int .u16 q, .int .u8 r2, .int .u32 a2, .int .u16 p2, .int .u32 b2, .int .u16 q2, .int .i64 st, .int .i64 dl, .slice o n c] 52) = w0 at *
  generalize w.heap.size = g at *
  have Hn0 := Lib.hid hn0
  have B := Lib.hid hb0
  clear hn0 hb0
  refine (K1.out _ (Ht.out.low Hn0.out)).mono ?_
  rintro e v0 ⟨rfl, hp⟩
  have Hm0 := Lib.hid (Hn0.out.trans hp (fun _ _ h => h))
  have hb := (hp.block _ (Array.getElem?_eq_some_iff.1 B.out).1 id).trans B.out
  clear B hp Hn0
  have B := Lib.hid hb
  clear hb
  have c0 : v0.cell? ⟨g, 0, none⟩ = some (.int .u8 r) := by simp [World.cell?, B.out]
  have c1 : v0.cell? ⟨g, 1, none⟩ = some (.int .u32 a) := by simp [World.cell?, B.out]
  have c2 : v0.cell? ⟨g, 2, none⟩ = some (.int .u16 p) := by simp [World.cell?, B.out]
  have c3 : v0.cell? ⟨g, 3, none⟩ = some (.int .u32 b) := by simp [World.cell?, B.out]
  have c4 : v0.cell? ⟨g, 4, none⟩ = some (.int .u16 q) := by simp [World.cell?, B.out]
  have c5 : v0.cell? ⟨g, 5, none⟩ = some (.int .u8 r2) := by simp [World.cell?, B.out]
  have c6 : v0.cell? ⟨g, 6, none⟩ = some (.int .u32 a2) := by simp [World.cell?, B.out]
  have c7 : v0.cell? ⟨g, 7, none⟩ = some (.int .u16 p2) := by simp [World.cell?, B.out]
  have c8 : v0.cell? ⟨g, 8, none⟩ = some (.int .u32 b2) := by simp [World.cell?, B.out]
  have c9 : v0.cell? ⟨g, 9, none⟩ = some (.int .u16 q2) := by simp [World.cell?, B.out]
  have c10 : v0.cell? ⟨g, 10, none⟩ = some (.int .i64 st) := by simp [World.cell?, B.out]
  have c11 : v0.cell? ⟨g, 11, none⟩ = some (.int .i64 dl) := by simp [World.cell?, B.out]
  have c12 : v0.cell? ⟨g, 12, none⟩ = some (.slice o n c) := by simp [World.cell?, B.out]
  go_wp2_with fail
  clear c0 c1 c2 c3 c4 c5 c6 c7 c8 c9 c10 c11 c12
  refine (K2.out _ (Ht.out.low Hm0.out)).mono ?_
  rintro e v1 ⟨rfl, hp⟩
  have Hm1 := Lib.hid (Hm0.out.trans hp (fun _ _ h => h))
  have hb := (hp.block _ (Array.getElem?_eq_some_iff.1 B.out).1 id).trans B.out
  clear B hp Hm0
  have B := Lib.hid hb
  clear hb
  have c0 : v1.cell? ⟨g, 0, none⟩ = some (.int .u8 r) := by simp [World.cell?, B.out]
  have c1 : v1.cell? ⟨g, 1, none⟩ = some (.int .u32 a) := by simp [World.cell?, B.out]
  have c2 : v1.cell? ⟨g, 2, none⟩ = some (.int .u16 p) := by simp [World.cell?, B.out]
  have c3 : v1.cell? ⟨g, 3, none⟩ = some (.int .u32 b) := by simp [World.cell?, B.out]
  have c4 : v1.cell? ⟨g, 4, none⟩ = some (.int .u16 q) := by simp [World.cell?, B.out]
  have c5 : v1.cell? ⟨g, 5, none⟩ = some (.int .u8 r2) := by simp [World.cell?, B.out]
  have c6 : v1.cell? ⟨g, 6, none⟩ = some (.int .u32 a2) := by simp [World.cell?, B.out]
  have c7 : v1.cell? ⟨g, 7, none⟩ = some (.int .u16 p2) := by simp [World.cell?, B.out]
  have c8 : v1.cell? ⟨g, 8, none⟩ = some (.int .u32 b2) := by simp [World.cell?, B.out]
  have c9 : v1.cell? ⟨g, 9, none⟩ = some (.int .u16 q2) := by simp [World.cell?, B.out]
  have c10 : v1.cell? ⟨g, 10, none⟩ = some (.int .i64 st) := by simp [World.cell?, B.out]
  have c11 : v1.cell? ⟨g, 11, none⟩ = some (.int .i64 dl) := by simp [World.cell?, B.out]
  have c12 : v1.cell? ⟨g, 12, none⟩ = some (.slice o n c) := by simp [World.cell?, B.out]
  go_wp2_with fail
  go_ret
  exact ⟨rfl, Hm1.out⟩

set_option maxHeartbeats 2000000 in
set_option maxRecDepth 100000 in
theorem check_track (r a p b q r2 a2 p2 b2 q2 : Nat) (st dl : Int) (o : Option Addr) (n c : Nat) (hr : r < 256) (hr2 : r2 < 256) (w : World) (ht : Tb w) (h1 : tupB r p q = true) (h2 : tupB r2 p2 q2 = true) (hne : decide (r = r2 ∧ a = a2 ∧ p = p2 ∧ b = b2 ∧ q = q2) = false) (hpr : r = r2) (h4 : decide (0 < toN (flowN r) st) = false) :
    Calls Tryz.prog 39 #[.agg #[.int .u8 r, .int .u32 a, .int .u16 p, .int .u32 b, .int .u16 q, .int .u8 r2, .int .u32 a2, .int .u16 p2, .int .u32 b2, .int .u16 q2, .int .i64 st, .int .i64 dl, .slice o n c]] w (Ret1 (.int .i64 2) w) := by
  have k1 := fun W hW => tup_ok r a p b q hr W hW
  have k2 := fun W hW => tup_ok r2 a2 p2 b2 q2 hr2 W hW
  have k3 := fun W => flow_ok r W
  have k4 := fun W hW => tmay_ok (flowN r) (flowN_lt r) st W hW
  rw [h1] at k1
  rw [h2] at k2
  have heq := fun W => tup_eql r2 a2 p2 b2 q2 r a p b q W
  rw [hne] at heq
  clear hne
  have hp1 : ((r : Int) == (r2 : Int)) = true := by rw [hpr]; simp
  have hp2 : ((r : Int) != (r2 : Int)) = false := by rw [hpr]; simp
  clear hpr
  rw [h4] at k4
  clear h4
  have K1 := Lib.hid k1
  have K2 := Lib.hid k2
  have K3 := Lib.hid k3
  have K4 := Lib.hid k4
  have Ht := Lib.hid ht
  clear k1 k2 k3 k4 ht
  go_enter Tryz.func39, Tryz.ntmps39
  go_wp2_with fail
  have hn0 : NoW w (w.alloc (.cells #[.int .u8 r, .int .u32 a, .int .u16 p, .int .u32 b, .int .u16 q, .int .u8 r2, .int .u32 a2, .int .u16 p2, .int .u32 b2, .int .u16 q2, .int .i64 st, .int .i64 dl, .slice o n c] 52)) := (Fp.refl _ _).alloc _
  have hb0 := heap_alloc_new w (.cells #[.int .u8 r, .int .u32 a, .int .u16 p, .int .u32 b, .int .u16 q, .int .u8 r2, .int .u32 a2, .int .u16 p2, .int .u32 b2, .int .u16 q2, .int .i64 st, .int .i64 dl, .slice o n c] 52)
  generalize w.alloc (.cells #[.int .u8 r, .int .u32 a, .int .u16 p, .int .u32 b, .int .u16 q, .int .u8 r2, .int .u32 a2, .int .u16 p2, .int .u32 b2, .int .u16 q2, .int .i64 st, .int .i64 dl, .slice o n c] 52) = w0 at *
  generalize w.heap.size = g at *
  have Hn0 := Lib.hid hn0
  have B := Lib.hid hb0
  clear hn0 hb0
  refine (K1.out _ (Ht.out.low Hn0.out)).mono ?_
  rintro e v0 ⟨rfl, hp⟩
  have Hm0 := Lib.hid (Hn0.out.trans hp (fun _ _ h => h))
  have hb := (hp.block _ (Array.getElem?_eq_some_iff.1 B.out).1 id).trans B.out
  clear B hp Hn0
  have B := Lib.hid hb
  clear hb
  have c0 : v0.cell? ⟨g, 0, none⟩ = some (.int .u8 r) := by simp [World.cell?, B.out]
  have c1 : v0.cell? ⟨g, 1, none⟩ = some (.int .u32 a) := by simp [World.cell?, B.out]
  have c2 : v0.cell? ⟨g, 2, none⟩ = some (.int .u16 p) := by simp [World.cell?, B.out]
  have c3 : v0.cell? ⟨g, 3, none⟩ = some (.int .u32 b) := by simp [World.cell?, B.out]
  have c4 : v0.cell? ⟨g, 4, none⟩ = some (.int .u16 q) := by simp [World.cell?, B.out]
  have c5 : v0.cell? ⟨g, 5, none⟩ = some (.int .u8 r2) := by simp [World.cell?, B.out]
  have c6 : v0.cell? ⟨g, 6, none⟩ = some (.int .u32 a2) := by simp [World.cell?, B.out]
  have c7 : v0.cell? ⟨g, 7, none⟩ = some (.int .u16 p2) := by simp [World.cell?, B.out]
  have c8 : v0.cell? ⟨g, 8, none⟩ = some (.int .u32 b2) := by simp [World.cell?, B.out]
  have c9 : v0.cell? ⟨g, 9, none⟩ = some (.int .u16 q2) := by simp [World.cell?, B.out]
  have c10 : v0.cell? ⟨g, 10, none⟩ = some (.int .i64 st) := by simp [World.cell?, B.out]
  have c11 : v0.cell? ⟨g, 11, none⟩ = some (.int .i64 dl) := by simp [World.cell?, B.out]
  have c12 : v0.cell? ⟨g, 12, none⟩ = some (.slice o n c) := by simp [World.cell?, B.out]
  go_wp2_with fail
  clear c0 c1 c2 c3 c4 c5 c6 c7 c8 c9 c10 c11 c12
  refine (K2.out _ (Ht.out.low Hm0.out)).mono ?_
  rintro e v1 ⟨rfl, hp⟩
  have Hm1 := Lib.hid (Hm0.out.trans hp (fun _ _ h => h))
  have hb := (hp.block _ (Array.getElem?_eq_some_iff.1 B.out).1 id).trans B.out
  clear B hp Hm0
  have B := Lib.hid hb
  clear hb
  have c0 : v1.cell? ⟨g, 0, none⟩ = some (.int .u8 r) := by simp [World.cell?, B.out]
  have c1 : v1.cell? ⟨g, 1, none⟩ = some (.int .u32 a) := by simp [World.cell?, B.out]
  have c2 : v1.cell? ⟨g, 2, none⟩ = some (.int .u16 p) := by simp [World.cell?, B.out]
  have c3 : v1.cell? ⟨g, 3, none⟩ = some (.int .u32 b) := by simp [World.cell?, B.out]
  have c4 : v1.cell? ⟨g, 4, none⟩ = some (.int .u16 q) := by simp [World.cell?, B.out]
  have c5 : v1.cell? ⟨g, 5, none⟩ = some (.int .u8 r2) := by simp [World.cell?, B.out]
  have c6 : v1.cell? ⟨g, 6, none⟩ = some (.int .u32 a2) := by simp [World.cell?, B.out]
  have c7 : v1.cell? ⟨g, 7, none⟩ = some (.int .u16 p2) := by simp [World.cell?, B.out]
  have c8 : v1.cell? ⟨g, 8, none⟩ = some (.int .u32 b2) := by simp [World.cell?, B.out]
  have c9 : v1.cell? ⟨g, 9, none⟩ = some (.int .u16 q2) := by simp [World.cell?, B.out]
  have c10 : v1.cell? ⟨g, 10, none⟩ = some (.int .i64 st) := by simp [World.cell?, B.out]
  have c11 : v1.cell? ⟨g, 11, none⟩ = some (.int .i64 dl) := by simp [World.cell?, B.out]
  have c12 : v1.cell? ⟨g, 12, none⟩ = some (.slice o n c) := by simp [World.cell?, B.out]
  go_wp2_with fail
  go_quiet ((first | (go_at_call 68; exact Calls.quiet_of_same (K3.out _)) | (go_at_call 67; exact Calls.quiet_of_same (K4.out _ (Tb.low (Ht.out.low Hm1.out) (by first | exact Fp.refl _ _ | exact (Fp.refl _ _).drewN _ | exact (Fp.refl _ _).drew))))))
  go_wp2_with fail
  go_ret
  exact ⟨rfl, Hm1.out.drewN _⟩

set_option maxHeartbeats 2000000 in
set_option maxRecDepth 100000 in
theorem check_low (r a p b q r2 a2 p2 b2 q2 : Nat) (st dl : Int) (o : Option Addr) (n c : Nat) (hr : r < 256) (hr2 : r2 < 256) (w : World) (ht : Tb w) (h1 : tupB r p q = true) (h2 : tupB r2 p2 q2 = true) (hne : decide (r = r2 ∧ a = a2 ∧ p = p2 ∧ b = b2 ∧ q = q2) = false) (hpr : r = r2) (h4 : decide (0 < toN (flowN r) st) = true) (hd : dl < 0) :
    Calls Tryz.prog 39 #[.agg #[.int .u8 r, .int .u32 a, .int .u16 p, .int .u32 b, .int .u16 q, .int .u8 r2, .int .u32 a2, .int .u16 p2, .int .u32 b2, .int .u16 q2, .int .i64 st, .int .i64 dl, .slice o n c]] w (Ret1 (.int .i64 2) w) := by
  have k1 := fun W hW => tup_ok r a p b q hr W hW
  have k2 := fun W hW => tup_ok r2 a2 p2 b2 q2 hr2 W hW
  have k3 := fun W => flow_ok r W
  have k4 := fun W hW => tmay_ok (flowN r) (flowN_lt r) st W hW
  rw [h1] at k1
  rw [h2] at k2
  have heq := fun W => tup_eql r2 a2 p2 b2 q2 r a p b q W
  rw [hne] at heq
  clear hne
  have hp1 : ((r : Int) == (r2 : Int)) = true := by rw [hpr]; simp
  have hp2 : ((r : Int) != (r2 : Int)) = false := by rw [hpr]; simp
  clear hpr
  rw [h4] at k4
  clear h4
  have hd1 : decide (dl < 0) = true := by simpa using hd
  have K1 := Lib.hid k1
  have K2 := Lib.hid k2
  have K3 := Lib.hid k3
  have K4 := Lib.hid k4
  have Ht := Lib.hid ht
  clear k1 k2 k3 k4 ht
  go_enter Tryz.func39, Tryz.ntmps39
  go_wp2_with fail
  have hn0 : NoW w (w.alloc (.cells #[.int .u8 r, .int .u32 a, .int .u16 p, .int .u32 b, .int .u16 q, .int .u8 r2, .int .u32 a2, .int .u16 p2, .int .u32 b2, .int .u16 q2, .int .i64 st, .int .i64 dl, .slice o n c] 52)) := (Fp.refl _ _).alloc _
  have hb0 := heap_alloc_new w (.cells #[.int .u8 r, .int .u32 a, .int .u16 p, .int .u32 b, .int .u16 q, .int .u8 r2, .int .u32 a2, .int .u16 p2, .int .u32 b2, .int .u16 q2, .int .i64 st, .int .i64 dl, .slice o n c] 52)
  generalize w.alloc (.cells #[.int .u8 r, .int .u32 a, .int .u16 p, .int .u32 b, .int .u16 q, .int .u8 r2, .int .u32 a2, .int .u16 p2, .int .u32 b2, .int .u16 q2, .int .i64 st, .int .i64 dl, .slice o n c] 52) = w0 at *
  generalize w.heap.size = g at *
  have Hn0 := Lib.hid hn0
  have B := Lib.hid hb0
  clear hn0 hb0
  refine (K1.out _ (Ht.out.low Hn0.out)).mono ?_
  rintro e v0 ⟨rfl, hp⟩
  have Hm0 := Lib.hid (Hn0.out.trans hp (fun _ _ h => h))
  have hb := (hp.block _ (Array.getElem?_eq_some_iff.1 B.out).1 id).trans B.out
  clear B hp Hn0
  have B := Lib.hid hb
  clear hb
  have c0 : v0.cell? ⟨g, 0, none⟩ = some (.int .u8 r) := by simp [World.cell?, B.out]
  have c1 : v0.cell? ⟨g, 1, none⟩ = some (.int .u32 a) := by simp [World.cell?, B.out]
  have c2 : v0.cell? ⟨g, 2, none⟩ = some (.int .u16 p) := by simp [World.cell?, B.out]
  have c3 : v0.cell? ⟨g, 3, none⟩ = some (.int .u32 b) := by simp [World.cell?, B.out]
  have c4 : v0.cell? ⟨g, 4, none⟩ = some (.int .u16 q) := by simp [World.cell?, B.out]
  have c5 : v0.cell? ⟨g, 5, none⟩ = some (.int .u8 r2) := by simp [World.cell?, B.out]
  have c6 : v0.cell? ⟨g, 6, none⟩ = some (.int .u32 a2) := by simp [World.cell?, B.out]
  have c7 : v0.cell? ⟨g, 7, none⟩ = some (.int .u16 p2) := by simp [World.cell?, B.out]
  have c8 : v0.cell? ⟨g, 8, none⟩ = some (.int .u32 b2) := by simp [World.cell?, B.out]
  have c9 : v0.cell? ⟨g, 9, none⟩ = some (.int .u16 q2) := by simp [World.cell?, B.out]
  have c10 : v0.cell? ⟨g, 10, none⟩ = some (.int .i64 st) := by simp [World.cell?, B.out]
  have c11 : v0.cell? ⟨g, 11, none⟩ = some (.int .i64 dl) := by simp [World.cell?, B.out]
  have c12 : v0.cell? ⟨g, 12, none⟩ = some (.slice o n c) := by simp [World.cell?, B.out]
  go_wp2_with fail
  clear c0 c1 c2 c3 c4 c5 c6 c7 c8 c9 c10 c11 c12
  refine (K2.out _ (Ht.out.low Hm0.out)).mono ?_
  rintro e v1 ⟨rfl, hp⟩
  have Hm1 := Lib.hid (Hm0.out.trans hp (fun _ _ h => h))
  have hb := (hp.block _ (Array.getElem?_eq_some_iff.1 B.out).1 id).trans B.out
  clear B hp Hm0
  have B := Lib.hid hb
  clear hb
  have c0 : v1.cell? ⟨g, 0, none⟩ = some (.int .u8 r) := by simp [World.cell?, B.out]
  have c1 : v1.cell? ⟨g, 1, none⟩ = some (.int .u32 a) := by simp [World.cell?, B.out]
  have c2 : v1.cell? ⟨g, 2, none⟩ = some (.int .u16 p) := by simp [World.cell?, B.out]
  have c3 : v1.cell? ⟨g, 3, none⟩ = some (.int .u32 b) := by simp [World.cell?, B.out]
  have c4 : v1.cell? ⟨g, 4, none⟩ = some (.int .u16 q) := by simp [World.cell?, B.out]
  have c5 : v1.cell? ⟨g, 5, none⟩ = some (.int .u8 r2) := by simp [World.cell?, B.out]
  have c6 : v1.cell? ⟨g, 6, none⟩ = some (.int .u32 a2) := by simp [World.cell?, B.out]
  have c7 : v1.cell? ⟨g, 7, none⟩ = some (.int .u16 p2) := by simp [World.cell?, B.out]
  have c8 : v1.cell? ⟨g, 8, none⟩ = some (.int .u32 b2) := by simp [World.cell?, B.out]
  have c9 : v1.cell? ⟨g, 9, none⟩ = some (.int .u16 q2) := by simp [World.cell?, B.out]
  have c10 : v1.cell? ⟨g, 10, none⟩ = some (.int .i64 st) := by simp [World.cell?, B.out]
  have c11 : v1.cell? ⟨g, 11, none⟩ = some (.int .i64 dl) := by simp [World.cell?, B.out]
  have c12 : v1.cell? ⟨g, 12, none⟩ = some (.slice o n c) := by simp [World.cell?, B.out]
  go_wp2_with fail
  go_quiet ((first | (go_at_call 68; exact Calls.quiet_of_same (K3.out _)) | (go_at_call 67; exact Calls.quiet_of_same (K4.out _ (Tb.low (Ht.out.low Hm1.out) (by first | exact Fp.refl _ _ | exact (Fp.refl _ _).drewN _ | exact (Fp.refl _ _).drew))))))
  go_wp2_with fail
  go_ret
  exact ⟨rfl, Hm1.out.drewN _⟩

set_option maxHeartbeats 2000000 in
set_option maxRecDepth 100000 in
theorem check_high (r a p b q r2 a2 p2 b2 q2 : Nat) (st dl : Int) (o : Option Addr) (n c : Nat) (hr : r < 256) (hr2 : r2 < 256) (w : World) (ht : Tb w) (h1 : tupB r p q = true) (h2 : tupB r2 p2 q2 = true) (hne : decide (r = r2 ∧ a = a2 ∧ p = p2 ∧ b = b2 ∧ q = q2) = false) (hpr : r = r2) (h4 : decide (0 < toN (flowN r) st) = true) (hd : 1099511635216 < dl) :
    Calls Tryz.prog 39 #[.agg #[.int .u8 r, .int .u32 a, .int .u16 p, .int .u32 b, .int .u16 q, .int .u8 r2, .int .u32 a2, .int .u16 p2, .int .u32 b2, .int .u16 q2, .int .i64 st, .int .i64 dl, .slice o n c]] w (Ret1 (.int .i64 2) w) := by
  have k1 := fun W hW => tup_ok r a p b q hr W hW
  have k2 := fun W hW => tup_ok r2 a2 p2 b2 q2 hr2 W hW
  have k3 := fun W => flow_ok r W
  have k4 := fun W hW => tmay_ok (flowN r) (flowN_lt r) st W hW
  rw [h1] at k1
  rw [h2] at k2
  have heq := fun W => tup_eql r2 a2 p2 b2 q2 r a p b q W
  rw [hne] at heq
  clear hne
  have hp1 : ((r : Int) == (r2 : Int)) = true := by rw [hpr]; simp
  have hp2 : ((r : Int) != (r2 : Int)) = false := by rw [hpr]; simp
  clear hpr
  rw [h4] at k4
  clear h4
  have hd0 : decide (dl < 0) = false := by simp; omega
  have hd1 : decide (1099511635216 < dl) = true := by simpa using hd
  have K1 := Lib.hid k1
  have K2 := Lib.hid k2
  have K3 := Lib.hid k3
  have K4 := Lib.hid k4
  have Ht := Lib.hid ht
  clear k1 k2 k3 k4 ht
  go_enter Tryz.func39, Tryz.ntmps39
  go_wp2_with fail
  have hn0 : NoW w (w.alloc (.cells #[.int .u8 r, .int .u32 a, .int .u16 p, .int .u32 b, .int .u16 q, .int .u8 r2, .int .u32 a2, .int .u16 p2, .int .u32 b2, .int .u16 q2, .int .i64 st, .int .i64 dl, .slice o n c] 52)) := (Fp.refl _ _).alloc _
  have hb0 := heap_alloc_new w (.cells #[.int .u8 r, .int .u32 a, .int .u16 p, .int .u32 b, .int .u16 q, .int .u8 r2, .int .u32 a2, .int .u16 p2, .int .u32 b2, .int .u16 q2, .int .i64 st, .int .i64 dl, .slice o n c] 52)
  generalize w.alloc (.cells #[.int .u8 r, .int .u32 a, .int .u16 p, .int .u32 b, .int .u16 q, .int .u8 r2, .int .u32 a2, .int .u16 p2, .int .u32 b2, .int .u16 q2, .int .i64 st, .int .i64 dl, .slice o n c] 52) = w0 at *
  generalize w.heap.size = g at *
  have Hn0 := Lib.hid hn0
  have B := Lib.hid hb0
  clear hn0 hb0
  refine (K1.out _ (Ht.out.low Hn0.out)).mono ?_
  rintro e v0 ⟨rfl, hp⟩
  have Hm0 := Lib.hid (Hn0.out.trans hp (fun _ _ h => h))
  have hb := (hp.block _ (Array.getElem?_eq_some_iff.1 B.out).1 id).trans B.out
  clear B hp Hn0
  have B := Lib.hid hb
  clear hb
  have c0 : v0.cell? ⟨g, 0, none⟩ = some (.int .u8 r) := by simp [World.cell?, B.out]
  have c1 : v0.cell? ⟨g, 1, none⟩ = some (.int .u32 a) := by simp [World.cell?, B.out]
  have c2 : v0.cell? ⟨g, 2, none⟩ = some (.int .u16 p) := by simp [World.cell?, B.out]
  have c3 : v0.cell? ⟨g, 3, none⟩ = some (.int .u32 b) := by simp [World.cell?, B.out]
  have c4 : v0.cell? ⟨g, 4, none⟩ = some (.int .u16 q) := by simp [World.cell?, B.out]
  have c5 : v0.cell? ⟨g, 5, none⟩ = some (.int .u8 r2) := by simp [World.cell?, B.out]
  have c6 : v0.cell? ⟨g, 6, none⟩ = some (.int .u32 a2) := by simp [World.cell?, B.out]
  have c7 : v0.cell? ⟨g, 7, none⟩ = some (.int .u16 p2) := by simp [World.cell?, B.out]
  have c8 : v0.cell? ⟨g, 8, none⟩ = some (.int .u32 b2) := by simp [World.cell?, B.out]
  have c9 : v0.cell? ⟨g, 9, none⟩ = some (.int .u16 q2) := by simp [World.cell?, B.out]
  have c10 : v0.cell? ⟨g, 10, none⟩ = some (.int .i64 st) := by simp [World.cell?, B.out]
  have c11 : v0.cell? ⟨g, 11, none⟩ = some (.int .i64 dl) := by simp [World.cell?, B.out]
  have c12 : v0.cell? ⟨g, 12, none⟩ = some (.slice o n c) := by simp [World.cell?, B.out]
  go_wp2_with fail
  clear c0 c1 c2 c3 c4 c5 c6 c7 c8 c9 c10 c11 c12
  refine (K2.out _ (Ht.out.low Hm0.out)).mono ?_
  rintro e v1 ⟨rfl, hp⟩
  have Hm1 := Lib.hid (Hm0.out.trans hp (fun _ _ h => h))
  have hb := (hp.block _ (Array.getElem?_eq_some_iff.1 B.out).1 id).trans B.out
  clear B hp Hm0
  have B := Lib.hid hb
  clear hb
  have c0 : v1.cell? ⟨g, 0, none⟩ = some (.int .u8 r) := by simp [World.cell?, B.out]
  have c1 : v1.cell? ⟨g, 1, none⟩ = some (.int .u32 a) := by simp [World.cell?, B.out]
  have c2 : v1.cell? ⟨g, 2, none⟩ = some (.int .u16 p) := by simp [World.cell?, B.out]
  have c3 : v1.cell? ⟨g, 3, none⟩ = some (.int .u32 b) := by simp [World.cell?, B.out]
  have c4 : v1.cell? ⟨g, 4, none⟩ = some (.int .u16 q) := by simp [World.cell?, B.out]
  have c5 : v1.cell? ⟨g, 5, none⟩ = some (.int .u8 r2) := by simp [World.cell?, B.out]
  have c6 : v1.cell? ⟨g, 6, none⟩ = some (.int .u32 a2) := by simp [World.cell?, B.out]
  have c7 : v1.cell? ⟨g, 7, none⟩ = some (.int .u16 p2) := by simp [World.cell?, B.out]
  have c8 : v1.cell? ⟨g, 8, none⟩ = some (.int .u32 b2) := by simp [World.cell?, B.out]
  have c9 : v1.cell? ⟨g, 9, none⟩ = some (.int .u16 q2) := by simp [World.cell?, B.out]
  have c10 : v1.cell? ⟨g, 10, none⟩ = some (.int .i64 st) := by simp [World.cell?, B.out]
  have c11 : v1.cell? ⟨g, 11, none⟩ = some (.int .i64 dl) := by simp [World.cell?, B.out]
  have c12 : v1.cell? ⟨g, 12, none⟩ = some (.slice o n c) := by simp [World.cell?, B.out]
  go_wp2_with fail
  go_quiet ((first | (go_at_call 68; exact Calls.quiet_of_same (K3.out _)) | (go_at_call 67; exact Calls.quiet_of_same (K4.out _ (Tb.low (Ht.out.low Hm1.out) (by first | exact Fp.refl _ _ | exact (Fp.refl _ _).drewN _ | exact (Fp.refl _ _).drew))))))
  go_wp2_with fail
  go_ret
  exact ⟨rfl, Hm1.out.drewN _⟩

set_option maxHeartbeats 2000000 in
set_option maxRecDepth 100000 in
theorem check_few (r a p b q r2 a2 p2 b2 q2 : Nat) (st dl : Int) (o : Option Addr) (n c : Nat) (hr : r < 256) (hr2 : r2 < 256) (w : World) (ht : Tb w) (h1 : tupB r p q = true) (h2 : tupB r2 p2 q2 = true) (hne : decide (r = r2 ∧ a = a2 ∧ p = p2 ∧ b = b2 ∧ q = q2) = false) (hpr : r = r2) (h4 : decide (0 < toN (flowN r) st) = true) (hda : 0 ≤ dl) (hdb : dl ≤ 1099511635216) (hn : n < 1) :
    Calls Tryz.prog 39 #[.agg #[.int .u8 r, .int .u32 a, .int .u16 p, .int .u32 b, .int .u16 q, .int .u8 r2, .int .u32 a2, .int .u16 p2, .int .u32 b2, .int .u16 q2, .int .i64 st, .int .i64 dl, .slice o n c]] w (Ret1 (.int .i64 2) w) := by
  have k1 := fun W hW => tup_ok r a p b q hr W hW
  have k2 := fun W hW => tup_ok r2 a2 p2 b2 q2 hr2 W hW
  have k3 := fun W => flow_ok r W
  have k4 := fun W hW => tmay_ok (flowN r) (flowN_lt r) st W hW
  rw [h1] at k1
  rw [h2] at k2
  have heq := fun W => tup_eql r2 a2 p2 b2 q2 r a p b q W
  rw [hne] at heq
  clear hne
  have hp1 : ((r : Int) == (r2 : Int)) = true := by rw [hpr]; simp
  have hp2 : ((r : Int) != (r2 : Int)) = false := by rw [hpr]; simp
  clear hpr
  rw [h4] at k4
  clear h4
  have hd0 : decide (dl < 0) = false := by simp; omega
  have hd1 : decide (1099511635216 < dl) = false := by simp; omega
  have hn1 : decide ((n : Int) < 1) = true := by simp; omega
  have K1 := Lib.hid k1
  have K2 := Lib.hid k2
  have K3 := Lib.hid k3
  have K4 := Lib.hid k4
  have Ht := Lib.hid ht
  clear k1 k2 k3 k4 ht
  go_enter Tryz.func39, Tryz.ntmps39
  go_wp2_with fail
  have hn0 : NoW w (w.alloc (.cells #[.int .u8 r, .int .u32 a, .int .u16 p, .int .u32 b, .int .u16 q, .int .u8 r2, .int .u32 a2, .int .u16 p2, .int .u32 b2, .int .u16 q2, .int .i64 st, .int .i64 dl, .slice o n c] 52)) := (Fp.refl _ _).alloc _
  have hb0 := heap_alloc_new w (.cells #[.int .u8 r, .int .u32 a, .int .u16 p, .int .u32 b, .int .u16 q, .int .u8 r2, .int .u32 a2, .int .u16 p2, .int .u32 b2, .int .u16 q2, .int .i64 st, .int .i64 dl, .slice o n c] 52)
  generalize w.alloc (.cells #[.int .u8 r, .int .u32 a, .int .u16 p, .int .u32 b, .int .u16 q, .int .u8 r2, .int .u32 a2, .int .u16 p2, .int .u32 b2, .int .u16 q2, .int .i64 st, .int .i64 dl, .slice o n c] 52) = w0 at *
  generalize w.heap.size = g at *
  have Hn0 := Lib.hid hn0
  have B := Lib.hid hb0
  clear hn0 hb0
  refine (K1.out _ (Ht.out.low Hn0.out)).mono ?_
  rintro e v0 ⟨rfl, hp⟩
  have Hm0 := Lib.hid (Hn0.out.trans hp (fun _ _ h => h))
  have hb := (hp.block _ (Array.getElem?_eq_some_iff.1 B.out).1 id).trans B.out
  clear B hp Hn0
  have B := Lib.hid hb
  clear hb
  have c0 : v0.cell? ⟨g, 0, none⟩ = some (.int .u8 r) := by simp [World.cell?, B.out]
  have c1 : v0.cell? ⟨g, 1, none⟩ = some (.int .u32 a) := by simp [World.cell?, B.out]
  have c2 : v0.cell? ⟨g, 2, none⟩ = some (.int .u16 p) := by simp [World.cell?, B.out]
  have c3 : v0.cell? ⟨g, 3, none⟩ = some (.int .u32 b) := by simp [World.cell?, B.out]
  have c4 : v0.cell? ⟨g, 4, none⟩ = some (.int .u16 q) := by simp [World.cell?, B.out]
  have c5 : v0.cell? ⟨g, 5, none⟩ = some (.int .u8 r2) := by simp [World.cell?, B.out]
  have c6 : v0.cell? ⟨g, 6, none⟩ = some (.int .u32 a2) := by simp [World.cell?, B.out]
  have c7 : v0.cell? ⟨g, 7, none⟩ = some (.int .u16 p2) := by simp [World.cell?, B.out]
  have c8 : v0.cell? ⟨g, 8, none⟩ = some (.int .u32 b2) := by simp [World.cell?, B.out]
  have c9 : v0.cell? ⟨g, 9, none⟩ = some (.int .u16 q2) := by simp [World.cell?, B.out]
  have c10 : v0.cell? ⟨g, 10, none⟩ = some (.int .i64 st) := by simp [World.cell?, B.out]
  have c11 : v0.cell? ⟨g, 11, none⟩ = some (.int .i64 dl) := by simp [World.cell?, B.out]
  have c12 : v0.cell? ⟨g, 12, none⟩ = some (.slice o n c) := by simp [World.cell?, B.out]
  go_wp2_with fail
  clear c0 c1 c2 c3 c4 c5 c6 c7 c8 c9 c10 c11 c12
  refine (K2.out _ (Ht.out.low Hm0.out)).mono ?_
  rintro e v1 ⟨rfl, hp⟩
  have Hm1 := Lib.hid (Hm0.out.trans hp (fun _ _ h => h))
  have hb := (hp.block _ (Array.getElem?_eq_some_iff.1 B.out).1 id).trans B.out
  clear B hp Hm0
  have B := Lib.hid hb
  clear hb
  have c0 : v1.cell? ⟨g, 0, none⟩ = some (.int .u8 r) := by simp [World.cell?, B.out]
  have c1 : v1.cell? ⟨g, 1, none⟩ = some (.int .u32 a) := by simp [World.cell?, B.out]
  have c2 : v1.cell? ⟨g, 2, none⟩ = some (.int .u16 p) := by simp [World.cell?, B.out]
  have c3 : v1.cell? ⟨g, 3, none⟩ = some (.int .u32 b) := by simp [World.cell?, B.out]
  have c4 : v1.cell? ⟨g, 4, none⟩ = some (.int .u16 q) := by simp [World.cell?, B.out]
  have c5 : v1.cell? ⟨g, 5, none⟩ = some (.int .u8 r2) := by simp [World.cell?, B.out]
  have c6 : v1.cell? ⟨g, 6, none⟩ = some (.int .u32 a2) := by simp [World.cell?, B.out]
  have c7 : v1.cell? ⟨g, 7, none⟩ = some (.int .u16 p2) := by simp [World.cell?, B.out]
  have c8 : v1.cell? ⟨g, 8, none⟩ = some (.int .u32 b2) := by simp [World.cell?, B.out]
  have c9 : v1.cell? ⟨g, 9, none⟩ = some (.int .u16 q2) := by simp [World.cell?, B.out]
  have c10 : v1.cell? ⟨g, 10, none⟩ = some (.int .i64 st) := by simp [World.cell?, B.out]
  have c11 : v1.cell? ⟨g, 11, none⟩ = some (.int .i64 dl) := by simp [World.cell?, B.out]
  have c12 : v1.cell? ⟨g, 12, none⟩ = some (.slice o n c) := by simp [World.cell?, B.out]
  go_wp2_with fail
  go_quiet ((first | (go_at_call 68; exact Calls.quiet_of_same (K3.out _)) | (go_at_call 67; exact Calls.quiet_of_same (K4.out _ (Tb.low (Ht.out.low Hm1.out) (by first | exact Fp.refl _ _ | exact (Fp.refl _ _).drewN _ | exact (Fp.refl _ _).drew))))))
  go_wp2_with fail
  go_ret
  exact ⟨rfl, Hm1.out.drewN _⟩

set_option maxHeartbeats 2000000 in
set_option maxRecDepth 100000 in
theorem check_many (r a p b q r2 a2 p2 b2 q2 : Nat) (st dl : Int) (o : Option Addr) (n c : Nat) (hr : r < 256) (hr2 : r2 < 256) (w : World) (ht : Tb w) (h1 : tupB r p q = true) (h2 : tupB r2 p2 q2 = true) (hne : decide (r = r2 ∧ a = a2 ∧ p = p2 ∧ b = b2 ∧ q = q2) = false) (hpr : r = r2) (h4 : decide (0 < toN (flowN r) st) = true) (hda : 0 ≤ dl) (hdb : dl ≤ 1099511635216) (hn : 2 < n) :
    Calls Tryz.prog 39 #[.agg #[.int .u8 r, .int .u32 a, .int .u16 p, .int .u32 b, .int .u16 q, .int .u8 r2, .int .u32 a2, .int .u16 p2, .int .u32 b2, .int .u16 q2, .int .i64 st, .int .i64 dl, .slice o n c]] w (Ret1 (.int .i64 2) w) := by
  have k1 := fun W hW => tup_ok r a p b q hr W hW
  have k2 := fun W hW => tup_ok r2 a2 p2 b2 q2 hr2 W hW
  have k3 := fun W => flow_ok r W
  have k4 := fun W hW => tmay_ok (flowN r) (flowN_lt r) st W hW
  rw [h1] at k1
  rw [h2] at k2
  have heq := fun W => tup_eql r2 a2 p2 b2 q2 r a p b q W
  rw [hne] at heq
  clear hne
  have hp1 : ((r : Int) == (r2 : Int)) = true := by rw [hpr]; simp
  have hp2 : ((r : Int) != (r2 : Int)) = false := by rw [hpr]; simp
  clear hpr
  rw [h4] at k4
  clear h4
  have hd0 : decide (dl < 0) = false := by simp; omega
  have hd1 : decide (1099511635216 < dl) = false := by simp; omega
  have hn1 : decide ((n : Int) < 1) = false := by simp; omega
  have hn2 : decide (2 < (n : Int)) = true := by simp; omega
  have K1 := Lib.hid k1
  have K2 := Lib.hid k2
  have K3 := Lib.hid k3
  have K4 := Lib.hid k4
  have Ht := Lib.hid ht
  clear k1 k2 k3 k4 ht
  go_enter Tryz.func39, Tryz.ntmps39
  go_wp2_with fail
  have hn0 : NoW w (w.alloc (.cells #[.int .u8 r, .int .u32 a, .int .u16 p, .int .u32 b, .int .u16 q, .int .u8 r2, .int .u32 a2, .int .u16 p2, .int .u32 b2, .int .u16 q2, .int .i64 st, .int .i64 dl, .slice o n c] 52)) := (Fp.refl _ _).alloc _
  have hb0 := heap_alloc_new w (.cells #[.int .u8 r, .int .u32 a, .int .u16 p, .int .u32 b, .int .u16 q, .int .u8 r2, .int .u32 a2, .int .u16 p2, .int .u32 b2, .int .u16 q2, .int .i64 st, .int .i64 dl, .slice o n c] 52)
  generalize w.alloc (.cells #[.int .u8 r, .int .u32 a, .int .u16 p, .int .u32 b, .int .u16 q, .int .u8 r2, .int .u32 a2, .int .u16 p2, .int .u32 b2, .int .u16 q2, .int .i64 st, .int .i64 dl, .slice o n c] 52) = w0 at *
  generalize w.heap.size = g at *
  have Hn0 := Lib.hid hn0
  have B := Lib.hid hb0
  clear hn0 hb0
  refine (K1.out _ (Ht.out.low Hn0.out)).mono ?_
  rintro e v0 ⟨rfl, hp⟩
  have Hm0 := Lib.hid (Hn0.out.trans hp (fun _ _ h => h))
  have hb := (hp.block _ (Array.getElem?_eq_some_iff.1 B.out).1 id).trans B.out
  clear B hp Hn0
  have B := Lib.hid hb
  clear hb
  have c0 : v0.cell? ⟨g, 0, none⟩ = some (.int .u8 r) := by simp [World.cell?, B.out]
  have c1 : v0.cell? ⟨g, 1, none⟩ = some (.int .u32 a) := by simp [World.cell?, B.out]
  have c2 : v0.cell? ⟨g, 2, none⟩ = some (.int .u16 p) := by simp [World.cell?, B.out]
  have c3 : v0.cell? ⟨g, 3, none⟩ = some (.int .u32 b) := by simp [World.cell?, B.out]
  have c4 : v0.cell? ⟨g, 4, none⟩ = some (.int .u16 q) := by simp [World.cell?, B.out]
  have c5 : v0.cell? ⟨g, 5, none⟩ = some (.int .u8 r2) := by simp [World.cell?, B.out]
  have c6 : v0.cell? ⟨g, 6, none⟩ = some (.int .u32 a2) := by simp [World.cell?, B.out]
  have c7 : v0.cell? ⟨g, 7, none⟩ = some (.int .u16 p2) := by simp [World.cell?, B.out]
  have c8 : v0.cell? ⟨g, 8, none⟩ = some (.int .u32 b2) := by simp [World.cell?, B.out]
  have c9 : v0.cell? ⟨g, 9, none⟩ = some (.int .u16 q2) := by simp [World.cell?, B.out]
  have c10 : v0.cell? ⟨g, 10, none⟩ = some (.int .i64 st) := by simp [World.cell?, B.out]
  have c11 : v0.cell? ⟨g, 11, none⟩ = some (.int .i64 dl) := by simp [World.cell?, B.out]
  have c12 : v0.cell? ⟨g, 12, none⟩ = some (.slice o n c) := by simp [World.cell?, B.out]
  go_wp2_with fail
  clear c0 c1 c2 c3 c4 c5 c6 c7 c8 c9 c10 c11 c12
  refine (K2.out _ (Ht.out.low Hm0.out)).mono ?_
  rintro e v1 ⟨rfl, hp⟩
  have Hm1 := Lib.hid (Hm0.out.trans hp (fun _ _ h => h))
  have hb := (hp.block _ (Array.getElem?_eq_some_iff.1 B.out).1 id).trans B.out
  clear B hp Hm0
  have B := Lib.hid hb
  clear hb
  have c0 : v1.cell? ⟨g, 0, none⟩ = some (.int .u8 r) := by simp [World.cell?, B.out]
  have c1 : v1.cell? ⟨g, 1, none⟩ = some (.int .u32 a) := by simp [World.cell?, B.out]
  have c2 : v1.cell? ⟨g, 2, none⟩ = some (.int .u16 p) := by simp [World.cell?, B.out]
  have c3 : v1.cell? ⟨g, 3, none⟩ = some (.int .u32 b) := by simp [World.cell?, B.out]
  have c4 : v1.cell? ⟨g, 4, none⟩ = some (.int .u16 q) := by simp [World.cell?, B.out]
  have c5 : v1.cell? ⟨g, 5, none⟩ = some (.int .u8 r2) := by simp [World.cell?, B.out]
  have c6 : v1.cell? ⟨g, 6, none⟩ = some (.int .u32 a2) := by simp [World.cell?, B.out]
  have c7 : v1.cell? ⟨g, 7, none⟩ = some (.int .u16 p2) := by simp [World.cell?, B.out]
  have c8 : v1.cell? ⟨g, 8, none⟩ = some (.int .u32 b2) := by simp [World.cell?, B.out]
  have c9 : v1.cell? ⟨g, 9, none⟩ = some (.int .u16 q2) := by simp [World.cell?, B.out]
  have c10 : v1.cell? ⟨g, 10, none⟩ = some (.int .i64 st) := by simp [World.cell?, B.out]
  have c11 : v1.cell? ⟨g, 11, none⟩ = some (.int .i64 dl) := by simp [World.cell?, B.out]
  have c12 : v1.cell? ⟨g, 12, none⟩ = some (.slice o n c) := by simp [World.cell?, B.out]
  go_wp2_with fail
  go_quiet ((first | (go_at_call 68; exact Calls.quiet_of_same (K3.out _)) | (go_at_call 67; exact Calls.quiet_of_same (K4.out _ (Tb.low (Ht.out.low Hm1.out) (by first | exact Fp.refl _ _ | exact (Fp.refl _ _).drewN _ | exact (Fp.refl _ _).drew))))))
  go_wp2_with fail
  go_ret
  exact ⟨rfl, Hm1.out.drewN _⟩

set_option maxHeartbeats 2000000 in
set_option maxRecDepth 100000 in
theorem check_good (r a p b q r2 a2 p2 b2 q2 : Nat) (st dl : Int) (o : Option Addr) (n c : Nat) (hr : r < 256) (hr2 : r2 < 256) (w : World) (ht : Tb w) (h1 : tupB r p q = true) (h2 : tupB r2 p2 q2 = true) (hne : decide (r = r2 ∧ a = a2 ∧ p = p2 ∧ b = b2 ∧ q = q2) = false) (hpr : r = r2) (h4 : decide (0 < toN (flowN r) st) = true) (hda : 0 ≤ dl) (hdb : dl ≤ 1099511635216) (hn : 1 ≤ n ∧ n ≤ 2) :
    Calls Tryz.prog 39 #[.agg #[.int .u8 r, .int .u32 a, .int .u16 p, .int .u32 b, .int .u16 q, .int .u8 r2, .int .u32 a2, .int .u16 p2, .int .u32 b2, .int .u16 q2, .int .i64 st, .int .i64 dl, .slice o n c]] w (Ret1 (.int .i64 0) w) := by
  have k1 := fun W hW => tup_ok r a p b q hr W hW
  have k2 := fun W hW => tup_ok r2 a2 p2 b2 q2 hr2 W hW
  have k3 := fun W => flow_ok r W
  have k4 := fun W hW => tmay_ok (flowN r) (flowN_lt r) st W hW
  rw [h1] at k1
  rw [h2] at k2
  have heq := fun W => tup_eql r2 a2 p2 b2 q2 r a p b q W
  rw [hne] at heq
  clear hne
  have hp1 : ((r : Int) == (r2 : Int)) = true := by rw [hpr]; simp
  have hp2 : ((r : Int) != (r2 : Int)) = false := by rw [hpr]; simp
  clear hpr
  rw [h4] at k4
  clear h4
  have hd0 : decide (dl < 0) = false := by simp; omega
  have hd1 : decide (1099511635216 < dl) = false := by simp; omega
  have hn1 : decide ((n : Int) < 1) = false := by simp; omega
  have hn2 : decide (2 < (n : Int)) = false := by simp; omega
  have K1 := Lib.hid k1
  have K2 := Lib.hid k2
  have K3 := Lib.hid k3
  have K4 := Lib.hid k4
  have Ht := Lib.hid ht
  clear k1 k2 k3 k4 ht
  go_enter Tryz.func39, Tryz.ntmps39
  go_wp2_with fail
  have hn0 : NoW w (w.alloc (.cells #[.int .u8 r, .int .u32 a, .int .u16 p, .int .u32 b, .int .u16 q, .int .u8 r2, .int .u32 a2, .int .u16 p2, .int .u32 b2, .int .u16 q2, .int .i64 st, .int .i64 dl, .slice o n c] 52)) := (Fp.refl _ _).alloc _
  have hb0 := heap_alloc_new w (.cells #[.int .u8 r, .int .u32 a, .int .u16 p, .int .u32 b, .int .u16 q, .int .u8 r2, .int .u32 a2, .int .u16 p2, .int .u32 b2, .int .u16 q2, .int .i64 st, .int .i64 dl, .slice o n c] 52)
  generalize w.alloc (.cells #[.int .u8 r, .int .u32 a, .int .u16 p, .int .u32 b, .int .u16 q, .int .u8 r2, .int .u32 a2, .int .u16 p2, .int .u32 b2, .int .u16 q2, .int .i64 st, .int .i64 dl, .slice o n c] 52) = w0 at *
  generalize w.heap.size = g at *
  have Hn0 := Lib.hid hn0
  have B := Lib.hid hb0
  clear hn0 hb0
  refine (K1.out _ (Ht.out.low Hn0.out)).mono ?_
  rintro e v0 ⟨rfl, hp⟩
  have Hm0 := Lib.hid (Hn0.out.trans hp (fun _ _ h => h))
  have hb := (hp.block _ (Array.getElem?_eq_some_iff.1 B.out).1 id).trans B.out
  clear B hp Hn0
  have B := Lib.hid hb
  clear hb
  have c0 : v0.cell? ⟨g, 0, none⟩ = some (.int .u8 r) := by simp [World.cell?, B.out]
  have c1 : v0.cell? ⟨g, 1, none⟩ = some (.int .u32 a) := by simp [World.cell?, B.out]
  have c2 : v0.cell? ⟨g, 2, none⟩ = some (.int .u16 p) := by simp [World.cell?, B.out]
  have c3 : v0.cell? ⟨g, 3, none⟩ = some (.int .u32 b) := by simp [World.cell?, B.out]
  have c4 : v0.cell? ⟨g, 4, none⟩ = some (.int .u16 q) := by simp [World.cell?, B.out]
  have c5 : v0.cell? ⟨g, 5, none⟩ = some (.int .u8 r2) := by simp [World.cell?, B.out]
  have c6 : v0.cell? ⟨g, 6, none⟩ = some (.int .u32 a2) := by simp [World.cell?, B.out]
  have c7 : v0.cell? ⟨g, 7, none⟩ = some (.int .u16 p2) := by simp [World.cell?, B.out]
  have c8 : v0.cell? ⟨g, 8, none⟩ = some (.int .u32 b2) := by simp [World.cell?, B.out]
  have c9 : v0.cell? ⟨g, 9, none⟩ = some (.int .u16 q2) := by simp [World.cell?, B.out]
  have c10 : v0.cell? ⟨g, 10, none⟩ = some (.int .i64 st) := by simp [World.cell?, B.out]
  have c11 : v0.cell? ⟨g, 11, none⟩ = some (.int .i64 dl) := by simp [World.cell?, B.out]
  have c12 : v0.cell? ⟨g, 12, none⟩ = some (.slice o n c) := by simp [World.cell?, B.out]
  go_wp2_with fail
  clear c0 c1 c2 c3 c4 c5 c6 c7 c8 c9 c10 c11 c12
  refine (K2.out _ (Ht.out.low Hm0.out)).mono ?_
  rintro e v1 ⟨rfl, hp⟩
  have Hm1 := Lib.hid (Hm0.out.trans hp (fun _ _ h => h))
  have hb := (hp.block _ (Array.getElem?_eq_some_iff.1 B.out).1 id).trans B.out
  clear B hp Hm0
  have B := Lib.hid hb
  clear hb
  have c0 : v1.cell? ⟨g, 0, none⟩ = some (.int .u8 r) := by simp [World.cell?, B.out]
  have c1 : v1.cell? ⟨g, 1, none⟩ = some (.int .u32 a) := by simp [World.cell?, B.out]
  have c2 : v1.cell? ⟨g, 2, none⟩ = some (.int .u16 p) := by simp [World.cell?, B.out]
  have c3 : v1.cell? ⟨g, 3, none⟩ = some (.int .u32 b) := by simp [World.cell?, B.out]
  have c4 : v1.cell? ⟨g, 4, none⟩ = some (.int .u16 q) := by simp [World.cell?, B.out]
  have c5 : v1.cell? ⟨g, 5, none⟩ = some (.int .u8 r2) := by simp [World.cell?, B.out]
  have c6 : v1.cell? ⟨g, 6, none⟩ = some (.int .u32 a2) := by simp [World.cell?, B.out]
  have c7 : v1.cell? ⟨g, 7, none⟩ = some (.int .u16 p2) := by simp [World.cell?, B.out]
  have c8 : v1.cell? ⟨g, 8, none⟩ = some (.int .u32 b2) := by simp [World.cell?, B.out]
  have c9 : v1.cell? ⟨g, 9, none⟩ = some (.int .u16 q2) := by simp [World.cell?, B.out]
  have c10 : v1.cell? ⟨g, 10, none⟩ = some (.int .i64 st) := by simp [World.cell?, B.out]
  have c11 : v1.cell? ⟨g, 11, none⟩ = some (.int .i64 dl) := by simp [World.cell?, B.out]
  have c12 : v1.cell? ⟨g, 12, none⟩ = some (.slice o n c) := by simp [World.cell?, B.out]
  go_wp2_with fail
  go_quiet ((first | (go_at_call 68; exact Calls.quiet_of_same (K3.out _)) | (go_at_call 67; exact Calls.quiet_of_same (K4.out _ (Tb.low (Ht.out.low Hm1.out) (by first | exact Fp.refl _ _ | exact (Fp.refl _ _).drewN _ | exact (Fp.refl _ _).drew))))))
  go_wp2_with fail
  go_ret
  exact ⟨rfl, Hm1.out.drewN _⟩

theorem check_ok (r a p b q r2 a2 p2 b2 q2 : Nat) (st dl : Int) (o : Option Addr) (n c : Nat) (hr : r < 256) (hr2 : r2 < 256) (w : World) (ht : Tb w) :
    Calls Tryz.prog 39 #[.agg #[.int .u8 r, .int .u32 a, .int .u16 p, .int .u32 b, .int .u16 q, .int .u8 r2, .int .u32 a2, .int .u16 p2, .int .u32 b2, .int .u16 q2, .int .i64 st, .int .i64 dl, .slice o n c]] w (Ret1 (.int .i64 (if chkB r p q r2 p2 q2 (decide (r = r2 ∧ a = a2 ∧ p = p2 ∧ b = b2 ∧ q = q2)) st dl n = true then 0 else 2)) w) := by
  unfold chkB
  rcases h1 : tupB r p q with _ | _
  · simpa using check_t1 r a p b q r2 a2 p2 b2 q2 st dl o n c hr hr2 w ht h1
  rcases h2 : tupB r2 p2 q2 with _ | _
  · simpa using check_t2 r a p b q r2 a2 p2 b2 q2 st dl o n c hr hr2 w ht h1 h2
  rcases hne : decide (r = r2 ∧ a = a2 ∧ p = p2 ∧ b = b2 ∧ q = q2) with _ | _
  · by_cases hpr : r = r2
    · rcases h4 : decide (0 < toN (flowN r) st) with _ | _
      · simpa using check_track r a p b q r2 a2 p2 b2 q2 st dl o n c hr hr2 w ht h1 h2 hne hpr h4
      · by_cases hd0 : dl < 0
        · rw [if_neg (by simp; omega)]; exact check_low r a p b q r2 a2 p2 b2 q2 st dl o n c hr hr2 w ht h1 h2 hne hpr h4 hd0
        · by_cases hd1 : 1099511635216 < dl
          · rw [if_neg (by simp; omega)]; exact check_high r a p b q r2 a2 p2 b2 q2 st dl o n c hr hr2 w ht h1 h2 hne hpr h4 hd1
          · by_cases hn : n < 1
            · rw [if_neg (by simp; omega)]; exact check_few r a p b q r2 a2 p2 b2 q2 st dl o n c hr hr2 w ht h1 h2 hne hpr h4 (by omega) (by omega) hn
            · by_cases hn2 : 2 < n
              · rw [if_neg (by simp; omega)]; exact check_many r a p b q r2 a2 p2 b2 q2 st dl o n c hr hr2 w ht h1 h2 hne hpr h4 (by omega) (by omega) hn2
              · rw [if_pos (by simp; omega)]; exact check_good r a p b q r2 a2 p2 b2 q2 st dl o n c hr hr2 w ht h1 h2 hne hpr h4 (by omega) (by omega) (by omega)
    · rw [if_neg (by simp [hpr])]
      exact check_proto r a p b q r2 a2 p2 b2 q2 st dl o n c hr hr2 w ht h1 h2 hne hpr
  · simpa using check_same r a p b q r2 a2 p2 b2 q2 st dl o n c hr hr2 w ht h1 h2 hne
end Go.Proofs.YtcimbbllefkdlaaGreatDoor
