/- Chapter 18: Early, Less (written by genroom.py). -/
import Derived.Test.YtaiimkcmgiceeaaDoorEnD
import Derived.Test.YtaiimkcmgiceeaaDoorEnL
namespace Go.Proofs.YtaiimkcmgiceeaaDoor
set_option linter.unusedVariables false
set_option linter.unusedSimpArgs false
open Go.RowKit Go.Lib Go.Sort

/-- May a flow make room? -/
def earlyB (f : Nat) (s : Int) : Bool := decide (0 < toN f s) && (if f = 3 then decide (s ≠ 3) else decide (s = 1))
set_option maxHeartbeats 1000000 in
theorem early_ok (f : Nat) (hf : f < 4) (s : Int) (w : World) (ht : Tb w) : Calls Tryd.prog 26 #[.int .i64 f, .int .i64 s] w fun e w' => e = .returned (.bool (earlyB f s)) ∧ w' = w := by
  have k := fun W hW => tmay_ok f hf s W hW
  have Ht := Lib.hid ht
  clear ht
  unfold earlyB
  rcases hm : decide (0 < toN f s) with _ | _
  · rw [hm] at k
    have K := Lib.hid k
    clear k hm
    rw [Bool.false_and]
    go_enter Tryd.func26, Tryd.ntmps26
    go_wp2_with fail
    refine (K.out _ Ht.out).mono ?_
    rintro e w' ⟨rfl, rfl⟩
    go_wp2_with fail
    go_ret
    exact ⟨rfl, rfl⟩
  · rw [hm] at k
    have K := Lib.hid k
    clear k hm
    rw [Bool.true_and]
    by_cases h3 : f = 3
    · rw [if_pos h3]
      have e3 : ((f : Int) == 3) = true := by rw [h3]; rfl
      have hs : (s != 3) = decide (s ≠ 3) := by by_cases h : s = 3 <;> simp [h]
      clear h3
      go_enter Tryd.func26, Tryd.ntmps26
      go_wp2_with fail
      refine (K.out _ Ht.out).mono ?_
      rintro e w' ⟨rfl, rfl⟩
      go_wp2_with fail
      go_ret
      exact ⟨by first | rfl | (simp [hs]), rfl⟩
    · rw [if_neg h3]
      have e3 : ((f : Int) == 3) = false := beq_eq_false_iff_ne.2 (by omega)
      have hs : (s == 1) = decide (s = 1) := by by_cases h : s = 1 <;> simp [h]
      clear h3
      go_enter Tryd.func26, Tryd.ntmps26
      go_wp2_with fail
      refine (K.out _ Ht.out).mono ?_
      rintro e w' ⟨rfl, rfl⟩
      go_wp2_with fail
      go_ret
      exact ⟨by first | rfl | (simp [hs]), rfl⟩

/-- A tuple as a number, by which tuples are in order. -/
def tkey (k a p b q : Nat) : Nat := (((k * 4294967296 + a) * 65536 + p) * 4294967296 + b) * 65536 + q
theorem tkey_lt {k a p b q k2 a2 p2 b2 q2 : Nat} (ha : a < 4294967296) (hp : p < 65536) (hb : b < 4294967296) (hq : q < 65536) (ha2 : a2 < 4294967296) (hp2 : p2 < 65536) (hb2 : b2 < 4294967296) (hq2 : q2 < 65536) :
    tkey k a p b q < tkey k2 a2 p2 b2 q2 ↔ (k < k2 ∨ k = k2 ∧ (if a = a2 ∧ p = p2 then b < b2 ∨ b = b2 ∧ q < q2 else a < a2 ∨ a = a2 ∧ p < p2)) := by
  unfold tkey
  split <;> omega
set_option maxHeartbeats 2000000 in
theorem tless_ok (r a p b q r2 a2 p2 b2 q2 : Nat) (ha : a < 4294967296) (hp : p < 65536) (hb : b < 4294967296) (hq : q < 65536) (ha2 : a2 < 4294967296) (hp2 : p2 < 65536) (hb2 : b2 < 4294967296) (hq2 : q2 < 65536) (w : World) :
    Calls Tryd.prog 45 #[.agg #[.int .u8 r, .int .u32 a, .int .u16 p, .int .u32 b, .int .u16 q], .agg #[.int .u8 r2, .int .u32 a2, .int .u16 p2, .int .u32 b2, .int .u16 q2]] w (Ret1 (.bool (decide (tkey r a p b q < tkey r2 a2 p2 b2 q2))) w) := by
  have hk := tkey_lt (k := r) (k2 := r2) ha hp hb hq ha2 hp2 hb2 hq2
  have e : decide (tkey r a p b q < tkey r2 a2 p2 b2 q2) = decide (r < r2 ∨ r = r2 ∧ (if a = a2 ∧ p = p2 then b < b2 ∨ b = b2 ∧ q < q2 else a < a2 ∨ a = a2 ∧ p < p2)) := by rw [decide_eq_decide]; exact hk
  rw [e]
  clear e hk ha hp hb hq ha2 hp2 hb2 hq2
  by_cases hr : r = r2
  · subst hr
    by_cases h1 : a = a2 ∧ p = p2
    · obtain ⟨rfl, rfl⟩ := h1
      have e : decide (r < r ∨ r = r ∧ (if a = a ∧ p = p then b < b2 ∨ b = b2 ∧ q < q2 else a < a ∨ a = a ∧ p < p)) = decide (b < b2 ∨ b = b2 ∧ q < q2) := by simp
      rw [e]
      clear e
      have k := fun W => less_ok b q b2 q2 W
      generalize decide (b < b2 ∨ b = b2 ∧ q < q2) = z at k ⊢
      have K := Lib.hid k
      clear k
      go_enter Tryd.func45, Tryd.ntmps45
      go_wp2_with fail
      refine (K.out _).mono ?_
      rintro e v ⟨rfl, hp⟩
      have Hn := Lib.hid (show NoW w v from (((Fp.refl _ _).alloc _).alloc _).trans hp (fun _ _ h => h))
      clear hp
      go_wp2_with fail
      go_ret
      exact ⟨rfl, Hn.out⟩
    · have e : decide (r < r ∨ r = r ∧ (if a = a2 ∧ p = p2 then b < b2 ∨ b = b2 ∧ q < q2 else a < a2 ∨ a = a2 ∧ p < p2)) = decide (a < a2 ∨ a = a2 ∧ p < p2) := by simp [h1]
      rw [e]
      clear e
      have k := fun W => less_ok a p a2 p2 W
      generalize decide (a < a2 ∨ a = a2 ∧ p < p2) = z at k ⊢
      have K := Lib.hid k
      clear k
      have e1 : ∀ W, (binOp .neq 27 (.agg #[.int .u32 a, .int .u16 p]) (.agg #[.int .u32 a2, .int .u16 p2])).run Tryd.prog W = .ok (.bool true) W := fun W => by
        by_cases h2 : a = a2
        · subst h2
          have h3 : ((p : Int) == (p2 : Int)) = false := beq_eq_false_iff_ne.2 (fun e => h1 ⟨rfl, by omega⟩)
          go_simp
        · have h3 : ((a : Int) == (a2 : Int)) = false := beq_eq_false_iff_ne.2 (fun e => h2 (by omega))
          go_simp
      clear h1
      go_enter Tryd.func45, Tryd.ntmps45
      go_wp2_with fail
      refine (K.out _).mono ?_
      rintro e v ⟨rfl, hp⟩
      have Hn := Lib.hid (show NoW w v from (((Fp.refl _ _).alloc _).alloc _).trans hp (fun _ _ h => h))
      clear hp
      go_wp2_with fail
      go_ret
      exact ⟨rfl, Hn.out⟩
  · have e : decide (r < r2 ∨ r = r2 ∧ (if a = a2 ∧ p = p2 then b < b2 ∨ b = b2 ∧ q < q2 else a < a2 ∨ a = a2 ∧ p < p2)) = decide (r < r2) := by simp [hr]
    rw [e]
    have e2 : ((r : Int) != (r2 : Int)) = true := by simp; omega
    have e3 : decide ((r : Int) < (r2 : Int)) = decide (r < r2) := by rw [decide_eq_decide]; omega
    clear e hr
    go_enter Tryd.func45, Tryd.ntmps45
    go_wp2_with fail
    go_ret
    exact ⟨by first | rfl | (simp), (((Fp.refl _ _).alloc _).alloc _)⟩

/-- Of two entries: which makes room first? -/
def elB (dl : Int) (k : Nat) (dl2 : Int) (k2 : Nat) : Bool := decide (dl < dl2 ∨ dl = dl2 ∧ k < k2)

set_option maxHeartbeats 2000000 in
theorem eless_ok (r a p b q r2 a2 p2 b2 q2 : Nat) (r' a' p' b' q' r2' a2' p2' b2' q2' st st2 dl dl2 : Int) (h h2 : Value) (ha : a < 4294967296) (hp : p < 65536) (hb : b < 4294967296) (hq : q < 65536) (ha2 : a2 < 4294967296) (hp2 : p2 < 65536) (hb2 : b2 < 4294967296) (hq2 : q2 < 65536) (w : World) :
    Calls Tryd.prog 28 #[.agg #[.int .u8 r, .int .u32 a, .int .u16 p, .int .u32 b, .int .u16 q, .int .u8 r', .int .u32 a', .int .u16 p', .int .u32 b', .int .u16 q', .int .i64 st, .int .i64 dl, h], .agg #[.int .u8 r2, .int .u32 a2, .int .u16 p2, .int .u32 b2, .int .u16 q2, .int .u8 r2', .int .u32 a2', .int .u16 p2', .int .u32 b2', .int .u16 q2', .int .i64 st2, .int .i64 dl2, h2]] w (Ret1 (.bool (elB dl (tkey r a p b q) dl2 (tkey r2 a2 p2 b2 q2))) w) := by
  by_cases hd : dl = dl2
  · subst hd
    have k := fun W => tless_ok r a p b q r2 a2 p2 b2 q2 ha hp hb hq ha2 hp2 hb2 hq2 W
    have e : elB dl (tkey r a p b q) dl (tkey r2 a2 p2 b2 q2) = decide (tkey r a p b q < tkey r2 a2 p2 b2 q2) := by simp [elB]
    rw [e]
    generalize decide (tkey r a p b q < tkey r2 a2 p2 b2 q2) = z at k ⊢
    clear e ha hp hb hq ha2 hp2 hb2 hq2
    have K := Lib.hid k
    clear k
    go_enter Tryd.func28, Tryd.ntmps28
    go_wp2_with fail
    refine (K.out _).mono ?_
    rintro e v ⟨rfl, hp⟩
    have Hn := Lib.hid (show NoW w v from (((Fp.refl _ _).alloc _).alloc _).trans hp (fun _ _ h => h))
    clear hp
    go_wp2_with fail
    go_ret
    exact ⟨rfl, Hn.out⟩
  · have e : elB dl (tkey r a p b q) dl2 (tkey r2 a2 p2 b2 q2) = decide (dl < dl2) := by simp [elB, hd]
    rw [e]
    have e2 : (dl != dl2) = true := by simpa using hd
    clear e hd ha hp hb hq ha2 hp2 hb2 hq2
    go_enter Tryd.func28, Tryd.ntmps28
    go_wp2_with fail
    go_ret
    exact ⟨rfl, (((Fp.refl _ _).alloc _).alloc _)⟩
end Go.Proofs.YtaiimkcmgiceeaaDoor
