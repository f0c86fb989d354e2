/- Chapter 08: the order of tuples (of chapter 18's texts). · Chapter 08: a tuple, turned about; the text of one that may not be (written by gen8x.py). -/
import Derived.Test.YtmghjaoodnkjlaaGreatDoorEnD
import Derived.Test.YtmghjaoodnkjlaaGreatDoorZc
import Derived.Test.YtmghjaoodnkjlaaGreatDoorBase
import Derived.Test.YtmghjaoodnkjlaaGreatDoorZt
import Derived.Test.YtmghjaoodnkjlaaGreatDoorZp
import Derived.Test.YtmghjaoodnkjlaaGreatDoorEpT
import Derived.Test.YtmghjaoodnkjlaaGreatDoorSeeE
namespace Go.Proofs.YtmghjaoodnkjlaaGreatDoor
set_option linter.unusedVariables false
set_option linter.unusedSimpArgs false
open Go.RowKit Go.Lib Go.Sort
/-- A tuple as a number, by which tuples are in order. -/
def tkey (k a p b q : Nat) : Nat := (((k * 4294967296 + a) * 65536 + p) * 4294967296 + b) * 65536 + q
theorem tkey_lt {k a p b q k2 a2 p2 b2 q2 : Nat} (ha : a < 4294967296) (hp : p < 65536) (hb : b < 4294967296) (hq : q < 65536) (ha2 : a2 < 4294967296) (hp2 : p2 < 65536) (hb2 : b2 < 4294967296) (hq2 : q2 < 65536) :
    tkey k a p b q < tkey k2 a2 p2 b2 q2 ↔ (k < k2 ∨ k = k2 ∧ (if a = a2 ∧ p = p2 then b < b2 ∨ b = b2 ∧ q < q2 else a < a2 ∨ a = a2 ∧ p < p2)) := by
  unfold tkey
  split <;> omega
set_option maxHeartbeats 2000000 in
theorem tless_ok (r a p b q r2 a2 p2 b2 q2 : Nat) (ha : a < 4294967296) (hp : p < 65536) (hb : b < 4294967296) (hq : q < 65536) (ha2 : a2 < 4294967296) (hp2 : p2 < 65536) (hb2 : b2 < 4294967296) (hq2 : q2 < 65536) (w : World) :
    Calls Tryz.prog 19 #[.agg #[.int .u8 r, .int .u32 a, .int .u16 p, .int .u32 b, .int .u16 q], .agg #[.int .u8 r2, .int .u32 a2, .int .u16 p2, .int .u32 b2, .int .u16 q2]] w (Ret1 (.bool (decide (tkey r a p b q < tkey r2 a2 p2 b2 q2))) w) := by
  have hk := tkey_lt (k := r) (k2 := r2) ha hp hb hq ha2 hp2 hb2 hq2
  have e : decide (tkey r a p b q < tkey r2 a2 p2 b2 q2) = decide (r < r2 ∨ r = r2 ∧ (if a = a2 ∧ p = p2 then b < b2 ∨ b = b2 ∧ q < q2 else a < a2 ∨ a = a2 ∧ p < p2)) := by rw [decide_eq_decide]; exact hk
  rw [e]
  clear e hk ha hp hb hq ha2 hp2 hb2 hq2
  by_cases hr : r = r2
  · subst hr
    by_cases h1 : a = a2 ∧ p = p2
    · obtain ⟨rfl, rfl⟩ := h1
      have e : decide (r < r ∨ r = r ∧ (if a = a ∧ p = p then b < b2 ∨ b = b2 ∧ q < q2 else a < a ∨ a = a ∧ p < p)) = decide (b < b2 ∨ b = b2 ∧ q < q2) := by simp
      rw [e]
      clear e
      have k := fun W => less_ok b q b2 q2 W
      generalize decide (b < b2 ∨ b = b2 ∧ q < q2) = z at k ⊢
      have K := Lib.hid k
      clear k
      go_enter Tryz.func19, Tryz.ntmps19
      go_wp2_with fail
      refine (K.out _).mono ?_
      rintro e v ⟨rfl, hp⟩
      have Hn := Lib.hid (show NoW w v from (((Fp.refl _ _).alloc _).alloc _).trans hp (fun _ _ h => h))
      clear hp
      go_wp2_with fail
      go_ret
      exact ⟨rfl, Hn.out⟩
    · have e : decide (r < r ∨ r = r ∧ (if a = a2 ∧ p = p2 then b < b2 ∨ b = b2 ∧ q < q2 else a < a2 ∨ a = a2 ∧ p < p2)) = decide (a < a2 ∨ a = a2 ∧ p < p2) := by simp [h1]
      rw [e]
      clear e
      have k := fun W => less_ok a p a2 p2 W
      generalize decide (a < a2 ∨ a = a2 ∧ p < p2) = z at k ⊢
      have K := Lib.hid k
      clear k
      have e1 : ∀ W, (binOp .neq 27 (.agg #[.int .u32 a, .int .u16 p]) (.agg #[.int .u32 a2, .int .u16 p2])).run Tryz.prog W = .ok (.bool true) W := fun W => by
        by_cases h2 : a = a2
        · subst h2
          have h3 : ((p : Int) == (p2 : Int)) = false := beq_eq_false_iff_ne.2 (fun e => h1 ⟨rfl, by omega⟩)
          go_simp
        · have h3 : ((a : Int) == (a2 : Int)) = false := beq_eq_false_iff_ne.2 (fun e => h2 (by omega))
          go_simp
      clear h1
      go_enter Tryz.func19, Tryz.ntmps19
      go_wp2_with fail
      refine (K.out _).mono ?_
      rintro e v ⟨rfl, hp⟩
      have Hn := Lib.hid (show NoW w v from (((Fp.refl _ _).alloc _).alloc _).trans hp (fun _ _ h => h))
      clear hp
      go_wp2_with fail
      go_ret
      exact ⟨rfl, Hn.out⟩
  · have e : decide (r < r2 ∨ r = r2 ∧ (if a = a2 ∧ p = p2 then b < b2 ∨ b = b2 ∧ q < q2 else a < a2 ∨ a = a2 ∧ p < p2)) = decide (r < r2) := by simp [hr]
    rw [e]
    have e2 : ((r : Int) != (r2 : Int)) = true := by simp; omega
    have e3 : decide ((r : Int) < (r2 : Int)) = decide (r < r2) := by rw [decide_eq_decide]; omega
    clear e hr
    go_enter Tryz.func19, Tryz.ntmps19
    go_wp2_with fail
    go_ret
    exact ⟨by first | rfl | (simp), (((Fp.refl _ _).alloc _).alloc _)⟩
theorem rless3_ok (a p b q : Nat) (w : World) :
    Calls Tryz.prog 43 #[.agg #[.int .u32 a, .int .u16 p], .agg #[.int .u32 b, .int .u16 q]] w (Ret1 (.bool (decide (a < b ∨ a = b ∧ p < q))) w) := by
  by_cases h : a = b
  · subst h
    have e : decide (a < a ∨ a = a ∧ p < q) = decide (p < q) := by simp
    rw [e]
    have e0 : decide ((p : Int) < (q : Int)) = decide (p < q) := by rw [decide_eq_decide]; omega
    clear e
    go_enter Tryz.func43, Tryz.ntmps43
    go_wp2_with fail
    go_ret
    exact ⟨by first | rfl | simp, ((Fp.refl _ _).alloc _).alloc _⟩
  · have e2 : ((a : Int) == (b : Int)) = false := beq_eq_false_iff_ne.2 (by omega)
    by_cases hl : a < b
    · rw [show decide (a < b ∨ a = b ∧ p < q) = true by simp [hl]]
      have e0 : decide ((a : Int) < (b : Int)) = true := decide_eq_true (by omega)
      clear h
      go_enter Tryz.func43, Tryz.ntmps43
      go_wp2_with fail
      go_ret
      exact ⟨rfl, ((Fp.refl _ _).alloc _).alloc _⟩
    · rw [show decide (a < b ∨ a = b ∧ p < q) = false by simp [hl, h]]
      have e0 : decide ((a : Int) < (b : Int)) = false := decide_eq_false (by omega)
      clear h
      go_enter Tryz.func43, Tryz.ntmps43
      go_wp2_with fail
      go_ret
      exact ⟨rfl, ((Fp.refl _ _).alloc _).alloc _⟩
set_option maxHeartbeats 2000000 in
theorem rless8_ok (r a p b q r2 a2 p2 b2 q2 : Nat) (ha : a < 4294967296) (hp : p < 65536) (hb : b < 4294967296) (hq : q < 65536) (ha2 : a2 < 4294967296) (hp2 : p2 < 65536) (hb2 : b2 < 4294967296) (hq2 : q2 < 65536) (w : World) :
    Calls Tryz.prog 20 #[.agg #[.int .u8 r, .int .u32 a, .int .u16 p, .int .u32 b, .int .u16 q], .agg #[.int .u8 r2, .int .u32 a2, .int .u16 p2, .int .u32 b2, .int .u16 q2]] w (Ret1 (.bool (decide (tkey r a p b q < tkey r2 a2 p2 b2 q2))) w) := by
  have hk := tkey_lt (k := r) (k2 := r2) ha hp hb hq ha2 hp2 hb2 hq2
  have e : decide (tkey r a p b q < tkey r2 a2 p2 b2 q2) = decide (r < r2 ∨ r = r2 ∧ (if a = a2 ∧ p = p2 then b < b2 ∨ b = b2 ∧ q < q2 else a < a2 ∨ a = a2 ∧ p < p2)) := by rw [decide_eq_decide]; exact hk
  rw [e]
  clear e hk ha hp hb hq ha2 hp2 hb2 hq2
  by_cases hr : r = r2
  · subst hr
    by_cases h1 : a = a2 ∧ p = p2
    · obtain ⟨rfl, rfl⟩ := h1
      have e : decide (r < r ∨ r = r ∧ (if a = a ∧ p = p then b < b2 ∨ b = b2 ∧ q < q2 else a < a ∨ a = a ∧ p < p)) = decide (b < b2 ∨ b = b2 ∧ q < q2) := by simp
      rw [e]
      clear e
      have k := fun W => rless3_ok b q b2 q2 W
      generalize decide (b < b2 ∨ b = b2 ∧ q < q2) = z at k ⊢
      have K := Lib.hid k
      clear k
      go_enter Tryz.func20, Tryz.ntmps20
      go_wp2_with fail
      refine (K.out _).mono ?_
      rintro e v ⟨rfl, hp⟩
      have Hn := Lib.hid (show NoW w v from (((Fp.refl _ _).alloc _).alloc _).trans hp (fun _ _ h => h))
      clear hp
      go_wp2_with fail
      go_ret
      exact ⟨rfl, Hn.out⟩
    · have e : decide (r < r ∨ r = r ∧ (if a = a2 ∧ p = p2 then b < b2 ∨ b = b2 ∧ q < q2 else a < a2 ∨ a = a2 ∧ p < p2)) = decide (a < a2 ∨ a = a2 ∧ p < p2) := by simp [h1]
      rw [e]
      clear e
      have k := fun W => rless3_ok a p a2 p2 W
      generalize decide (a < a2 ∨ a = a2 ∧ p < p2) = z at k ⊢
      have K := Lib.hid k
      clear k
      have e1 : ∀ W, (binOp .neq 27 (.agg #[.int .u32 a, .int .u16 p]) (.agg #[.int .u32 a2, .int .u16 p2])).run Tryz.prog W = .ok (.bool true) W := fun W => by
        by_cases h2 : a = a2
        · subst h2
          have h3 : ((p : Int) == (p2 : Int)) = false := beq_eq_false_iff_ne.2 (fun e => h1 ⟨rfl, by omega⟩)
          go_simp
        · have h3 : ((a : Int) == (a2 : Int)) = false := beq_eq_false_iff_ne.2 (fun e => h2 (by omega))
          go_simp
      clear h1
      go_enter Tryz.func20, Tryz.ntmps20
      go_wp2_with fail
      refine (K.out _).mono ?_
      rintro e v ⟨rfl, hp⟩
      have Hn := Lib.hid (show NoW w v from (((Fp.refl _ _).alloc _).alloc _).trans hp (fun _ _ h => h))
      clear hp
      go_wp2_with fail
      go_ret
      exact ⟨rfl, Hn.out⟩
  · have e : decide (r < r2 ∨ r = r2 ∧ (if a = a2 ∧ p = p2 then b < b2 ∨ b = b2 ∧ q < q2 else a < a2 ∨ a = a2 ∧ p < p2)) = decide (r < r2) := by simp [hr]
    rw [e]
    have e2 : ((r : Int) != (r2 : Int)) = true := by simp; omega
    have e3 : decide ((r : Int) < (r2 : Int)) = decide (r < r2) := by rw [decide_eq_decide]; omega
    clear e hr
    go_enter Tryz.func20, Tryz.ntmps20
    go_wp2_with fail
    go_ret
    exact ⟨by first | rfl | (simp), (((Fp.refl _ _).alloc _).alloc _)⟩
end Go.Proofs.YtmghjaoodnkjlaaGreatDoor
namespace Go.Proofs.YtmghjaoodnkjlaaGreatDoor
set_option linter.unusedVariables false
set_option linter.unusedSimpArgs false
open Go.RowKit Go.Lib Go.Sort
theorem back_ok (k a p b q : Nat) (w : World) : Calls Tryz.prog 16 #[.agg #[.int .u8 (k : Nat), .int .u32 (a : Nat), .int .u16 (p : Nat), .int .u32 (b : Nat), .int .u16 (q : Nat)]] w (Ret1 (.agg #[.int .u8 (k : Nat), .int .u32 (b : Nat), .int .u16 (q : Nat), .int .u32 (a : Nat), .int .u16 (p : Nat)]) w) := by
  go_enter Tryz.func16, Tryz.ntmps16
  go_wp2_with fail
  refine bodyPost_ret (v := .agg #[.int .u8 (k : Nat), .int .u32 (b : Nat), .int .u16 (q : Nat), .int .u32 (a : Nat), .int .u16 (p : Nat)]) (by simp only [results, Tryz.results16]; go_simp) rfl ⟨rfl, ?_⟩
  exact ((Fp.refl _ _).alloc _).alloc _
theorem rback_ok (k a p b q : Nat) (w : World) : Calls Tryz.prog 17 #[.agg #[.int .u8 (k : Nat), .int .u32 (a : Nat), .int .u16 (p : Nat), .int .u32 (b : Nat), .int .u16 (q : Nat)]] w (Ret1 (.agg #[.int .u8 (k : Nat), .int .u32 (b : Nat), .int .u16 (q : Nat), .int .u32 (a : Nat), .int .u16 (p : Nat)]) w) := by
  go_enter Tryz.func17, Tryz.ntmps17
  go_wp2_with fail
  refine bodyPost_ret (v := .agg #[.int .u8 (k : Nat), .int .u32 (b : Nat), .int .u16 (q : Nat), .int .u32 (a : Nat), .int .u16 (p : Nat)]) (by simp only [results, Tryz.results17]; go_simp) rfl ⟨rfl, ?_⟩
  exact ((Fp.refl _ _).alloc _).alloc _
def tupX (k a p b q : Nat) : List UInt8 := if tupB k p q = true then tupT k a p b q else []
theorem text_any (k a p b q : Nat) (hk : k < 256) (ha : a < 4294967296) (hp : p < 65536) (hb : b < 4294967296) (hq : q < 65536) (w : World) (ht : Tb w) :
    Calls Tryz.prog 14 #[.agg #[.int .u8 (k : Nat), .int .u32 (a : Nat), .int .u16 (p : Nat), .int .u32 (b : Nat), .int .u16 (q : Nat)]] w (Ret1 (str (tupX k a p b q)) w) := by
  unfold tupX
  by_cases h : tupB k p q = true
  · rw [if_pos h]
    exact tup_text k a p b q hk ha hp hb hq h w ht
  · rw [if_neg h]
    have hf : tupB k p q = false := by simpa using h
    have K := fun w (ht : Tb w) => tup_ok k a p b q hk w ht
    rw [hf] at K
    have KK := Lib.hid K
    have HT := Lib.hid ht
    clear K h hf ht
    go_enter Tryz.func14, Tryz.ntmps14
    go_wp2_with fail
    have hn : NoW w (w.alloc (.cells #[.int .u8 (k : Nat), .int .u32 (a : Nat), .int .u16 (p : Nat), .int .u32 (b : Nat), .int .u16 (q : Nat)] 29)) := (Fp.refl _ _).alloc _
    refine (KK.out _ (HT.out.low hn)).mono ?_
    rintro e w1 ⟨rfl, hp1⟩
    have HN := Lib.hid (hn.trans hp1 (fun _ _ h => h))
    clear hp1 hn
    go_wp2_with fail
    go_ret
    exact ⟨rfl, HN.out⟩
theorem rtext_any (k a p b q : Nat) (hk : k < 256) (ha : a < 4294967296) (hp : p < 65536) (hb : b < 4294967296) (hq : q < 65536) (w : World) :
    Calls Tryz.prog 21 #[.agg #[.int .u8 (k : Nat), .int .u32 (a : Nat), .int .u16 (p : Nat), .int .u32 (b : Nat), .int .u16 (q : Nat)]] w (Ret1 (str (tupX k a p b q)) w) := by
  unfold tupX
  by_cases h : tupB k p q = true
  · rw [if_pos h]
    exact rtup_text k a p b q ha hp hb hq h w
  · rw [if_neg h]
    have hf : tupB k p q = false := by simpa using h
    have K := fun w => rmay8_ok k a p b q w
    rw [hf] at K
    have KK := Lib.hid K
    skip
    clear K h hf
    go_enter Tryz.func21, Tryz.ntmps21
    go_wp2_with fail
    have hn : NoW w (w.alloc (.cells #[.int .u8 (k : Nat), .int .u32 (a : Nat), .int .u16 (p : Nat), .int .u32 (b : Nat), .int .u16 (q : Nat)] 29)) := (Fp.refl _ _).alloc _
    refine (KK.out _).mono ?_
    rintro e w1 ⟨rfl, hp1⟩
    have HN := Lib.hid (hn.trans hp1 (fun _ _ h => h))
    clear hp1 hn
    go_wp2_with fail
    go_ret
    exact ⟨rfl, HN.out⟩
end Go.Proofs.YtmghjaoodnkjlaaGreatDoor
