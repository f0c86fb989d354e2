/- The document's functions of chapter 18: Live, Match, Turn, Inside, Less, May; change (written by genref2.py). -/
import Derived.Test.YtaiimkcmgiceeaaDoorEtA
import Derived.Test.YtaiimkcmgiceeaaDoorEaM
namespace Go.Proofs.YtaiimkcmgiceeaaDoor
set_option linter.unusedVariables false
set_option linter.unusedSimpArgs false
open Go.RowKit Go.Lib Go.Sort

theorem rlive_ok (r a p b q r2 a2 p2 b2 q2 : Nat) (st dl : Int) (h : Value) (now : Int) (w : World) : Calls Tryd.prog 33 #[.agg #[.int .u8 r, .int .u32 a, .int .u16 p, .int .u32 b, .int .u16 q, .int .u8 r2, .int .u32 a2, .int .u16 p2, .int .u32 b2, .int .u16 q2, .int .i64 st, .int .i64 dl, h], .int .i64 now] w (Ret1 (.bool (decide (now < dl))) w) := by
  go_enter Tryd.func33, Tryd.ntmps33
  go_wp2_with fail
  go_ret
  exact ⟨rfl, (Fp.refl _ _).alloc _⟩

set_option maxHeartbeats 2000000 in
set_option maxRecDepth 100000 in
theorem rmatch_ok (r a p b q r2 a2 p2 b2 q2 r3 a3 p3 b3 q3 : Nat) (st dl : Int) (h : Value) (w : World) :
    Calls Tryd.prog 32 #[.agg #[.int .u8 r, .int .u32 a, .int .u16 p, .int .u32 b, .int .u16 q, .int .u8 r2, .int .u32 a2, .int .u16 p2, .int .u32 b2, .int .u16 q2, .int .i64 st, .int .i64 dl, h], .agg #[.int .u8 r3, .int .u32 a3, .int .u16 p3, .int .u32 b3, .int .u16 q3]] w (Ret1 (.tuple #[.bool (!decide (r3 = r ∧ a3 = a ∧ p3 = p ∧ b3 = b ∧ q3 = q) && decide (r3 = r2 ∧ a3 = a2 ∧ p3 = p2 ∧ b3 = b2 ∧ q3 = q2)), .bool (decide (r3 = r ∧ a3 = a ∧ p3 = p ∧ b3 = b ∧ q3 = q) || decide (r3 = r2 ∧ a3 = a2 ∧ p3 = p2 ∧ b3 = b2 ∧ q3 = q2))]) w) := by
  have e1 := fun W => tup_eq2 r3 a3 p3 b3 q3 r a p b q W
  have e2 := fun W => tup_eq2 r3 a3 p3 b3 q3 r2 a2 p2 b2 q2 W
  have hn : NoW w ((w.alloc (.cells #[.int .u8 r, .int .u32 a, .int .u16 p, .int .u32 b, .int .u16 q, .int .u8 r2, .int .u32 a2, .int .u16 p2, .int .u32 b2, .int .u16 q2, .int .i64 st, .int .i64 dl, h] 45)).alloc (.cells #[.int .u8 r3, .int .u32 a3, .int .u16 p3, .int .u32 b3, .int .u16 q3] 29)) := ((Fp.refl _ _).alloc _).alloc _
  rcases h1 : decide (r3 = r ∧ a3 = a ∧ p3 = p ∧ b3 = b ∧ q3 = q) with _ | _ <;> rcases h2 : decide (r3 = r2 ∧ a3 = a2 ∧ p3 = p2 ∧ b3 = b2 ∧ q3 = q2) with _ | _ <;> rw [h1] at e1 <;> rw [h2] at e2 <;> clear h1 h2
  · show Calls _ _ _ _ (Ret1 (.tuple #[.bool false, .bool false]) w)
    go_enter Tryd.func32, Tryd.ntmps32
    go_wp2_with fail
    go_quiet (fail)
    go_wp2_with fail
    refine bodyPost_ret (v := .tuple #[.bool false, .bool false]) (by simp only [results, Tryd.results32]; go_simp) rfl ⟨rfl, by first | exact hn | exact hn.drewN _ | exact hn.drew | exact ((Fp.refl _ _).alloc _).alloc _⟩
  · show Calls _ _ _ _ (Ret1 (.tuple #[.bool true, .bool true]) w)
    go_enter Tryd.func32, Tryd.ntmps32
    go_wp2_with fail
    go_quiet (fail)
    go_wp2_with fail
    refine bodyPost_ret (v := .tuple #[.bool true, .bool true]) (by simp only [results, Tryd.results32]; go_simp) rfl ⟨rfl, by first | exact hn | exact hn.drewN _ | exact hn.drew | exact ((Fp.refl _ _).alloc _).alloc _⟩
  · show Calls _ _ _ _ (Ret1 (.tuple #[.bool false, .bool true]) w)
    go_enter Tryd.func32, Tryd.ntmps32
    go_wp2_with fail
    refine bodyPost_ret (v := .tuple #[.bool false, .bool true]) (by simp only [results, Tryd.results32]; go_simp) rfl ⟨rfl, by first | exact hn | exact hn.drewN _ | exact hn.drew | exact ((Fp.refl _ _).alloc _).alloc _⟩
  · show Calls _ _ _ _ (Ret1 (.tuple #[.bool false, .bool true]) w)
    go_enter Tryd.func32, Tryd.ntmps32
    go_wp2_with fail
    refine bodyPost_ret (v := .tuple #[.bool false, .bool true]) (by simp only [results, Tryd.results32]; go_simp) rfl ⟨rfl, by first | exact hn | exact hn.drewN _ | exact hn.drew | exact ((Fp.refl _ _).alloc _).alloc _⟩

theorem rless3_ok (a p b q : Nat) (w : World) :
    Calls Tryd.prog 46 #[.agg #[.int .u32 a, .int .u16 p], .agg #[.int .u32 b, .int .u16 q]] w (Ret1 (.bool (decide (a < b ∨ a = b ∧ p < q))) w) := by
  by_cases h : a = b
  · subst h
    have e : decide (a < a ∨ a = a ∧ p < q) = decide (p < q) := by simp
    rw [e]
    have e0 : decide ((p : Int) < (q : Int)) = decide (p < q) := by rw [decide_eq_decide]; omega
    clear e
    go_enter Tryd.func46, Tryd.ntmps46
    go_wp2_with fail
    go_ret
    exact ⟨by first | rfl | simp, ((Fp.refl _ _).alloc _).alloc _⟩
  · have e2 : ((a : Int) == (b : Int)) = false := beq_eq_false_iff_ne.2 (by omega)
    by_cases hl : a < b
    · rw [show decide (a < b ∨ a = b ∧ p < q) = true by simp [hl]]
      have e0 : decide ((a : Int) < (b : Int)) = true := decide_eq_true (by omega)
      clear h
      go_enter Tryd.func46, Tryd.ntmps46
      go_wp2_with fail
      go_ret
      exact ⟨rfl, ((Fp.refl _ _).alloc _).alloc _⟩
    · rw [show decide (a < b ∨ a = b ∧ p < q) = false by simp [hl, h]]
      have e0 : decide ((a : Int) < (b : Int)) = false := decide_eq_false (by omega)
      clear h
      go_enter Tryd.func46, Tryd.ntmps46
      go_wp2_with fail
      go_ret
      exact ⟨rfl, ((Fp.refl _ _).alloc _).alloc _⟩

set_option maxHeartbeats 2000000 in
theorem rless8_ok (r a p b q r2 a2 p2 b2 q2 : Nat) (ha : a < 4294967296) (hp : p < 65536) (hb : b < 4294967296) (hq : q < 65536) (ha2 : a2 < 4294967296) (hp2 : p2 < 65536) (hb2 : b2 < 4294967296) (hq2 : q2 < 65536) (w : World) :
    Calls Tryd.prog 25 #[.agg #[.int .u8 r, .int .u32 a, .int .u16 p, .int .u32 b, .int .u16 q], .agg #[.int .u8 r2, .int .u32 a2, .int .u16 p2, .int .u32 b2, .int .u16 q2]] w (Ret1 (.bool (decide (tkey r a p b q < tkey r2 a2 p2 b2 q2))) w) := by
  have hk := tkey_lt (k := r) (k2 := r2) ha hp hb hq ha2 hp2 hb2 hq2
  have e : decide (tkey r a p b q < tkey r2 a2 p2 b2 q2) = decide (r < r2 ∨ r = r2 ∧ (if a = a2 ∧ p = p2 then b < b2 ∨ b = b2 ∧ q < q2 else a < a2 ∨ a = a2 ∧ p < p2)) := by rw [decide_eq_decide]; exact hk
  rw [e]
  clear e hk ha hp hb hq ha2 hp2 hb2 hq2
  by_cases hr : r = r2
  · subst hr
    by_cases h1 : a = a2 ∧ p = p2
    · obtain ⟨rfl, rfl⟩ := h1
      have e : decide (r < r ∨ r = r ∧ (if a = a ∧ p = p then b < b2 ∨ b = b2 ∧ q < q2 else a < a ∨ a = a ∧ p < p)) = decide (b < b2 ∨ b = b2 ∧ q < q2) := by simp
      rw [e]
      clear e
      have k := fun W => rless3_ok b q b2 q2 W
      generalize decide (b < b2 ∨ b = b2 ∧ q < q2) = z at k ⊢
      have K := Lib.hid k
      clear k
      go_enter Tryd.func25, Tryd.ntmps25
      go_wp2_with fail
      refine (K.out _).mono ?_
      rintro e v ⟨rfl, hp⟩
      have Hn := Lib.hid (show NoW w v from (((Fp.refl _ _).alloc _).alloc _).trans hp (fun _ _ h => h))
      clear hp
      go_wp2_with fail
      go_ret
      exact ⟨rfl, Hn.out⟩
    · have e : decide (r < r ∨ r = r ∧ (if a = a2 ∧ p = p2 then b < b2 ∨ b = b2 ∧ q < q2 else a < a2 ∨ a = a2 ∧ p < p2)) = decide (a < a2 ∨ a = a2 ∧ p < p2) := by simp [h1]
      rw [e]
      clear e
      have k := fun W => rless3_ok a p a2 p2 W
      generalize decide (a < a2 ∨ a = a2 ∧ p < p2) = z at k ⊢
      have K := Lib.hid k
      clear k
      have e1 : ∀ W, (binOp .neq 27 (.agg #[.int .u32 a, .int .u16 p]) (.agg #[.int .u32 a2, .int .u16 p2])).run Tryd.prog W = .ok (.bool true) W := fun W => by
        by_cases h2 : a = a2
        · subst h2
          have h3 : ((p : Int) == (p2 : Int)) = false := beq_eq_false_iff_ne.2 (fun e => h1 ⟨rfl, by omega⟩)
          go_simp
        · have h3 : ((a : Int) == (a2 : Int)) = false := beq_eq_false_iff_ne.2 (fun e => h2 (by omega))
          go_simp
      clear h1
      go_enter Tryd.func25, Tryd.ntmps25
      go_wp2_with fail
      refine (K.out _).mono ?_
      rintro e v ⟨rfl, hp⟩
      have Hn := Lib.hid (show NoW w v from (((Fp.refl _ _).alloc _).alloc _).trans hp (fun _ _ h => h))
      clear hp
      go_wp2_with fail
      go_ret
      exact ⟨rfl, Hn.out⟩
  · have e : decide (r < r2 ∨ r = r2 ∧ (if a = a2 ∧ p = p2 then b < b2 ∨ b = b2 ∧ q < q2 else a < a2 ∨ a = a2 ∧ p < p2)) = decide (r < r2) := by simp [hr]
    rw [e]
    have e2 : ((r : Int) != (r2 : Int)) = true := by simp; omega
    have e3 : decide ((r : Int) < (r2 : Int)) = decide (r < r2) := by rw [decide_eq_decide]; omega
    clear e hr
    go_enter Tryd.func25, Tryd.ntmps25
    go_wp2_with fail
    go_ret
    exact ⟨by first | rfl | (simp), (((Fp.refl _ _).alloc _).alloc _)⟩


set_option maxHeartbeats 2000000 in
theorem rless18_ok (r a p b q r2 a2 p2 b2 q2 : Nat) (r' a' p' b' q' r2' a2' p2' b2' q2' st st2 dl dl2 : Int) (h h2 : Value) (ha : a < 4294967296) (hp : p < 65536) (hb : b < 4294967296) (hq : q < 65536) (ha2 : a2 < 4294967296) (hp2 : p2 < 65536) (hb2 : b2 < 4294967296) (hq2 : q2 < 65536) (w : World) :
    Calls Tryd.prog 30 #[.agg #[.int .u8 r, .int .u32 a, .int .u16 p, .int .u32 b, .int .u16 q, .int .u8 r', .int .u32 a', .int .u16 p', .int .u32 b', .int .u16 q', .int .i64 st, .int .i64 dl, h], .agg #[.int .u8 r2, .int .u32 a2, .int .u16 p2, .int .u32 b2, .int .u16 q2, .int .u8 r2', .int .u32 a2', .int .u16 p2', .int .u32 b2', .int .u16 q2', .int .i64 st2, .int .i64 dl2, h2]] w (Ret1 (.bool (elB dl (tkey r a p b q) dl2 (tkey r2 a2 p2 b2 q2))) w) := by
  by_cases hd : dl = dl2
  · subst hd
    have k := fun W => rless8_ok r a p b q r2 a2 p2 b2 q2 ha hp hb hq ha2 hp2 hb2 hq2 W
    have e : elB dl (tkey r a p b q) dl (tkey r2 a2 p2 b2 q2) = decide (tkey r a p b q < tkey r2 a2 p2 b2 q2) := by simp [elB]
    rw [e]
    generalize decide (tkey r a p b q < tkey r2 a2 p2 b2 q2) = z at k ⊢
    clear e ha hp hb hq ha2 hp2 hb2 hq2
    have K := Lib.hid k
    clear k
    go_enter Tryd.func30, Tryd.ntmps30
    go_wp2_with fail
    refine (K.out _).mono ?_
    rintro e v ⟨rfl, hp⟩
    have Hn := Lib.hid (show NoW w v from (((Fp.refl _ _).alloc _).alloc _).trans hp (fun _ _ h => h))
    clear hp
    go_wp2_with fail
    go_ret
    exact ⟨rfl, Hn.out⟩
  · have e2 : (dl == dl2) = false := beq_eq_false_iff_ne.2 hd
    by_cases hl : dl < dl2
    · rw [show elB dl (tkey r a p b q) dl2 (tkey r2 a2 p2 b2 q2) = true by simp [elB, hl]]
      have e0 : decide (dl < dl2) = true := decide_eq_true hl
      clear hd hl ha hp hb hq ha2 hp2 hb2 hq2
      go_enter Tryd.func30, Tryd.ntmps30
      go_wp2_with fail
      go_ret
      exact ⟨rfl, (((Fp.refl _ _).alloc _).alloc _)⟩
    · rw [show elB dl (tkey r a p b q) dl2 (tkey r2 a2 p2 b2 q2) = false by simp [elB, hd, hl]]
      have e0 : decide (dl < dl2) = false := decide_eq_false hl
      clear hd hl ha hp hb hq ha2 hp2 hb2 hq2
      go_enter Tryd.func30, Tryd.ntmps30
      go_wp2_with fail
      go_ret
      exact ⟨rfl, (((Fp.refl _ _).alloc _).alloc _)⟩

end Go.Proofs.YtaiimkcmgiceeaaDoor
