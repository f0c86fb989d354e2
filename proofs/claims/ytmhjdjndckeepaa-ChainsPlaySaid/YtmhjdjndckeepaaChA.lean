/- The chains' small functions. -/
import Derived.Test.YtmhjdjndckeepaaBase
import Derived.Test.YtmhjdjndckeepaaRows
namespace Go.Proofs.Ytmhjdjndckeepaa
set_option linter.unusedVariables false
set_option linter.unusedSimpArgs false
open Go.RowKit
open Go.ChangeMaps (setBlock)
open Go.WideMaps (KeyLaw)

theorem Try.own : ownKnob Try.prog.godebug = none := by kernel_rfl
theorem Try.laidOut : laidOutB Try.prog = true := by kernel_rfl

theorem lawLk : KeyLaw Try.prog 33 :=
  deep_law_laid Try.laidOut (m := 4) (by decide) (by decide +kernel) (by kernel_rfl) (by kernel_rfl)

/-- A link, as numbers. -/
abbrev Lk := Int × Int × Bool
def lv (l : Lk) : Value := .agg #[.int .i64 l.1, .int .u32 l.2.1, .bool l.2.2]
def Lok (l : Lk) : Prop := (Lit.int .i64 l.1).wf = true ∧ (Lit.int .u32 l.2.1).wf = true

theorem lv_inj {a b : Lk} (h : lv a = lv b) : a = b := by
  simp [lv] at h; obtain ⟨h1, h2, h3⟩ := h; exact Prod.ext h1 (Prod.ext h2 h3)

theorem lv_lits (d : Nat) (l : Lk) (h : Lok l) : ∃ x, Try.prog.keyLits (d + 3) 33 [.int .i64 l.1, .int .u32 l.2.1, .bool l.2.2] = some x := by
  obtain ⟨h1, h2⟩ := h
  have c1 : Try.prog.cellsOf 33 = 3 := by kernel_rfl
  have c2 : Try.prog.cellsOf 31 = 2 := by kernel_rfl
  have c3 : Try.prog.cellsOf 3 = 1 := by kernel_rfl
  have c4 : Try.prog.cellsOf 29 = 1 := by kernel_rfl
  have c5 : Try.prog.cellsOf 4 = 1 := by kernel_rfl
  refine ⟨[.int .i64 l.1, .int .u32 l.2.1, .bool l.2.2], ?_⟩
  simp [Program.keyLits, Try.underlying33, Try.underlying31, Try.underlying3, Try.underlying29, Try.underlying4, c1, c2, c3, c4, c5, h1, h2]
  rw [if_pos (by intro i hi; rcases i with _ | _ | i; all_goals first | omega | simp)]
  rfl

theorem lv_key (l : Lk) (h : Lok l) : ∃ x, keyOf Try.prog 33 (lv l) = some x := by
  have hkt : Try.prog.keyType 33 = true := by kernel_rfl
  have hf : Value.formed Try.prog 33 (lv l) = true := by kernel_rfl
  have hd : Try.prog.types.size + 1 = (Try.prog.types.size - 2) + 3 := by kernel_rfl
  obtain ⟨x, hx⟩ := lv_lits (Try.prog.types.size - 2) l h
  unfold keyOf
  rw [hd]
  simp only [Try.underlying33, hkt, hf, Bool.and_self, ↓reduceIte]
  refine ⟨.string (keyBytes x), ?_⟩
  have : (lv l).cells.toList = [.int .i64 l.1, .int .u32 l.2.1, .bool l.2.2] := rfl
  rw [this, hx]
  rfl

set_option maxHeartbeats 400000 in
theorem size_nil (w : World) :
    Calls Try.prog 23 #[.pointer none] w fun e w' => e = .returned (.int .i64 0) ∧ w = w' := by
  go_enter Try.func23, Try.ntmps23
  go_wp2
  go_ret
  exact ⟨rfl, rfl⟩

set_option maxHeartbeats 400000 in
theorem size_ptr (b : Nat) (a : Option Addr) (n c : Nat) (w : World) (hc : w.cell? ⟨b, 0, none⟩ = some (.slice a n c)) :
    Calls Try.prog 23 #[.pointer (some ⟨b, 0, none⟩)] w fun e w' => e = .returned (.int .i64 n) ∧ w = w' := by
  go_enter Try.func23, Try.ntmps23
  go_wp2
  go_ret
  exact ⟨rfl, rfl⟩

set_option maxHeartbeats 400000 in
theorem link_any (n : Int) (w : World) :
    Calls Try.prog 10 #[.int .i64 n] w fun e w' => e = .returned (lv (n, 0, false)) ∧ Fp (fun _ => False) w w' := by
  go_enter Try.func10, Try.ntmps10
  go_wp2
  exact bodyPost_ret (v := lv (n, 0, false)) (by simp [results, Try.results10, go_sem, lv]) rfl ⟨rfl, (Fp.refl _ _).alloc _⟩

set_option maxHeartbeats 400000 in
theorem there_ptr (b : Nat) (a : Option Addr) (n c : Nat) (i : Int) (w : World) (hc : w.cell? ⟨b, 0, none⟩ = some (.slice a n c)) :
    Calls Try.prog 27 #[.pointer (some ⟨b, 0, none⟩), .int .i64 i] w fun e w' => e = .returned (.bool (decide (0 ≤ i ∧ i < n))) ∧ w = w' := by
  by_cases h0 : 0 ≤ i
  · have h0' : decide (0 ≤ i) = true := by simpa using h0
    go_enter Try.func27, Try.ntmps27
    go_wp2_with (go_at_call 23; refine (size_ptr _ _ _ _ _ hc).mono ?_; rintro e w' ⟨rfl, rfl⟩)
    go_ret
    exact ⟨by simp [h0], rfl⟩
  · have h0' : decide (0 ≤ i) = false := by simpa using h0
    go_enter Try.func27, Try.ntmps27
    go_wp2
    go_ret
    exact ⟨by simp, rfl⟩

set_option maxHeartbeats 400000 in
theorem there_nil (i : Int) (w : World) :
    Calls Try.prog 27 #[.pointer none, .int .i64 i] w fun e w' => e = .returned (.bool false) ∧ w = w' := by
  by_cases h0 : 0 ≤ i
  · have h0' : decide (0 ≤ i) = true := by simpa using h0
    have h1' : decide (i < 0) = false := by simpa using h0
    go_enter Try.func27, Try.ntmps27
    go_wp2_with (go_at_call 23; refine (size_nil _).mono ?_; rintro e w' ⟨rfl, rfl⟩)
    go_ret
    exact ⟨rfl, rfl⟩
  · have h0' : decide (0 ≤ i) = false := by simpa using h0
    go_enter Try.func27, Try.ntmps27
    go_wp2
    go_ret
    exact ⟨rfl, rfl⟩

set_option maxHeartbeats 400000 in
theorem join_any (b o c p : Nat) (v1 u0 : Value) (w : World)
    (h0 : w.cell? ⟨b, o + 1, none⟩ = some v1) (h1 : w.cell? ⟨c, p, none⟩ = some u0)
    (f0 : w.frozen? ⟨b, o + 1, none⟩ = false) (f1 : w.frozen? ⟨c, p, none⟩ = false) (hne : ¬ (c = b ∧ p = o + 1)) :
    Calls Try.prog 26 #[.pointer (some ⟨b, o, none⟩), .pointer (some ⟨c, p, none⟩)] w fun e w' => e = .returned (.tuple #[]) ∧ (w.setCell ⟨b, o + 1, none⟩ (.pointer (some ⟨c, p, none⟩))).setCell ⟨c, p, none⟩ (.pointer (some ⟨b, o, none⟩)) = w' := by
  have h2 : (w.setCell ⟨b, o + 1, none⟩ (.pointer (some ⟨c, p, none⟩))).cell? ⟨c, p, none⟩ = some u0 := by
    rw [World.cell?_setCell_other _ _ _ _ (by simp; omega)]; exact h1
  go_enter Try.func26, Try.ntmps26
  go_wp2
  go_end0
  exact ⟨rfl, rfl⟩
end Go.Proofs.Ytmhjdjndckeepaa
