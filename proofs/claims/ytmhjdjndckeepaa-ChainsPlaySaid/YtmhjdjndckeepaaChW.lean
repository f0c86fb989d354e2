/- Where, Count, and Put and Cut where they do nothing: walks. -/
import Derived.Test.YtmhjdjndckeepaaChS
namespace Go.Proofs.Ytmhjdjndckeepaa
set_option linter.unusedVariables false
set_option linter.unusedSimpArgs false
open Go.RowKit
open Go.ChangeMaps (setBlock)
open Go.WideMaps (KeyLaw)

section
variable {w : World} {bc bf bm : Nat} {σ : List Row}

set_option maxHeartbeats 400000 in
theorem where_nil (l : Lk) : Calls Try.prog 14 #[.pointer none, lv l] w (Ret1 (.tuple #[.int .i64 0, .bool false]) w) := by
  have d0 : ((0 : Int) == 0) = true := rfl
  unfold lv
  go_enter Try.func14, Try.ntmps14
  go_wp2_with fail
  go_quiet ((go_at_call 23; exact Calls.quiet_of_same ((size_nil _).mono fun _ _ h => ⟨h.1, h.2.symm⟩)))
  go_wp2_with fail
  go_ret2
  refine ⟨rfl, ?_⟩
  (repeat (first | exact Fp.refl _ _ | refine Fp.drew ?_ | refine Fp.drewN ?_ _ | refine Fp.alloc ?_ _ | (refine Fp.setCell ?_ (Or.inl (by simp)) _) | (refine Fp.setCell ?_ (Or.inl (by simp; omega)) _) | refine Fp.trans ?_ (by assumption) (fun _ _ h => h)))

set_option maxHeartbeats 400000 in
theorem where_empty (l : Lk) (b : Nat) (a : Option Addr) (c : Nat) (c0 : w.cell? ⟨b, 0, none⟩ = some (.slice a 0 c)) :
    Calls Try.prog 14 #[.pointer (some ⟨b, 0, none⟩), lv l] w (Ret1 (.tuple #[.int .i64 0, .bool false]) w) := by
  have lc := cell_lt c0
  unfold lv
  go_enter Try.func14, Try.ntmps14
  go_wp2_with fail
  go_quiet ((go_at_call 23; exact Calls.quiet_of_same ((size_ptr _ a 0 c _ (by go_simp)).mono fun _ _ h => ⟨h.1, h.2.symm⟩)))
  go_wp2_with fail
  go_ret2
  refine ⟨rfl, ?_⟩
  (repeat (first | exact Fp.refl _ _ | refine Fp.drew ?_ | refine Fp.drewN ?_ _ | refine Fp.alloc ?_ _ | (refine Fp.setCell ?_ (Or.inl (by simp)) _) | (refine Fp.setCell ?_ (Or.inl (by simp; omega)) _) | refine Fp.trans ?_ (by assumption) (fun _ _ h => h)))

theorem ChRep.drewN (h : ChRep w bc bf bm σ) (n : Nat) : ChRep (w.drewN n) bc bf bm σ := h.stay fun _ _ => rfl

set_option maxHeartbeats 400000 in
theorem where_none (h : ChRep w bc bf bm σ) {l : Lk} (hl : Lok l) (hno : ∀ x, x ∈ σ.flatten → x.2 ≠ l) :
    Calls Try.prog 14 #[.pointer (some ⟨bc, 0, none⟩), lv l] w (Ret1 (.tuple #[.int .i64 0, .bool false]) w) := by
  have c0 := h.c0
  have c1 := h.c1
  have lc := h.lt_bc
  have pos := h.pos
  have hlk := fun O n => ((h.alloc O).drewN n).look_no hl hno
  have d1 : ((σ.length : Int) == 0) = false := by rw [beq_eq_false_iff_ne]; omega
  unfold lv
  go_enter Try.func14, Try.ntmps14
  go_wp2_with fail
  go_quiet ((go_at_call 23; exact Calls.quiet_of_same ((size_ptr _ (some ⟨bf, 0, none⟩) σ.length σ.length _ (by go_simp)).mono fun _ _ h => ⟨h.1, h.2.symm⟩)))
  go_wp2_with fail
  go_ret2
  refine ⟨rfl, ?_⟩
  (repeat (first | exact Fp.refl _ _ | refine Fp.drew ?_ | refine Fp.drewN ?_ _ | refine Fp.alloc ?_ _ | (refine Fp.setCell ?_ (Or.inl (by simp)) _) | (refine Fp.setCell ?_ (Or.inl (by simp; omega)) _) | refine Fp.trans ?_ (by assumption) (fun _ _ h => h)))

set_option maxHeartbeats 400000 in
theorem where_ok (h : ChRep w bc bf bm σ) {i : Nat} {r : Row} {x : Nat × Lk} (hi : σ[i]? = some r) (hxr : x ∈ r) :
    Calls Try.prog 14 #[.pointer (some ⟨bc, 0, none⟩), lv x.2] w (Ret1 (.tuple #[.int .i64 i, .bool true]) w) := by
  have c0 := h.c0
  have c1 := h.c1
  have lc := h.lt_bc
  have pos := h.pos
  have hx : x ∈ σ.flatten := mem_flatten_of hi hxr
  have lx := h.lt_node hx
  have g5 := (h.node i _ hi x hxr).2.2.2
  simp only [cl, Nat.zero_add] at g5
  have hlk := fun O n => ((h.alloc O).drewN n).look_yes hx
  have d1 : ((σ.length : Int) == 0) = false := by rw [beq_eq_false_iff_ne]; omega
  unfold lv
  go_enter Try.func14, Try.ntmps14
  go_wp2_with fail
  go_quiet ((go_at_call 23; exact Calls.quiet_of_same ((size_ptr _ (some ⟨bf, 0, none⟩) σ.length σ.length _ (by go_simp)).mono fun _ _ h => ⟨h.1, h.2.symm⟩)))
  go_wp2_with fail
  have hlk2 := fun O n => ((h.alloc O).drewN n).drew.look_yes hx
  go_quiet (fail)
  go_wp2_with fail
  go_ret2
  refine ⟨rfl, ?_⟩
  (repeat (first | exact Fp.refl _ _ | refine Fp.drew ?_ | refine Fp.drewN ?_ _ | refine Fp.alloc ?_ _ | (refine Fp.setCell ?_ (Or.inl (by simp)) _) | (refine Fp.setCell ?_ (Or.inl (by simp; omega)) _) | refine Fp.trans ?_ (by assumption) (fun _ _ h => h)))

set_option maxHeartbeats 400000 in
theorem count_nil : Calls Try.prog 24 #[.pointer none] w fun e w' => e = .returned (.int .i64 0) ∧ w = w' := by
  go_enter Try.func24, Try.ntmps24
  go_wp2
  go_ret
  exact ⟨rfl, rfl⟩

set_option maxHeartbeats 400000 in
theorem count_empty (b : Nat) (c1 : w.cell? ⟨b, 1, none⟩ = some (.map none)) : Calls Try.prog 24 #[.pointer (some ⟨b, 0, none⟩)] w fun e w' => e = .returned (.int .i64 0) ∧ w = w' := by
  have hlen : ∀ ty, (Builtin.len_ #[69] ty #[.map none]).run Try.prog w = .ok (.int .i64 0) w := fun ty => Maps.len_nil Try.underlying69 ty
  go_enter Try.func24, Try.ntmps24
  go_wp2
  go_ret
  exact ⟨rfl, rfl⟩

set_option maxHeartbeats 400000 in
theorem count_ok (h : ChRep w bc bf bm σ) : Calls Try.prog 24 #[.pointer (some ⟨bc, 0, none⟩)] w fun e w' => e = .returned (.int .i64 σ.flatten.length) ∧ w = w' := by
  obtain ⟨m, hm, hp⟩ := h.map
  have c1 := h.c1
  have hl : m.length = σ.flatten.length := hp.length_eq.trans (by unfold pairs; rw [List.length_map])
  rw [← hl]
  clear hl
  have hlen : ∀ ty, (Builtin.len_ #[69] ty #[.map (some bm)]).run Try.prog w = .ok (.int .i64 m.length) w := fun ty => map_len Try.underlying69 hm ty
  go_enter Try.func24, Try.ntmps24
  go_wp2
  go_ret
  exact ⟨rfl, rfl⟩

set_option maxHeartbeats 400000 in
theorem put_nil (x : Int) (l : Lk) : Calls Try.prog 9 #[.pointer none, .int .i64 x, lv l] w (Ret1 (.int .i64 1) w) := by
  unfold lv
  go_enter Try.func9, Try.ntmps9
  go_wp2_with (go_at_call 23; refine (size_nil _).mono ?_; rintro e w' ⟨rfl, rfl⟩)
  go_ret
  refine ⟨rfl, ?_⟩
  (repeat (first | exact Fp.refl _ _ | refine Fp.drew ?_ | refine Fp.drewN ?_ _ | refine Fp.alloc ?_ _ | (refine Fp.setCell ?_ (Or.inl (by simp)) _) | (refine Fp.setCell ?_ (Or.inl (by simp; omega)) _) | refine Fp.trans ?_ (by assumption) (fun _ _ h => h)))

set_option maxHeartbeats 400000 in
theorem put_empty (x : Int) (l : Lk) (b : Nat) (a : Option Addr) (c : Nat) (c0 : w.cell? ⟨b, 0, none⟩ = some (.slice a 0 c)) :
    Calls Try.prog 9 #[.pointer (some ⟨b, 0, none⟩), .int .i64 x, lv l] w (Ret1 (.int .i64 1) w) := by
  have lc := cell_lt c0
  unfold lv
  go_enter Try.func9, Try.ntmps9
  go_wp2_with (go_at_call 23; refine (size_ptr _ a 0 c _ (by go_simp)).mono ?_; rintro e w' ⟨rfl, rfl⟩)
  go_ret
  refine ⟨rfl, ?_⟩
  (repeat (first | exact Fp.refl _ _ | refine Fp.drew ?_ | refine Fp.drewN ?_ _ | refine Fp.alloc ?_ _ | (refine Fp.setCell ?_ (Or.inl (by simp)) _) | (refine Fp.setCell ?_ (Or.inl (by simp; omega)) _) | refine Fp.trans ?_ (by assumption) (fun _ _ h => h)))

set_option maxHeartbeats 400000 in
theorem put_arg (h : ChRep w bc bf bm σ) (x : Int) (hx : ¬ (0 ≤ x ∧ x < σ.length)) (l : Lk) :
    Calls Try.prog 9 #[.pointer (some ⟨bc, 0, none⟩), .int .i64 x, lv l] w (Ret1 (.int .i64 2) w) := by
  have c0 := h.c0
  have lc := h.lt_bc
  have pos := h.pos
  have d1 : ((σ.length : Int) == 0) = false := by rw [beq_eq_false_iff_ne]; omega
  have Hx := Lib.hid hx
  clear hx
  unfold lv
  go_enter Try.func9, Try.ntmps9
  go_wp2_with (first | (go_at_call 23; refine (size_ptr _ (some ⟨bf, 0, none⟩) σ.length σ.length _ (by go_simp)).mono ?_; rintro e w' ⟨rfl, rfl⟩) | (go_at_call 27; refine (there_no _ (some ⟨bf, 0, none⟩) σ.length σ.length _ _ (by go_simp) Hx.out).mono ?_; rintro e w' ⟨rfl, rfl⟩))
  go_ret
  refine ⟨rfl, ?_⟩
  (repeat (first | exact Fp.refl _ _ | refine Fp.drew ?_ | refine Fp.drewN ?_ _ | refine Fp.alloc ?_ _ | (refine Fp.setCell ?_ (Or.inl (by simp)) _) | (refine Fp.setCell ?_ (Or.inl (by simp; omega)) _) | refine Fp.trans ?_ (by assumption) (fun _ _ h => h)))

set_option maxHeartbeats 400000 in
theorem put_have (h : ChRep w bc bf bm σ) {i : Nat} (hi : i < σ.length) {x : Nat × Lk} (hx : x ∈ σ.flatten) :
    Calls Try.prog 9 #[.pointer (some ⟨bc, 0, none⟩), .int .i64 i, lv x.2] w (Ret1 (.int .i64 7) w) := by
  have c0 := h.c0
  have c1 := h.c1
  have lc := h.lt_bc
  have pos := h.pos
  have hlk := fun O => (h.alloc O).drew.look_yes hx
  have d1 : ((σ.length : Int) == 0) = false := by rw [beq_eq_false_iff_ne]; omega
  unfold lv
  go_enter Try.func9, Try.ntmps9
  go_wp2_with (first | (go_at_call 23; refine (size_ptr _ (some ⟨bf, 0, none⟩) σ.length σ.length _ (by go_simp)).mono ?_; rintro e w' ⟨rfl, rfl⟩) | (go_at_call 27; refine (there_yes _ (some ⟨bf, 0, none⟩) σ.length σ.length _ _ (by go_simp) (by omega)).mono ?_; rintro e w' ⟨rfl, rfl⟩))
  (refine wp_still_lit (by kernel_rfl) (by kernel_rfl) ?_; (repeat still_step); refine wpStill_nil ?_)
  go_wp2_with fail
  go_ret
  refine ⟨rfl, ?_⟩
  (repeat (first | exact Fp.refl _ _ | refine Fp.drew ?_ | refine Fp.drewN ?_ _ | refine Fp.alloc ?_ _ | (refine Fp.setCell ?_ (Or.inl (by simp)) _) | (refine Fp.setCell ?_ (Or.inl (by simp; omega)) _) | refine Fp.trans ?_ (by assumption) (fun _ _ h => h)))

set_option maxHeartbeats 400000 in
theorem cut_nil (l : Lk) : Calls Try.prog 12 #[.pointer none, lv l] w (Ret1 (.int .i64 1) w) := by
  unfold lv
  go_enter Try.func12, Try.ntmps12
  go_wp2_with (go_at_call 23; refine (size_nil _).mono ?_; rintro e w' ⟨rfl, rfl⟩)
  go_ret
  refine ⟨rfl, ?_⟩
  (repeat (first | exact Fp.refl _ _ | refine Fp.drew ?_ | refine Fp.drewN ?_ _ | refine Fp.alloc ?_ _ | (refine Fp.setCell ?_ (Or.inl (by simp)) _) | (refine Fp.setCell ?_ (Or.inl (by simp; omega)) _) | refine Fp.trans ?_ (by assumption) (fun _ _ h => h)))

set_option maxHeartbeats 400000 in
theorem cut_empty (l : Lk) (b : Nat) (a : Option Addr) (c : Nat) (c0 : w.cell? ⟨b, 0, none⟩ = some (.slice a 0 c)) :
    Calls Try.prog 12 #[.pointer (some ⟨b, 0, none⟩), lv l] w (Ret1 (.int .i64 1) w) := by
  have lc := cell_lt c0
  unfold lv
  go_enter Try.func12, Try.ntmps12
  go_wp2_with (go_at_call 23; refine (size_ptr _ a 0 c _ (by go_simp)).mono ?_; rintro e w' ⟨rfl, rfl⟩)
  go_ret
  refine ⟨rfl, ?_⟩
  (repeat (first | exact Fp.refl _ _ | refine Fp.drew ?_ | refine Fp.drewN ?_ _ | refine Fp.alloc ?_ _ | (refine Fp.setCell ?_ (Or.inl (by simp)) _) | (refine Fp.setCell ?_ (Or.inl (by simp; omega)) _) | refine Fp.trans ?_ (by assumption) (fun _ _ h => h)))

set_option maxHeartbeats 400000 in
theorem cut_none (h : ChRep w bc bf bm σ) {l : Lk} (hl : Lok l) (hno : ∀ x, x ∈ σ.flatten → x.2 ≠ l) :
    Calls Try.prog 12 #[.pointer (some ⟨bc, 0, none⟩), lv l] w (Ret1 (.int .i64 6) w) := by
  have c0 := h.c0
  have c1 := h.c1
  have lc := h.lt_bc
  have pos := h.pos
  have hlk := fun O => (h.alloc O).drew.look_no hl hno
  have d1 : ((σ.length : Int) == 0) = false := by rw [beq_eq_false_iff_ne]; omega
  unfold lv
  go_enter Try.func12, Try.ntmps12
  go_wp2_with (go_at_call 23; refine (size_ptr _ (some ⟨bf, 0, none⟩) σ.length σ.length _ (by go_simp)).mono ?_; rintro e w' ⟨rfl, rfl⟩)
  (refine wp_still_lit (by kernel_rfl) (by kernel_rfl) ?_; (repeat still_step); refine wpStill_nil ?_)
  go_wp2_with fail
  go_ret
  refine ⟨rfl, ?_⟩
  (repeat (first | exact Fp.refl _ _ | refine Fp.drew ?_ | refine Fp.drewN ?_ _ | refine Fp.alloc ?_ _ | (refine Fp.setCell ?_ (Or.inl (by simp)) _) | (refine Fp.setCell ?_ (Or.inl (by simp; omega)) _) | refine Fp.trans ?_ (by assumption) (fun _ _ h => h)))
end
end Go.Proofs.Ytmhjdjndckeepaa
