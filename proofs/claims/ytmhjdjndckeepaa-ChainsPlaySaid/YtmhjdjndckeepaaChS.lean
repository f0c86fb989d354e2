/- First, Next, Where: walks. -/
import Derived.Test.YtmhjdjndckeepaaChQ
namespace Go.Proofs.Ytmhjdjndckeepaa
set_option linter.unusedVariables false
set_option linter.unusedSimpArgs false
open Go.RowKit
open Go.ChangeMaps (setBlock)
open Go.WideMaps (KeyLaw)

section
variable {w : World} {bc bf bm : Nat} {σ : List Row}

theorem ChRep.alloc (h : ChRep w bc bf bm σ) (O : Obj) : ChRep (w.alloc O) bc bf bm σ := h.stay fun b hb => Below.heap_alloc _ _ _ (by
  simp only [blocks, List.mem_cons] at hb
  rcases hb with rfl | rfl | rfl | hb
  · exact h.lt_bc
  · exact h.lt_bf
  · exact h.lt_bm
  · obtain ⟨x, hx, rfl⟩ := List.mem_map.1 hb; exact h.lt_node hx)
theorem ChRep.drew (h : ChRep w bc bf bm σ) : ChRep w.drew bc bf bm σ := h.stay fun _ _ => rfl
theorem ChRep.lt (h : ChRep w bc bf bm σ) {b : Nat} (hb : b ∈ blocks bc bf bm σ) : b < w.heap.size := by
  simp only [blocks, List.mem_cons] at hb
  rcases hb with rfl | rfl | rfl | hb
  · exact h.lt_bc
  · exact h.lt_bf
  · exact h.lt_bm
  · obtain ⟨x, hx, rfl⟩ := List.mem_map.1 hb; exact h.lt_node hx
theorem ChRep.fp {S : Nat → Prop} {w' : World} (h : ChRep w bc bf bm σ) (hf : Fp S w w') (hs : ∀ b, b ∈ blocks bc bf bm σ → ¬ S b) : ChRep w' bc bf bm σ := h.stay fun b hb => hf.block b (h.lt hb) (hs b hb)

theorem there_no (b : Nat) (a : Option Addr) (n c : Nat) (i : Int) (w : World) (hc : w.cell? ⟨b, 0, none⟩ = some (.slice a n c)) (hx : ¬ (0 ≤ i ∧ i < n)) :
    Calls Try.prog 27 #[.pointer (some ⟨b, 0, none⟩), .int .i64 i] w fun e w' => e = .returned (.bool false) ∧ w = w' :=
  (there_ptr b a n c i w hc).mono fun e w' h => by rw [decide_eq_false hx] at h; exact h
theorem there_yes (b : Nat) (a : Option Addr) (n c : Nat) (i : Int) (w : World) (hc : w.cell? ⟨b, 0, none⟩ = some (.slice a n c)) (hx : 0 ≤ i ∧ i < n) :
    Calls Try.prog 27 #[.pointer (some ⟨b, 0, none⟩), .int .i64 i] w fun e w' => e = .returned (.bool true) ∧ w = w' :=
  (there_ptr b a n c i w hc).mono fun e w' h => by rw [decide_eq_true hx] at h; exact h

set_option maxHeartbeats 400000 in
theorem first_out (h : ChRep w bc bf bm σ) (x : Int) (hx : ¬ (0 ≤ x ∧ x < σ.length)) :
    Calls Try.prog 11 #[.pointer (some ⟨bc, 0, none⟩), .int .i64 x] w (Ret1 (.tuple #[lv lk0, .bool false]) w) := by
  have c0 := h.c0
  have lc := h.lt_bc
  have Hx := Lib.hid hx
  clear hx
  go_enter Try.func11, Try.ntmps11
  go_wp2_with (go_at_call 27; refine (there_no _ (some ⟨bf, 0, none⟩) σ.length σ.length _ _ (by go_simp) Hx.out).mono ?_; rintro e w' ⟨rfl, rfl⟩)
  refine bodyPost_ret (v := .tuple #[lv lk0, .bool false]) (by simp [results, Try.results11, go_sem, lv, lk0]) rfl ⟨rfl, ?_⟩
  (repeat (first | exact Fp.refl _ _ | refine Fp.drew ?_ | refine Fp.drewN ?_ _ | refine Fp.alloc ?_ _ | (refine Fp.setCell ?_ (Or.inl (by simp)) _) | (refine Fp.setCell ?_ (Or.inl (by simp; omega)) _) | refine Fp.trans ?_ (by assumption) (fun _ _ h => h)))

set_option maxHeartbeats 400000 in
theorem first_nil (x : Int) :
    Calls Try.prog 11 #[.pointer none, .int .i64 x] w (Ret1 (.tuple #[lv lk0, .bool false]) w) := by
  go_enter Try.func11, Try.ntmps11
  go_wp2_with (go_at_call 27; refine (there_nil _ _).mono ?_; rintro e w' ⟨rfl, rfl⟩)
  refine bodyPost_ret (v := .tuple #[lv lk0, .bool false]) (by simp [results, Try.results11, go_sem, lv, lk0]) rfl ⟨rfl, ?_⟩
  (repeat (first | exact Fp.refl _ _ | refine Fp.drew ?_ | refine Fp.drewN ?_ _ | refine Fp.alloc ?_ _ | (refine Fp.setCell ?_ (Or.inl (by simp)) _) | (refine Fp.setCell ?_ (Or.inl (by simp; omega)) _) | refine Fp.trans ?_ (by assumption) (fun _ _ h => h)))

set_option maxHeartbeats 400000 in
theorem first_empty (b : Nat) (x : Int) (a : Option Addr) (c : Nat) (c0 : w.cell? ⟨b, 0, none⟩ = some (.slice a 0 c)) :
    Calls Try.prog 11 #[.pointer (some ⟨b, 0, none⟩), .int .i64 x] w (Ret1 (.tuple #[lv lk0, .bool false]) w) := by
  have lc := cell_lt c0
  go_enter Try.func11, Try.ntmps11
  go_wp2_with (go_at_call 27; refine (there_no _ a 0 c _ _ (by go_simp) (by omega)).mono ?_; rintro e w' ⟨rfl, rfl⟩)
  refine bodyPost_ret (v := .tuple #[lv lk0, .bool false]) (by simp [results, Try.results11, go_sem, lv, lk0]) rfl ⟨rfl, ?_⟩
  (repeat (first | exact Fp.refl _ _ | refine Fp.drew ?_ | refine Fp.drewN ?_ _ | refine Fp.alloc ?_ _ | (refine Fp.setCell ?_ (Or.inl (by simp)) _) | (refine Fp.setCell ?_ (Or.inl (by simp; omega)) _) | refine Fp.trans ?_ (by assumption) (fun _ _ h => h)))

set_option maxHeartbeats 400000 in
theorem first_ok (h : ChRep w bc bf bm σ) {i : Nat} {r : Row} (hi : σ[i]? = some r) :
    Calls Try.prog 11 #[.pointer (some ⟨bc, 0, none⟩), .int .i64 i] w (Ret1 (.tuple #[lv (hdl r).1, .bool (hdl r).2]) w) := by
  have hil : i < σ.length := (List.getElem?_eq_some_iff.1 hi).1
  have c0 := h.c0
  have lc := h.lt_bc
  have lf := h.lt_bf
  have hle := h.le
  obtain ⟨f2, f3, f4, f5⟩ := h.front i hil
  have f1 := (h.ring i r hi).first
  have f0 := (h.ring i r hi).last.1
  obtain ⟨⟨p0, o0⟩, hv0⟩ : ∃ v, v = lst (bf, i * 6) (nodes r) := ⟨_, rfl⟩
  obtain ⟨⟨p1, o1⟩, hv1⟩ : ∃ v, v = hd (nodes r) (bf, i * 6) := ⟨_, rfl⟩
  rw [← hv0] at f0
  rw [← hv1] at f1
  have Hv1 := Lib.hid hv1
  clear hv1 hv0
  unfold ptr at f0 f1
  simp only [cl, Nat.add_zero] at f0 f1 f2 f3 f4 f5
  go_enter Try.func11, Try.ntmps11
  go_wp2_with (go_at_call 27; refine (there_yes _ (some ⟨bf, 0, none⟩) σ.length σ.length _ _ (by go_simp) (by omega)).mono ?_; rintro e w' ⟨rfl, rfl⟩)
  refine (behind_ok (r1 := []) (r2 := r) (((h.alloc _).alloc _)) hi ?_ ?_).mono ?_
  · rw [← Hv1.out]; simp [ptr]
  · simp
  rintro e w1 ⟨rfl, hb⟩
  obtain ⟨hc, hf, hz⟩ := hb.bcell
  generalize hdl r = y at *
  obtain ⟨l, t⟩ := y
  have k0 : w1.cell? ⟨w.heap.size, 0, none⟩ = some (.int .i64 0) := by rw [hc _ _ (by simp; omega)]; simp
  have k1 : w1.cell? ⟨w.heap.size, 1, none⟩ = some (.int .u32 0) := by rw [hc _ _ (by simp; omega)]; simp
  have k2 : w1.cell? ⟨w.heap.size, 2, none⟩ = some (.bool false) := by rw [hc _ _ (by simp; omega)]; simp
  unfold lv
  go_wp2_with fail
  refine bodyPost_ret (v := .tuple #[lv l, .bool t]) (by simp only [results, Try.results11, lv]; go_simp) rfl ⟨rfl, ?_⟩
  (repeat (first | exact Fp.refl _ _ | refine Fp.drew ?_ | refine Fp.drewN ?_ _ | refine Fp.alloc ?_ _ | (refine Fp.setCell ?_ (Or.inl (by simp)) _) | (refine Fp.setCell ?_ (Or.inl (by simp; omega)) _) | refine Fp.trans ?_ (by assumption) (fun _ _ h => h)))

set_option maxHeartbeats 400000 in
theorem next_nil (l : Lk) :
    Calls Try.prog 13 #[.pointer none, lv l] w (Ret1 (.tuple #[lv lk0, .bool false, .int .i64 1]) w) := by
  unfold lv
  go_enter Try.func13, Try.ntmps13
  go_wp2_with (go_at_call 23; refine (size_nil _).mono ?_; rintro e w' ⟨rfl, rfl⟩)
  refine bodyPost_ret (v := .tuple #[lv lk0, .bool false, .int .i64 1]) (by simp [results, Try.results13, go_sem, lv, lk0]) rfl ⟨rfl, ?_⟩
  (repeat (first | exact Fp.refl _ _ | refine Fp.drew ?_ | refine Fp.drewN ?_ _ | refine Fp.alloc ?_ _ | (refine Fp.setCell ?_ (Or.inl (by simp)) _) | (refine Fp.setCell ?_ (Or.inl (by simp; omega)) _) | refine Fp.trans ?_ (by assumption) (fun _ _ h => h)))

set_option maxHeartbeats 400000 in
theorem next_empty (l : Lk) (b : Nat) (a : Option Addr) (c : Nat) (c0 : w.cell? ⟨b, 0, none⟩ = some (.slice a 0 c)) :
    Calls Try.prog 13 #[.pointer (some ⟨b, 0, none⟩), lv l] w (Ret1 (.tuple #[lv lk0, .bool false, .int .i64 1]) w) := by
  have lc := cell_lt c0
  unfold lv
  go_enter Try.func13, Try.ntmps13
  go_wp2_with (go_at_call 23; refine (size_ptr _ a 0 c _ (by go_simp)).mono ?_; rintro e w' ⟨rfl, rfl⟩)
  refine bodyPost_ret (v := .tuple #[lv lk0, .bool false, .int .i64 1]) (by simp [results, Try.results13, go_sem, lv, lk0]) rfl ⟨rfl, ?_⟩
  (repeat (first | exact Fp.refl _ _ | refine Fp.drew ?_ | refine Fp.drewN ?_ _ | refine Fp.alloc ?_ _ | (refine Fp.setCell ?_ (Or.inl (by simp)) _) | (refine Fp.setCell ?_ (Or.inl (by simp; omega)) _) | refine Fp.trans ?_ (by assumption) (fun _ _ h => h)))

theorem ChRep.look_no (h : ChRep w bc bf bm σ) {l : Lk} (hl : Lok l) (hno : ∀ x, x ∈ σ.flatten → x.2 ≠ l) :
    (Instr.lookup 69 (.map (some bm)) (.agg #[.int .i64 l.1, .int .u32 l.2.1, .bool l.2.2]) false).run Try.prog w = .ok (.pointer none) w := by
  obtain ⟨m, hm, hp⟩ := h.map
  exact look_miss0 lawLk Try.underlying69 hm (h.keys hp) (lv_key l hl) (h.absent hp hno) (zero_node _)
theorem ChRep.look_yes (h : ChRep w bc bf bm σ) {x : Nat × Lk} (hx : x ∈ σ.flatten) :
    (Instr.lookup 69 (.map (some bm)) (.agg #[.int .i64 x.2.1, .int .u32 x.2.2.1, .bool x.2.2.2]) false).run Try.prog w = .ok (.pointer (some ⟨x.1, 0, none⟩)) w := by
  obtain ⟨m, hm, hp⟩ := h.map
  exact look_hit0 lawLk Try.underlying69 hm (h.keys hp) (h.keysNd hp) (h.inMap hp hx)

set_option maxHeartbeats 400000 in
theorem next_stale (h : ChRep w bc bf bm σ) {l : Lk} (hl : Lok l) (hno : ∀ x, x ∈ σ.flatten → x.2 ≠ l) :
    Calls Try.prog 13 #[.pointer (some ⟨bc, 0, none⟩), lv l] w (Ret1 (.tuple #[lv lk0, .bool false, .int .i64 9]) w) := by
  have c0 := h.c0
  have c1 := h.c1
  have lc := h.lt_bc
  have pos := h.pos
  have hlk := fun O O' => ((h.alloc O).alloc O').drew.look_no hl hno
  have d1 : ((σ.length : Int) == 0) = false := by rw [beq_eq_false_iff_ne]; omega
  unfold lv
  go_enter Try.func13, Try.ntmps13
  go_wp2_with (go_at_call 23; refine (size_ptr _ (some ⟨bf, 0, none⟩) σ.length σ.length _ (by go_simp)).mono ?_; rintro e w' ⟨rfl, rfl⟩)
  (refine wp_still_lit (by kernel_rfl) (by kernel_rfl) ?_; (repeat still_step); refine wpStill_nil ?_)
  go_wp2_with fail
  refine bodyPost_ret (v := .tuple #[lv lk0, .bool false, .int .i64 9]) (by simp [results, Try.results13, go_sem, lv, lk0]) rfl ⟨rfl, ?_⟩
  (repeat (first | exact Fp.refl _ _ | refine Fp.drew ?_ | refine Fp.drewN ?_ _ | refine Fp.alloc ?_ _ | (refine Fp.setCell ?_ (Or.inl (by simp)) _) | (refine Fp.setCell ?_ (Or.inl (by simp; omega)) _) | refine Fp.trans ?_ (by assumption) (fun _ _ h => h)))

set_option maxHeartbeats 400000 in
theorem next_ok (h : ChRep w bc bf bm σ) {i : Nat} {r1 r2 : Row} {x : Nat × Lk} (hi : σ[i]? = some (r1 ++ x :: r2)) :
    Calls Try.prog 13 #[.pointer (some ⟨bc, 0, none⟩), lv x.2] w (Ret1 (.tuple #[lv (hdl r2).1, .bool (hdl r2).2, .int .i64 0]) w) := by
  have c0 := h.c0
  have c1 := h.c1
  have lc := h.lt_bc
  have pos := h.pos
  have hx : x ∈ σ.flatten := mem_flatten_of hi (by simp)
  have lx := h.lt_node hx
  have hring := h.ring i _ hi
  rw [nodes_append, nodes_cons, Ring.split] at hring
  have g1 := hring.2.first
  have g5 := (h.node i _ hi x (by simp)).2.2.2
  have hlk := fun O O' => ((h.alloc O).alloc O').drew.look_yes hx
  have d1 : ((σ.length : Int) == 0) = false := by rw [beq_eq_false_iff_ne]; omega
  unfold lv
  go_enter Try.func13, Try.ntmps13
  go_wp2_with (go_at_call 23; refine (size_ptr _ (some ⟨bf, 0, none⟩) σ.length σ.length _ (by go_simp)).mono ?_; rintro e w' ⟨rfl, rfl⟩)
  (refine wp_still_lit (by kernel_rfl) (by kernel_rfl) ?_; (repeat still_step); refine wpStill_nil ?_)
  go_wp2_with fail
  refine (behind_ok (r1 := r1 ++ [x]) (r2 := r2) (((h.alloc _).alloc _).drew) (by simpa using hi) ?_ ?_).mono ?_
  · simp [cl] at g1; go_simp
  · simp [cl] at g5; go_simp
  rintro e w1 ⟨rfl, hb⟩
  obtain ⟨hc, hf, hz⟩ := hb.bcell
  generalize hdl r2 = y at *
  obtain ⟨l, t⟩ := y
  have hz' : w.heap.size + 1 < w1.heap.size := by simp at hz; omega
  have k0 : w1.cell? ⟨w.heap.size + 1, 0, none⟩ = some (.int .i64 0) := by rw [hc _ _ (by simp)]; simp
  have k1 : w1.cell? ⟨w.heap.size + 1, 1, none⟩ = some (.int .u32 0) := by rw [hc _ _ (by simp)]; simp
  have k2 : w1.cell? ⟨w.heap.size + 1, 2, none⟩ = some (.bool false) := by rw [hc _ _ (by simp)]; simp
  unfold lv
  go_wp2_with fail
  refine bodyPost_ret (v := .tuple #[lv l, .bool t, .int .i64 0]) (by simp only [results, Try.results13, lv]; go_simp) rfl ⟨rfl, ?_⟩
  (repeat (first | exact Fp.refl _ _ | refine Fp.drew ?_ | refine Fp.drewN ?_ _ | refine Fp.alloc ?_ _ | (refine Fp.setCell ?_ (Or.inl (by simp)) _) | (refine Fp.setCell ?_ (Or.inl (by simp; omega)) _) | refine Fp.trans ?_ (by assumption) (fun _ _ h => h)))
end
end Go.Proofs.Ytmhjdjndckeepaa
