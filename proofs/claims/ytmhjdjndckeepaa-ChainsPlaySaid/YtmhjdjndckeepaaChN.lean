/- New: the walk. -/
import Derived.Test.YtmhjdjndckeepaaChX
namespace Go.Proofs.Ytmhjdjndckeepaa
set_option linter.unusedVariables false
set_option linter.unusedSimpArgs false
open Go.RowKit
open Go.ChangeMaps (setBlock)
open Go.WideMaps (KeyLaw)

def zr : Array Value := #[.pointer none, .pointer none, .int .i64 0, .int .u32 0, .bool false, .int .i64 0]
def mc (n : Nat) : Array Value := madeCells zr (n * 6)

theorem infoChain : ∃ i, Try.prog.info? 79 = some i ∧ i.zero = some (.agg zr) ∧ i.size = 6 ∧ i.bytes ≤ 64 := by
  have h : ((Try.prog.info? 79).map fun i => (i.zero, i.size, decide (i.bytes ≤ 64))) = some (some (.agg zr), 6, true) := by kernel_rfl
  rcases hi : Try.prog.info? 79 with _ | i
  · simp [hi] at h
  · simp [hi] at h
    exact ⟨i, rfl, h.1, h.2.1, h.2.2⟩

theorem run_mk (n : Nat) (hn : n ≤ 64) (W : World) : (Instr.makeSlice 68 (.int .i64 n) (.int .i64 n)).run Try.prog W = .ok (.slice (some ⟨W.heap.size, 0, none⟩) n n) (W.alloc (.cells (mc n) 79)) := by
  obtain ⟨i, hi, hz, hs, hb⟩ := infoChain
  have hb2 : (i.bytes : Int) * (n : Int) ≤ 281474976710656 := by
    have h := Nat.mul_le_mul hb hn
    have h' : ((i.bytes * n : Nat) : Int) ≤ 4096 := by omega
    rw [Int.natCast_mul] at h'; omega
  have := run_makeSlice W 68 79 i (.agg zr) Try.underlying68 hi hz .i64 .i64 n n (by omega) (by omega) (by rw [hs]; omega) hb2 (by omega)
  rw [hs] at this
  simpa [mc, Value.cells] using this

theorem mc_get (n j c : Nat) (hj : j < n) (hc : c < 6) : (mc n)[j * 6 + c]? = zr[c]? := by
  have : (j * 6 + c) < n * 6 := by omega
  have e : (j * 6 + c) % zr.size = c := by show (j * 6 + c) % 6 = c; omega
  have hz : c < zr.size := hc
  simp [mc, madeCells, this, e, hz]

/-- The fronts in the middle of their making: the first k are rings of their own. -/
structure Fronts (w : World) (bf n k : Nat) : Prop where
  z : ∀ o, w.frozen? ⟨bf, o, none⟩ = false
  d : ∀ j, j < n → cl w (bf, j * 6) 2 = some (.int .i64 0) ∧ cl w (bf, j * 6) 3 = some (.int .u32 0) ∧ cl w (bf, j * 6) 4 = some (.bool false) ∧ cl w (bf, j * 6) 5 = some (.int .i64 0)
  p : ∀ j, j < n → (∃ u, cl w (bf, j * 6) 0 = some u) ∧ ∃ u, cl w (bf, j * 6) 1 = some u
  r : ∀ j, j < k → cl w (bf, j * 6) 0 = some (ptr (bf, j * 6)) ∧ cl w (bf, j * 6) 1 = some (ptr (bf, j * 6))

theorem Fronts.made (W w : World) (n : Nat) (h : w.heap[W.heap.size]? = some (.cells (mc n) 79 (0, 0))) : Fronts w W.heap.size n 0 := by
  have e : ∀ j c, j < n → c < 6 → cl w (W.heap.size, j * 6) c = zr[c]? := fun j c hj hc => by
    unfold cl World.cell?; simp only [h]; simpa using mc_get n j c hj hc
  refine ⟨fun o => by simp [World.frozen?, h], fun j hj => ?_, fun j hj => ?_, fun j hj => by omega⟩
  · rw [e j 2 hj (by omega), e j 3 hj (by omega), e j 4 hj (by omega), e j 5 hj (by omega)]; exact ⟨rfl, rfl, rfl, rfl⟩
  · rw [e j 0 hj (by omega), e j 1 hj (by omega)]; exact ⟨⟨_, rfl⟩, ⟨_, rfl⟩⟩

theorem Fronts.next {w : World} {bf n k : Nat} (h : Fronts w bf n k) (hk : k < n) :
    Fronts ((w.setCell ⟨bf, k * 6 + 1, none⟩ (ptr (bf, k * 6))).setCell ⟨bf, k * 6, none⟩ (ptr (bf, k * 6))) bf n (k + 1) := by
  obtain ⟨⟨u0, h0⟩, ⟨u1, h1⟩⟩ := h.p k hk
  have same : ∀ j c, ¬ (j = k ∧ c = 0) → ¬ (j = k ∧ c = 1) → c < 6 → cl ((w.setCell ⟨bf, k * 6 + 1, none⟩ (ptr (bf, k * 6))).setCell ⟨bf, k * 6, none⟩ (ptr (bf, k * 6))) (bf, j * 6) c = cl w (bf, j * 6) c := by
    intro j c h2 h3 hc
    unfold cl
    rw [World.cell?_setCell_other _ _ _ _ (by simp <;> omega), World.cell?_setCell_other _ _ _ _ (by simp <;> omega)]
  have s1 : cl ((w.setCell ⟨bf, k * 6 + 1, none⟩ (ptr (bf, k * 6))).setCell ⟨bf, k * 6, none⟩ (ptr (bf, k * 6))) (bf, k * 6) 1 = some (ptr (bf, k * 6)) := by
    unfold cl
    rw [World.cell?_setCell_other _ _ _ _ (by simp)]
    exact World.cell?_setCell_same _ _ _ h1
  have s0 : cl ((w.setCell ⟨bf, k * 6 + 1, none⟩ (ptr (bf, k * 6))).setCell ⟨bf, k * 6, none⟩ (ptr (bf, k * 6))) (bf, k * 6) 0 = some (ptr (bf, k * 6)) := by
    unfold cl
    refine World.cell?_setCell_same _ _ _ (u := u0) ?_
    rw [World.cell?_setCell_other _ _ _ _ (by simp)]
    exact h0
  refine ⟨fun o => by simp [h.z o], fun j hj => ?_, fun j hj => ?_, fun j hj => ?_⟩
  · rw [same j 2 (by omega) (by omega) (by omega), same j 3 (by omega) (by omega) (by omega), same j 4 (by omega) (by omega) (by omega), same j 5 (by omega) (by omega) (by omega)]
    exact h.d j hj
  · by_cases e : j = k
    · subst e; exact ⟨⟨_, s0⟩, ⟨_, s1⟩⟩
    · rw [same j 0 (by omega) (by omega) (by omega), same j 1 (by omega) (by omega) (by omega)]; exact h.p j hj
  · by_cases e : j = k
    · subst e; exact ⟨s0, s1⟩
    · rw [same j 0 (by omega) (by omega) (by omega), same j 1 (by omega) (by omega) (by omega)]; exact h.r j (by omega)

def NewPost (w : World) (n : Nat) (e : Ending) (w' : World) : Prop :=
  ∃ bc bf bm, e = .returned (.tuple #[.pointer (some ⟨bc, 0, none⟩), .int .i64 0]) ∧ w.heap.size ≤ bc ∧ w.heap.size ≤ bf ∧ w.heap.size ≤ bm ∧ ChRep w' bc bf bm (List.replicate n []) ∧ NoW w w'

structure NewInv (w : World) (n k : Nat) (wr : World) : Prop where
  fr : Fronts wr w.heap.size n k
  m : wr.heap[w.heap.size + 1]? = some (.map #[] 0)
  c0 : wr.cell? ⟨w.heap.size + 1 + 1, 0, none⟩ = some (.slice (some ⟨w.heap.size, 0, none⟩) n n)
  c1 : wr.cell? ⟨w.heap.size + 1 + 1, 1, none⟩ = some (.map (some (w.heap.size + 1)))
  fp : NoW w wr

theorem newInv_start (w : World) (n : Nat) : NewInv w n 0 (((w.alloc (.cells (mc n) 79)).alloc (.map #[] 0)).alloc (.cells #[.slice (some ⟨w.heap.size, 0, none⟩) n n, .map (some (w.heap.size + 1))] 71)) := by
  refine ⟨Fronts.made w _ n ?_, ?_, ?_, ?_, ?_⟩
  · rw [Below.heap_alloc _ _ _ (by simp; omega), Below.heap_alloc _ _ _ (by simp)]; exact heap_new _ _ _ rfl
  · rw [Below.heap_alloc _ _ _ (by simp)]; exact heap_new _ _ _ (by simp)
  · have := World.cell?_alloc_at (w := (w.alloc (.cells (mc n) 79)).alloc (.map #[] 0)) #[.slice (some ⟨w.heap.size, 0, none⟩) n n, .map (some (w.heap.size + 1))] 71 (w.heap.size + 1 + 1) 0 (by simp)
    simpa using this
  · have := World.cell?_alloc_at (w := (w.alloc (.cells (mc n) 79)).alloc (.map #[] 0)) #[.slice (some ⟨w.heap.size, 0, none⟩) n n, .map (some (w.heap.size + 1))] 71 (w.heap.size + 1 + 1) 1 (by simp)
    simpa using this
  · (repeat (first | exact Fp.refl _ _ | refine Fp.drew ?_ | refine Fp.drewN ?_ _ | refine Fp.alloc ?_ _ | (refine Fp.setCell ?_ (Or.inl (by simp)) _) | (refine Fp.setCell ?_ (Or.inl (by simp; omega)) _) | refine Fp.trans ?_ (by assumption) (fun _ _ h => h)))

theorem NewInv.next {w wr : World} {n k : Nat} (h : NewInv w n k wr) (hk : k < n) :
    NewInv w n (k + 1) ((wr.setCell ⟨w.heap.size, k * 6 + 1, none⟩ (.pointer (some ⟨w.heap.size, k * 6, none⟩))).setCell ⟨w.heap.size, k * 6, none⟩ (.pointer (some ⟨w.heap.size, k * 6, none⟩))).drew := by
  refine ⟨?_, ?_, ?_, ?_, ?_⟩
  · have := h.fr.next hk
    exact ⟨this.z, this.d, this.p, this.r⟩
  · show (World.setCell _ _ _).heap[_]? = _
    rw [Below.heap_setCell _ _ _ _ (by simp), Below.heap_setCell _ _ _ _ (by simp)]; exact h.m
  · show (World.setCell _ _ _).cell? _ = _
    rw [World.cell?_setCell_other _ _ _ _ (by simp <;> omega), World.cell?_setCell_other _ _ _ _ (by simp <;> omega)]; exact h.c0
  · show (World.setCell _ _ _).cell? _ = _
    rw [World.cell?_setCell_other _ _ _ _ (by simp <;> omega), World.cell?_setCell_other _ _ _ _ (by simp <;> omega)]; exact h.c1
  · exact ((h.fp.setCell (Or.inl (Nat.le_refl _)) _).setCell (Or.inl (Nat.le_refl _)) _).drew

theorem NewInv.done {w wr : World} {n : Nat} (h : NewInv w n n wr) (h1 : 1 ≤ n) (h2 : n ≤ 64) : NewPost w n (.returned (.tuple #[.pointer (some ⟨w.heap.size + 1 + 1, 0, none⟩), .int .i64 0])) wr := by
  have fl : (List.replicate n ([] : Row)).flatten = [] := by simp
  have gr : ∀ (i : Nat) (r : Row), (List.replicate n ([] : Row))[i]? = some r → r = [] ∧ i < n := by
    intro i r hr
    rw [List.getElem?_replicate] at hr
    split at hr
    · exact ⟨(Option.some.inj hr).symm, by assumption⟩
    · cases hr
  refine ⟨w.heap.size + 1 + 1, w.heap.size, w.heap.size + 1, rfl, by omega, by omega, by omega, ?_, h.fp⟩
  refine ⟨?_, h.c1, ?_, ?_, ?_, ?_, ?_, ?_, ?_, ?_, ?_, ?_⟩
  · simpa using h.c0
  · simp; omega
  · simpa using h2
  · intro b o hb
    rcases hb with rfl | hb
    · exact h.fr.z o
    · simp at hb
  · intro i hi
    exact h.fr.d i (by simpa using hi)
  · intro i r hr x hx
    rw [(gr i r hr).1] at hx; cases hx
  · intro i r hr
    obtain ⟨rfl, hi⟩ := gr i r hr
    have := h.fr.r i hi
    exact ⟨this.2, this.1⟩
  · exact ⟨[], ⟨#[], 0, h.m, rfl⟩, by simp [pairs]⟩
  · rw [fl]; exact List.nodup_nil
  · rw [fl]; intro x hx; cases hx
  · rw [fl]; simp; omega

set_option maxHeartbeats 400000 in
theorem new_bad (x : Int) (hx : x < 1 ∨ 64 < x) (w : World) : Calls Try.prog 8 #[.int .i64 x] w fun e w' => e = .returned (.tuple #[.pointer none, .int .i64 2]) ∧ w = w' := by
  by_cases h1 : x < 1
  · have h1' : decide (x < 1) = true := by simpa using h1
    go_enter Try.func8, Try.ntmps8
    go_wp2_with fail
    go_ret2
    exact ⟨rfl, rfl⟩
  · have h1' : decide (x < 1) = false := by simpa using h1
    have h2 : decide (64 < x) = true := by simp; omega
    go_enter Try.func8, Try.ntmps8
    go_wp2_with fail
    go_ret2
    exact ⟨rfl, rfl⟩

set_option maxHeartbeats 400000 in
theorem new_ok (n : Nat) (h1 : 1 ≤ n) (h2 : n ≤ 64) (w : World) : Calls Try.prog 8 #[.int .i64 n] w (NewPost w n) := by
  have hmk := run_mk n h2
  have hmm := @run_makeMap Try.prog
  have d1 : decide ((n : Int) < 1) = false := by simp; omega
  have d2 : decide (64 < (n : Int)) = false := by simp; omega
  go_enter Try.func8, Try.ntmps8
  go_wp2_with fail
  go_loopw [23] (fun i wr => ∃ k : Nat, k ≤ n ∧ i = .int .i64 k ∧ NewInv w n k wr) (fun i _ => n - (intOf i).toNat)
  case atStart => exact ⟨0, Nat.zero_le _, rfl, newInv_start w n⟩
  case round =>
    obtain ⟨k, hk, rfl, hinv⟩ := hrel
    have c0 := hinv.c0
    by_cases hlt : k < n
    · obtain ⟨⟨u0, g0⟩, ⟨u1, g1⟩⟩ := hinv.fr.p k hlt
      simp only [cl, Nat.add_zero] at g0 g1
      have z := hinv.fr.z
      go_wp2_with fail
      (refine wp_still_tail 6 (by kernel_rfl) (by kernel_rfl) ?_; simp only [List.take_succ_cons, List.take_zero, List.drop_succ_cons, List.drop_zero]; (repeat still_step); try refine wpStill_nil ?_)
      go_wp2_with fail
      refine (join_any w.heap.size (k * 6) w.heap.size (k * 6) u1 u0 _ (by go_simp) (by go_simp) (by go_simp) (by go_simp) (by omega)).mono ?_
      rintro e w' ⟨rfl, rfl⟩
      go_wp2_with fail
      go_roundw
      case rel => exact ⟨k + 1, by omega, by go_num, hinv.next hlt⟩
      case measure => simp [intOf]; omega
    · obtain rfl : k = n := by omega
      go_wp2_with fail
      go_ret2
      exact hinv.done h1 h2
end Go.Proofs.Ytmhjdjndckeepaa
