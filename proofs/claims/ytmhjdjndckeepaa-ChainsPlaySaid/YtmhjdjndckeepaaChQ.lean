/- What is behind a link: walks. -/
import Derived.Test.YtmhjdjndckeepaaChP
namespace Go.Proofs.Ytmhjdjndckeepaa
set_option linter.unusedVariables false
set_option linter.unusedSimpArgs false
open Go.RowKit
open Go.ChangeMaps (setBlock)
open Go.WideMaps (KeyLaw)

def lk0 : Lk := (0, 0, false)

theorem ringSize : Try.prog.cellsOf 77 ≠ 0 := of_decide_eq_true (by kernel_rfl)


theorem ChRep.plain_bf {w : World} {bc bf bm : Nat} {σ : List Row} (h : ChRep w bc bf bm σ) : Plain w bf := Plain.of_cell (h.front 0 h.pos).1 (fun _ => h.fz _ _ (Or.inl rfl))
theorem ChRep.plain_node {w : World} {bc bf bm : Nat} {σ : List Row} (h : ChRep w bc bf bm σ) {x : Nat × Lk} (hx : x ∈ σ.flatten) : Plain w x.1 := by
  obtain ⟨r, hr, hx'⟩ := List.mem_flatten.1 hx
  obtain ⟨i, hi, e⟩ := List.getElem_of_mem hr
  exact Plain.of_cell (h.node i r (by rw [List.getElem?_eq_getElem hi, e]) x hx').1 (fun _ => h.fz _ _ (Or.inr (List.mem_map.2 ⟨x, hx, rfl⟩)))

/-- The first of a row's links, if there is one. -/
def hdl : Row → Lk × Bool
  | [] => (lk0, false)
  | y :: _ => (y.2, true)

theorem ptr_run {w : World} {b q : Ad} (hb : Plain w b.1) (hq : Plain w q.1) (O : Obj) :
    (binOp .eql 75 (ptr q) (ptr b)).run Try.prog (w.alloc O).drew = .ok (.bool (decide (q = b))) (w.alloc O).drew := by
  have e1 : (w.alloc O).drew.heap[b.1]? = w.heap[b.1]? := Below.heap_alloc _ _ _ hb.lt
  have e2 : (w.alloc O).drew.heap[q.1]? = w.heap[q.1]? := Below.heap_alloc _ _ _ hq.lt
  have := run_eql_ptr (a := ⟨q.1, q.2, none⟩) (b := ⟨b.1, b.2, none⟩) Try.underlying75 ringSize rfl rfl (hq.of_block e2) (hb.of_block e1)
  unfold ptr
  rw [this]
  have e : ((⟨q.1, q.2, none⟩ : Addr) == ⟨b.1, b.2, none⟩) = decide (q = b) := by
    rw [Bool.eq_iff_iff]; simp [Prod.ext_iff]
  rw [e]

set_option maxHeartbeats 400000 in
theorem behind_end (bc bf n i a o : Nat) (w : World) (c0 : w.cell? ⟨bc, 0, none⟩ = some (.slice (some ⟨bf, 0, none⟩) n n)) (g1 : w.cell? ⟨a, o + 1, none⟩ = some (.pointer (some ⟨bf, i * 6, none⟩)))
    (g5 : w.cell? ⟨a, o + 5, none⟩ = some (.int .i64 i)) (hi : i < n) (hn : n ≤ 64) (hp : Plain w bf) :
    Calls Try.prog 28 #[.pointer (some ⟨bc, 0, none⟩), .pointer (some ⟨a, o, none⟩)] w (Ret1 (.tuple #[lv lk0, .bool false]) w) := by
  have lc : bc < w.heap.size := cell_lt c0
  have la : a < w.heap.size := cell_lt g1
  have heq : ∀ O : Obj, (binOp .eql 75 (.pointer (some ⟨bf, i * 6, none⟩)) (.pointer (some ⟨bf, i * 6, none⟩))).run Try.prog (w.alloc O).drew = .ok (.bool true) (w.alloc O).drew := fun O => by
    have := ptr_run (b := (bf, i * 6)) (q := (bf, i * 6)) hp hp O
    simpa [ptr] using this
  go_enter Try.func28, Try.ntmps28
  go_wp2_with fail
  (refine wp_still_lit (by kernel_rfl) (by kernel_rfl) ?_; (repeat still_step); refine wpStill_nil ?_)
  go_wp2_with fail
  refine bodyPost_ret (v := .tuple #[lv lk0, .bool false]) (by simp [results, Try.results28, go_sem, lv, lk0]) rfl ⟨rfl, ?_⟩
  (repeat (first | exact Fp.refl _ _ | refine Fp.drew ?_ | refine Fp.drewN ?_ _ | refine Fp.alloc ?_ _ | (refine Fp.setCell ?_ (Or.inl (by simp)) _) | (refine Fp.setCell ?_ (Or.inl (by simp; omega)) _) | refine Fp.trans ?_ (by assumption) (fun _ _ h => h)))

set_option maxHeartbeats 400000 in
theorem behind_mid (bc bf n i a o q : Nat) (l : Lk) (w : World) (c0 : w.cell? ⟨bc, 0, none⟩ = some (.slice (some ⟨bf, 0, none⟩) n n)) (g1 : w.cell? ⟨a, o + 1, none⟩ = some (.pointer (some ⟨q, 0, none⟩)))
    (g5 : w.cell? ⟨a, o + 5, none⟩ = some (.int .i64 i)) (hi : i < n) (hn : n ≤ 64) (hp : Plain w bf) (hq : Plain w q) (hne : q ≠ bf)
    (q2 : w.cell? ⟨q, 2, none⟩ = some (.int .i64 l.1)) (q3 : w.cell? ⟨q, 3, none⟩ = some (.int .u32 l.2.1)) (q4 : w.cell? ⟨q, 4, none⟩ = some (.bool l.2.2)) :
    Calls Try.prog 28 #[.pointer (some ⟨bc, 0, none⟩), .pointer (some ⟨a, o, none⟩)] w (Ret1 (.tuple #[lv l, .bool true]) w) := by
  have lc : bc < w.heap.size := cell_lt c0
  have la : a < w.heap.size := cell_lt g1
  have lq : q < w.heap.size := cell_lt q2
  have heq : ∀ O : Obj, (binOp .eql 75 (.pointer (some ⟨q, 0, none⟩)) (.pointer (some ⟨bf, i * 6, none⟩))).run Try.prog (w.alloc O).drew = .ok (.bool false) (w.alloc O).drew := fun O => by
    have := ptr_run (b := (bf, i * 6)) (q := (q, 0)) hp hq O
    simpa [ptr, hne] using this
  clear hne
  go_enter Try.func28, Try.ntmps28
  go_wp2_with fail
  (refine wp_still_lit (by kernel_rfl) (by kernel_rfl) ?_; (repeat still_step); refine wpStill_nil ?_)
  go_wp2_with fail
  refine bodyPost_ret (v := .tuple #[lv l, .bool true]) (by simp [results, Try.results28, go_sem, lv]) rfl ⟨rfl, ?_⟩
  (repeat (first | exact Fp.refl _ _ | refine Fp.drew ?_ | refine Fp.drewN ?_ _ | refine Fp.alloc ?_ _ | (refine Fp.setCell ?_ (Or.inl (by simp)) _) | (refine Fp.setCell ?_ (Or.inl (by simp; omega)) _) | refine Fp.trans ?_ (by assumption) (fun _ _ h => h)))

section
variable {w : World} {bc bf bm : Nat} {σ : List Row}

theorem behind_ok (h : ChRep w bc bf bm σ) {i : Nat} {r1 r2 : Row} (hi : σ[i]? = some (r1 ++ r2)) {a o : Nat} (g1 : w.cell? ⟨a, o + 1, none⟩ = some (ptr (hd (nodes r2) (bf, i * 6)))) (g5 : w.cell? ⟨a, o + 5, none⟩ = some (.int .i64 i)) :
    Calls Try.prog 28 #[.pointer (some ⟨bc, 0, none⟩), .pointer (some ⟨a, o, none⟩)] w (Ret1 (.tuple #[lv (hdl r2).1, .bool (hdl r2).2]) w) := by
  have hil : i < σ.length := (List.getElem?_eq_some_iff.1 hi).1
  cases r2 with
  | nil => exact behind_end bc bf σ.length i a o w h.c0 g1 g5 hil h.le h.plain_bf
  | cons y ys =>
    have hy : y ∈ r1 ++ y :: ys := by simp
    have hf := mem_flatten_of hi hy
    have hn := h.node i _ hi y hy
    simp only [cl, Nat.zero_add] at hn
    exact behind_mid bc bf σ.length i a o y.1 y.2 w h.c0 g1 g5 hil h.le h.plain_bf (h.plain_node hf) (h.ne_bf hf) hn.1 hn.2.1 hn.2.2.1

end
end Go.Proofs.Ytmhjdjndckeepaa
