/- Put: the walk. -/
import Derived.Test.YtmhjdjndckeepaaChV
namespace Go.Proofs.Ytmhjdjndckeepaa
set_option linter.unusedVariables false
set_option linter.unusedSimpArgs false
open Go.RowKit
open Go.ChangeMaps (setBlock)
open Go.WideMaps (KeyLaw)

theorem zero_node (W : World) : (zeroValue 82).run Try.prog W = .ok (.pointer none) W := by kernel_rfl

theorem wp_mapUpdate_new {P : Program} {k t e b : Nat} (K : KeyLaw P k) (ht : P.underlying t = some (.map k e)) {w : World} {ops : Array Oper} {rest : List Oper} {o : Oper} {a : Act} {Q : Exit → Act → World → Prop}
    (hg : o.guard = none) (m x v : Operand) (hop : o.op = Op.mapUpdate t m x v) (hm : a.eval m = .map (some b)) (ml : List (Value × Value)) (h : MapIs w b ml) (hk : ∀ p ∈ ml, ∃ l, keyOf P k p.1 = some l)
    (key val : Value) (hx : a.eval x = key) (hv : a.eval v = val) (hkey : ∃ l, keyOf P k key = some l) (hno : ∀ p ∈ ml, p.1 ≠ key)
    (hK : ∀ O, MapIs (setBlock w b O) b (ml ++ [(key, val)]) → wpList P ops Q rest (a.put o.dst undef) (setBlock w b O)) : wpList P ops Q (o :: rest) a w := by
  refine wpList_plain hg fun K' hK' => ?_
  obtain ⟨O, hrun, hmap⟩ := update_new K ht h hk hkey hno val
  unfold Oper.wp
  simp [execOp, hop, hm, hx, hv, hrun, Result.andThen]
  exact hK' _ _ (hK O hmap)

def putWorld (w : World) (bf i q qo : Nat) (l : Lk) : World :=
  (((w.setCell ⟨q, qo, none⟩ (.pointer (some ⟨w.heap.size + 1, 0, none⟩))).setCell ⟨bf, i * 6 + 1, none⟩ (.pointer (some ⟨w.heap.size + 1, 0, none⟩))).alloc (.cells #[.int .i64 l.1, .int .u32 l.2.1, .bool l.2.2] 33)).alloc
    (.cells #[.pointer (some ⟨bf, i * 6, none⟩), .pointer (some ⟨q, qo, none⟩), .int .i64 l.1, .int .u32 l.2.1, .bool l.2.2, .int .i64 i] 83)
def PutEnd (w : World) (bf bm i q qo : Nat) (l : Lk) (m : List (Value × Value)) (e : Ending) (w' : World) : Prop :=
  e = .returned (.int .i64 0) ∧ ∃ O, MapIs (setBlock (putWorld w bf i q qo l).drew.drew.drew.drew bm O) bm (m ++ [(lv l, .pointer (some ⟨w.heap.size + 1, 0, none⟩))]) ∧ setBlock (putWorld w bf i q qo l).drew.drew.drew.drew bm O = w'

set_option maxHeartbeats 400000 in
theorem put_walk (bc bf bm n i q qo : Nat) (l : Lk) (w : World) (u0 u1 : Value) (m : List (Value × Value))
    (c0 : w.cell? ⟨bc, 0, none⟩ = some (.slice (some ⟨bf, 0, none⟩) n n)) (c1 : w.cell? ⟨bc, 1, none⟩ = some (.map (some bm)))
    (hn : n ≤ 64) (hi : i < n) (hm : MapIs w bm m) (hk : ∀ p ∈ m, ∃ x, keyOf Try.prog 33 p.1 = some x) (hl : Lok l) (hno : ∀ p ∈ m, p.1 ≠ lv l)
    (g1 : w.cell? ⟨bf, i * 6 + 1, none⟩ = some (.pointer (some ⟨q, qo, none⟩))) (g2 : w.cell? ⟨q, qo, none⟩ = some u0)
    (hq : ¬ (q = bf ∧ qo = i * 6 + 1)) (hcq : bc ≠ q) (hcf : bc ≠ bf) (hmf : bm ≠ bf) (hmq : bm ≠ q) (z1 : w.frozen? ⟨bf, i * 6 + 1, none⟩ = false) (z2 : w.frozen? ⟨q, qo, none⟩ = false) :
    Calls Try.prog 9 #[.pointer (some ⟨bc, 0, none⟩), .int .i64 i, lv l] w (PutEnd w bf bm i q qo l m) := by
  have lm := hm.lt
  have lc : bc < w.heap.size := cell_lt c0
  have lf : bf < w.heap.size := cell_lt g1
  have lq : q < w.heap.size := cell_lt g2
  have hl1 : ∀ o1 : Obj, (Instr.lookup 69 (.map (some bm)) (.agg #[.int .i64 l.1, .int .u32 l.2.1, .bool l.2.2]) false).run Try.prog (w.alloc o1).drew = .ok (.pointer none) (w.alloc o1).drew :=
    fun o1 => look_miss0 lawLk Try.underlying69 (hm.of_block (by exact Below.heap_alloc _ _ _ lm)) hk (lv_key l hl) hno (zero_node _)
  have k1 : ∀ V, (w.setCell ⟨q, qo, none⟩ V).cell? ⟨bf, i * 6 + 1, none⟩ = some (.pointer (some ⟨q, qo, none⟩)) := fun V => by
    rw [World.cell?_setCell_other _ _ _ _ (by simp; omega)]; exact g1
  have k2 : ∀ V V' o, ((w.setCell ⟨q, qo, none⟩ V).setCell ⟨bf, i * 6 + 1, none⟩ V').cell? ⟨bc, o, none⟩ = w.cell? ⟨bc, o, none⟩ := fun V V' o => by
    rw [World.cell?_setCell_other _ _ _ _ (by simp [Ne.symm hcf]), World.cell?_setCell_other _ _ _ _ (by simp [Ne.symm hcq])]
  have d0 : decide (0 ≤ (i : Int) ∧ (i : Int) < (n : Int)) = true := by simp; omega
  have d1 : ((n : Int) == 0) = false := by simp; omega
  unfold lv
  go_enter Try.func9, Try.ntmps9
  go_wp2_with (first | (go_at_call 23; refine (size_ptr _ (some ⟨bf, 0, none⟩) n n _ (by go_simp)).mono ?_; rintro e w' ⟨rfl, rfl⟩) | (go_at_call 27; refine (there_ptr _ (some ⟨bf, 0, none⟩) n n _ _ (by go_simp)).mono ?_; rintro e w' ⟨rfl, rfl⟩))
  (refine wp_still_lit (by kernel_rfl) (by kernel_rfl) ?_; (repeat still_step); refine wpStill_nil ?_)
  go_wp2_with fail
  (refine wp_still_tail 8 (by kernel_rfl) (by kernel_rfl) ?_; simp only [List.take_succ_cons, List.take_zero, List.drop_succ_cons, List.drop_zero]; (repeat still_step); try refine wpStill_nil ?_)
  go_wp2_with fail
  refine (join_any _ 0 q qo (.pointer none) u0 _ (by go_simp) (by go_simp) (by go_simp) (by go_simp) (by omega)).mono ?_
  rintro e w' ⟨rfl, rfl⟩
  go_wp2_with fail
  (refine wp_still_tail 6 (by kernel_rfl) (by kernel_rfl) ?_; simp only [List.take_succ_cons, List.take_zero, List.drop_succ_cons, List.drop_zero]; (repeat still_step); try refine wpStill_nil ?_)
  go_wp2_with fail
  refine (join_any bf (i * 6) (w.heap.size + 1) 0 (.pointer (some ⟨q, qo, none⟩)) (.pointer none) _ (by go_simp) (by go_simp) (by go_simp) (by go_simp) (by omega)).mono ?_
  rintro e w' ⟨rfl, rfl⟩
  go_wp2_with fail
  (refine wp_still_tail 6 (by kernel_rfl) (by kernel_rfl) ?_; simp only [List.take_succ_cons, List.take_zero, List.drop_succ_cons, List.drop_zero]; (repeat still_step); try refine wpStill_nil ?_)
  refine wp_mapUpdate_new lawLk Try.underlying69 rfl _ _ _ rfl rfl m ?_ hk (lv l) (.pointer (some ⟨w.heap.size + 1, 0, none⟩)) rfl rfl (lv_key l hl) hno ?_
  · refine hm.of_block ?_
    show (World.alloc _ _).heap[bm]? = _
    rw [Below.heap_alloc _ _ _ (by simp [World.setCell]; omega), Below.heap_alloc _ _ _ (by simp [World.setCell]; omega), Below.heap_setCell _ _ _ _ hmf, Below.heap_setCell _ _ _ _ hmq]
  · intro O hO
    go_wp2_with fail
    go_ret
    exact ⟨rfl, O, hO, rfl⟩


section
variable {w : World} {bc bf bm : Nat} {σ : List Row}

theorem ChRep.keys (h : ChRep w bc bf bm σ) {m : List (Value × Value)} (hp : m.Perm (pairs σ)) : ∀ p ∈ m, ∃ x, keyOf Try.prog 33 p.1 = some x := by
  intro p hp'
  obtain ⟨x, hx, rfl⟩ := List.mem_map.1 (hp.mem_iff.1 hp')
  exact lv_key _ (h.ok x hx)
theorem ChRep.absent (_h : ChRep w bc bf bm σ) {m : List (Value × Value)} (hp : m.Perm (pairs σ)) {l : Lk} (hno : ∀ x, x ∈ σ.flatten → x.2 ≠ l) : ∀ p ∈ m, p.1 ≠ lv l := by
  intro p hp' e
  obtain ⟨x, hx, rfl⟩ := List.mem_map.1 (hp.mem_iff.1 hp')
  exact hno x hx (lv_inj e)
theorem ChRep.keysNd (h : ChRep w bc bf bm σ) {m : List (Value × Value)} (hp : m.Perm (pairs σ)) : (m.map Prod.fst).Nodup := by
  rw [(hp.map Prod.fst).nodup_iff]
  have : (pairs σ).map Prod.fst = (σ.flatten.map Prod.snd).map lv := by unfold pairs; rw [List.map_map, List.map_map]; rfl
  rw [this]
  unfold List.Nodup
  rw [List.pairwise_map]
  exact List.Pairwise.imp (fun h e => h (lv_inj e)) h.nd
theorem ChRep.inMap (_h : ChRep w bc bf bm σ) {m : List (Value × Value)} (hp : m.Perm (pairs σ)) {x : Nat × Lk} (hx : x ∈ σ.flatten) : (lv x.2, ptr (x.1, 0)) ∈ m :=
  hp.mem_iff.2 (List.mem_map.2 ⟨x, hx, rfl⟩)

/-- What has become of chains behind a step that wrote to them alone. -/
def ChStep (w : World) (bc bf bm : Nat) (σ : List Row) (τ : List Row) (w' : World) : Prop := ChRep w' bc bf bm τ ∧ Fp (· ∈ blocks bc bf bm σ) w w'

def PutPost (w : World) (bc bf bm i : Nat) (σ : List Row) (r : Row) (l : Lk) (e : Ending) (w' : World) : Prop :=
  e = .returned (.int .i64 0) ∧ ∃ b', w.heap.size ≤ b' ∧ ChStep w bc bf bm σ (σ.set i ((b', l) :: r)) w'

theorem put_ok (h : ChRep w bc bf bm σ) {i : Nat} {r : Row} (hi : σ[i]? = some r) {l : Lk} (hl : Lok l) (hno : ∀ x, x ∈ σ.flatten → x.2 ≠ l) :
    Calls Try.prog 9 #[.pointer (some ⟨bc, 0, none⟩), .int .i64 i, lv l] w (PutPost w bc bf bm i σ r l) := by
  have hil : i < σ.length := (List.getElem?_eq_some_iff.1 hi).1
  obtain ⟨m, hm, hp⟩ := h.map
  have hring := h.ring i r hi
  have hq : (qq bf i r = (bf, i * 6) ∧ r = []) ∨ ∃ y ys, r = y :: ys ∧ qq bf i r = (y.1, 0) := by
    cases r with
    | nil => exact Or.inl ⟨rfl, rfl⟩
    | cons y ys => exact Or.inr ⟨y, ys, rfl, rfl⟩
  have hy : ∀ y ys, r = y :: ys → y ∈ σ.flatten := fun y ys e => mem_flatten_of hi (e ▸ List.mem_cons_self ..)
  have g2 : w.cell? ⟨(qq bf i r).1, (qq bf i r).2, none⟩ = some (ptr (bf, i * 6)) := hring.first0
  have hqne : ¬ ((qq bf i r).1 = bf ∧ (qq bf i r).2 = i * 6 + 1) := by
    rintro ⟨e1, e2⟩
    rcases hq with ⟨hq, _⟩ | ⟨y, ys, hr, hq⟩
    · rw [hq] at e2; simp only at e2; omega
    · rw [hq] at e1; exact h.ne_bf (hy y ys hr) e1
  have hcq : bc ≠ (qq bf i r).1 := by
    intro e
    rcases hq with ⟨hq, _⟩ | ⟨y, ys, hr, hq⟩
    · rw [hq] at e; exact h.bc_bf e
    · rw [hq] at e; exact h.ne_bc (hy y ys hr) e.symm
  have hmq : bm ≠ (qq bf i r).1 := by
    intro e
    rcases hq with ⟨hq, _⟩ | ⟨y, ys, hr, hq⟩
    · rw [hq] at e; exact h.bf_bm e.symm
    · rw [hq] at e; exact h.ne_bm (hy y ys hr) e.symm
  have hfq : ∀ o, w.frozen? ⟨(qq bf i r).1, o, none⟩ = false := by
    intro o
    rcases hq with ⟨hq, _⟩ | ⟨y, ys, hr, hq⟩
    · rw [hq]; exact h.fz _ _ (Or.inl rfl)
    · rw [hq]; exact h.fz _ _ (Or.inr (List.mem_map.2 ⟨y, hy y ys hr, rfl⟩))
  have lq : (qq bf i r).1 < w.heap.size := cell_lt g2
  refine (put_walk bc bf bm σ.length i (qq bf i r).1 (qq bf i r).2 l w _ .nilIface m h.c0 h.c1 h.le hil hm (h.keys hp) hl (h.absent hp hno) hring.first g2 hqne hcq h.bc_bf h.bf_bm.symm hmq (h.fz _ _ (Or.inl rfl)) (hfq _)).mono ?_
  rintro e w' ⟨rfl, O, hO, rfl⟩
  refine ⟨rfl, w.heap.size + 1, by omega, ?_, ?_⟩
  · have hbf := h.lt_bf
    have sz : (putWorld w bf i (qq bf i r).1 (qq bf i r).2 l).heap.size = w.heap.size + 2 := by simp [putWorld, World.setCell]
    have key : ∀ b, b ≠ bm → (setBlock (putWorld w bf i (qq bf i r).1 (qq bf i r).2 l).drew.drew.drew.drew bm O).heap[b]? = (putWorld w bf i (qq bf i r).1 (qq bf i r).2 l).heap[b]? := by
      intro b hb
      simp only [setBlock, Array.getElem?_setIfInBounds]
      rw [if_neg (by omega)]; rfl
    have new := fun b (_ : b > w.heap.size) => key b (by have := h.lt_bm; omega)
    have new1 : (putWorld w bf i (qq bf i r).1 (qq bf i r).2 l).heap[w.heap.size + 1]? = some (.cells #[.pointer (some ⟨bf, i * 6, none⟩), .pointer (some ⟨(qq bf i r).1, (qq bf i r).2, none⟩), .int .i64 l.1, .int .u32 l.2.1, .bool l.2.2, .int .i64 i] 83 (0, 0)) := by
      unfold putWorld; exact heap_new _ _ _ (by simp [World.setCell])
    refine h.put hi hl hno (b' := w.heap.size + 1) (by omega) ?_ ?_ ?_ ?_ ?_ ?_ ?_ ?_ ?_ ?_
    · intro b o hb hbm
      rw [World.cell?_of_block (a := ⟨b, o, none⟩) (key b hbm)]
      unfold putWorld
      rw [World.cell?_alloc_lt _ _ _ (by simp [World.setCell]; omega), World.cell?_alloc_lt _ _ _ (by simpa [World.setCell] using hb)]
      by_cases h1 : b = bf ∧ o = i * 6 + 1
      · rw [if_pos (Or.inl h1)]
        obtain ⟨rfl, rfl⟩ := h1
        refine World.cell?_setCell_same _ _ _ (u := ptr (qq b i r)) ?_
        rw [World.cell?_setCell_other _ _ _ _ (by simp; omega)]
        exact hring.first
      · by_cases h2 : b = (qq bf i r).1 ∧ o = (qq bf i r).2
        · rw [if_pos (Or.inr h2)]
          obtain ⟨rfl, rfl⟩ := h2
          rw [World.cell?_setCell_other _ _ _ _ (by simp; omega)]
          exact World.cell?_setCell_same _ _ _ g2
        · rw [if_neg (by omega), World.cell?_setCell_other _ _ _ _ (by simp; omega), World.cell?_setCell_other _ _ _ _ (by simp; omega)]
    · intro b o hb hbm
      rw [World.frozen?_of_block (a := ⟨b, o, none⟩) (key b hbm)]
      unfold putWorld
      rw [World.frozen?_alloc_old _ _ _ (by simp [World.setCell]; omega), World.frozen?_alloc_old _ _ _ (by simp [World.setCell]; omega)]
      simp
    · intro o
      have e := new (w.heap.size + 1) (by omega)
      simp only [World.frozen?, e, new1]
      simp
    · simp [cl, World.cell?, new (w.heap.size + 1) (by omega), new1, ptr]
    · simp [cl, World.cell?, new (w.heap.size + 1) (by omega), new1, ptr]
    · simp [cl, World.cell?, new (w.heap.size + 1) (by omega), new1]
    · simp [cl, World.cell?, new (w.heap.size + 1) (by omega), new1]
    · simp [cl, World.cell?, new (w.heap.size + 1) (by omega), new1]
    · simp [cl, World.cell?, new (w.heap.size + 1) (by omega), new1]
    · intro m' hm' hp'
      obtain rfl := hm.unique hm'
      exact hO
  · have f0 : Fp (· ∈ blocks bc bf bm σ) w w := Fp.refl _ _
    have mb : bm ∈ blocks bc bf bm σ := by simp [blocks]
    have fb : bf ∈ blocks bc bf bm σ := by simp [blocks]
    have qb : (qq bf i r).1 ∈ blocks bc bf bm σ := by
      rcases hq with ⟨hq, _⟩ | ⟨y, ys, hr, hq⟩
      · rw [hq]; exact fb
      · rw [hq]; simp only [blocks, List.mem_cons]; exact Or.inr (Or.inr (Or.inr (List.mem_map.2 ⟨y, hy y ys hr, rfl⟩)))
    exact (((((((f0.setCell (Or.inr qb) _).setCell (Or.inr fb) _).alloc _).alloc _).drew).drew.drew).drew).setBlock (Or.inr mb) O
end
end Go.Proofs.Ytmhjdjndckeepaa
