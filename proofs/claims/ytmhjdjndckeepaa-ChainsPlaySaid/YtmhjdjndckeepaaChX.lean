/- Cut: the walk. -/
import Derived.Test.YtmhjdjndckeepaaChW
namespace Go.Proofs.Ytmhjdjndckeepaa
set_option linter.unusedVariables false
set_option linter.unusedSimpArgs false
open Go.RowKit
open Go.ChangeMaps (setBlock)
open Go.WideMaps (KeyLaw)

theorem wp_delete_hit {P : Program} {k t e b : Nat} (K : KeyLaw P k) (ht : P.underlying t = some (.map k e)) {w : World} {ops : Array Oper} {rest : List Oper} {o : Oper} {a : Act} {Q : Exit → Act → World → Prop}
    (hg : o.guard = none) (m x : Operand) (hop : o.op = Op.call { callee := Callee.builtin Builtin.delete, args := #[m, x], argTypes := #[t, k] }) (hm : a.eval m = .map (some b)) (ml : List (Value × Value)) (h : MapIs w b ml)
    (hk : ∀ p ∈ ml, ∃ l, keyOf P k p.1 = some l) (hnd : (ml.map Prod.fst).Nodup) (key val : Value) (hx : a.eval x = key) (hin : (key, val) ∈ ml)
    (hK : ∀ O m', MapIs (setBlock w b O) b m' → (∃ m1 m2, ml = m1 ++ (key, val) :: m2 ∧ m' = m1 ++ m2) → wpList P ops Q rest (a.put o.dst (.tuple #[])) (setBlock w b O)) : wpList P ops Q (o :: rest) a w := by
  refine wpList_plain hg fun K' hK' => ?_
  obtain ⟨O, m', hrun, hmap, hsp⟩ := delete_hit K ht h hk hnd hin o.type
  unfold Oper.wp
  simp [execOp, hop, resolve, invoke, builtin, hm, hx, hrun, Result.andThen]
  exact hK' _ _ (hK O m' hmap hsp)

def cutWorld (w : World) (p q : Ad) (l : Lk) : World :=
  ((w.setCell ⟨p.1, p.2 + 1, none⟩ (.pointer (some ⟨q.1, q.2, none⟩))).setCell ⟨q.1, q.2, none⟩ (.pointer (some ⟨p.1, p.2, none⟩))).alloc (.cells #[.int .i64 l.1, .int .u32 l.2.1, .bool l.2.2] 33)

def CutEnd (w : World) (bm : Nat) (p q : Ad) (l : Lk) (a : Nat) (m : List (Value × Value)) (e : Ending) (w' : World) : Prop :=
  e = .returned (.int .i64 0) ∧ ∃ O m', MapIs (setBlock (cutWorld w p q l).drew.drew.drew bm O) bm m' ∧ (∃ m1 m2, m = m1 ++ (lv l, .pointer (some ⟨a, 0, none⟩)) :: m2 ∧ m' = m1 ++ m2) ∧ setBlock (cutWorld w p q l).drew.drew.drew bm O = w'

set_option maxHeartbeats 400000 in
theorem cut_walk (bc bf bm n a p po q qo : Nat) (l : Lk) (w : World) (u0 u1 : Value) (m : List (Value × Value))
    (c0 : w.cell? ⟨bc, 0, none⟩ = some (.slice (some ⟨bf, 0, none⟩) n n)) (c1 : w.cell? ⟨bc, 1, none⟩ = some (.map (some bm))) (hn : 0 < n)
    (hm : MapIs w bm m) (hk : ∀ p ∈ m, ∃ x, keyOf Try.prog 33 p.1 = some x) (hnd : (m.map Prod.fst).Nodup) (hin : (lv l, .pointer (some ⟨a, 0, none⟩)) ∈ m)
    (a0 : w.cell? ⟨a, 0, none⟩ = some (.pointer (some ⟨p, po, none⟩))) (a1 : w.cell? ⟨a, 1, none⟩ = some (.pointer (some ⟨q, qo, none⟩)))
    (g1 : w.cell? ⟨p, po + 1, none⟩ = some u0) (g2 : w.cell? ⟨q, qo, none⟩ = some u1) (hpq : ¬ (q = p ∧ qo = po + 1))
    (hcp : bc ≠ p) (hcq : bc ≠ q) (hmp : bm ≠ p) (hmq : bm ≠ q) (z1 : w.frozen? ⟨p, po + 1, none⟩ = false) (z2 : w.frozen? ⟨q, qo, none⟩ = false) :
    Calls Try.prog 12 #[.pointer (some ⟨bc, 0, none⟩), lv l] w (CutEnd w bm (p, po) (q, qo) l a m) := by
  have lm := hm.lt
  have lc : bc < w.heap.size := cell_lt c0
  have la : a < w.heap.size := cell_lt a0
  have lp : p < w.heap.size := cell_lt g1
  have lq : q < w.heap.size := cell_lt g2
  have hl1 : ∀ o1 : Obj, (Instr.lookup 69 (.map (some bm)) (.agg #[.int .i64 l.1, .int .u32 l.2.1, .bool l.2.2]) false).run Try.prog (w.alloc o1).drew = .ok (.pointer (some ⟨a, 0, none⟩)) (w.alloc o1).drew :=
    fun o1 => look_hit0 lawLk Try.underlying69 (hm.of_block (by exact Below.heap_alloc _ _ _ lm)) hk hnd hin
  have k2 : ∀ V V' o, ((w.setCell ⟨p, po + 1, none⟩ V).setCell ⟨q, qo, none⟩ V').cell? ⟨bc, o, none⟩ = w.cell? ⟨bc, o, none⟩ := fun V V' o => by
    rw [World.cell?_setCell_other _ _ _ _ (by simp [Ne.symm hcq]), World.cell?_setCell_other _ _ _ _ (by simp [Ne.symm hcp])]
  have d1 : ((n : Int) == 0) = false := by rw [beq_eq_false_iff_ne]; omega
  have Hpq := Lib.hid hpq
  have Hmp := Lib.hid hmp
  have Hmq := Lib.hid hmq
  clear hcp hcq hmp hmq hpq
  unfold lv
  go_enter Try.func12, Try.ntmps12
  go_wp2_with (go_at_call 23; refine (size_ptr _ (some ⟨bf, 0, none⟩) n n _ (by go_simp)).mono ?_; rintro e w' ⟨rfl, rfl⟩)
  (refine wp_still_lit (by kernel_rfl) (by kernel_rfl) ?_; (repeat still_step); refine wpStill_nil ?_)
  go_wp2_with fail
  (refine wp_still_tail 10 (by kernel_rfl) (by kernel_rfl) ?_; simp only [List.take_succ_cons, List.take_zero, List.drop_succ_cons, List.drop_zero]; (repeat still_step); try refine wpStill_nil ?_)
  go_wp2_with fail
  refine (join_any p po q qo u0 u1 _ (by go_simp) (by go_simp) (by go_simp) (by go_simp) Hpq.out).mono ?_
  rintro e w' ⟨rfl, rfl⟩
  go_wp2_with fail
  (refine wp_still_tail 5 (by kernel_rfl) (by kernel_rfl) ?_; simp only [List.take_succ_cons, List.take_zero, List.drop_succ_cons, List.drop_zero]; (repeat still_step); try refine wpStill_nil ?_)
  refine wp_delete_hit lawLk Try.underlying69 rfl _ _ rfl rfl m ?_ hk hnd (lv l) (.pointer (some ⟨a, 0, none⟩)) rfl hin ?_
  · refine hm.of_block ?_
    show (World.alloc _ _).heap[bm]? = _
    rw [Below.heap_alloc _ _ _ (by simp [World.setCell]; omega), Below.heap_setCell _ _ _ _ Hmq.out, Below.heap_setCell _ _ _ _ Hmp.out]
  · intro O m' hO hsp
    go_wp2_with fail
    go_ret
    exact ⟨rfl, O, m', hO, hsp, rfl⟩

section
variable {w : World} {bc bf bm : Nat} {σ : List Row}

def CutPost (w : World) (bc bf bm i : Nat) (σ : List Row) (r : Row) (e : Ending) (w' : World) : Prop :=
  e = .returned (.int .i64 0) ∧ ChStep w bc bf bm σ (σ.set i r) w'

theorem cut_ok (h : ChRep w bc bf bm σ) {i : Nat} {r1 r2 : Row} {x : Nat × Lk} (hi : σ[i]? = some (r1 ++ x :: r2)) :
    Calls Try.prog 12 #[.pointer (some ⟨bc, 0, none⟩), lv x.2] w (CutPost w bc bf bm i σ (r1 ++ r2)) := by
  obtain ⟨a, l⟩ := x
  obtain ⟨m, hm, hp⟩ := h.map
  have hxm : (a, l) ∈ r1 ++ (a, l) :: r2 := by simp
  have hx : (a, l) ∈ σ.flatten := mem_flatten_of hi hxm
  have hring := h.ring i _ hi
  rw [nodes_append, nodes_cons, Ring.split] at hring
  obtain ⟨p, hpd⟩ : ∃ p, p = lst (bf, i * 6) (nodes r1) := ⟨_, rfl⟩
  obtain ⟨q, hqd⟩ : ∃ q, q = hd (nodes r2) (bf, i * 6) := ⟨_, rfl⟩
  have hpc : p = (bf, i * 6) ∨ ∃ x, x ∈ r1 ++ (a, l) :: r2 ∧ p = (x.1, 0) := by
    have := lst_mem (bf, i * 6) (nodes r1)
    rw [← hpd] at this
    rcases List.mem_cons.1 this with e | e
    · exact Or.inl e
    · obtain ⟨x, hx, e⟩ := mem_nodes e; exact Or.inr ⟨x, by simp [hx], e⟩
  have hqc : q = (bf, i * 6) ∨ ∃ x, x ∈ r1 ++ (a, l) :: r2 ∧ q = (x.1, 0) := by
    have := hd_mem (nodes r2) (bf, i * 6)
    rw [← hqd] at this
    rcases List.mem_append.1 this with e | e
    · obtain ⟨x, hx, e⟩ := mem_nodes e; exact Or.inr ⟨x, by simp [hx], e⟩
    · exact Or.inl (List.mem_singleton.1 e)
  have good : ∀ z : Ad, (z = (bf, i * 6) ∨ ∃ x, x ∈ r1 ++ (a, l) :: r2 ∧ z = (x.1, 0)) → bc ≠ z.1 ∧ bm ≠ z.1 ∧ (∀ o, w.frozen? ⟨z.1, o, none⟩ = false) ∧ z.1 ∈ blocks bc bf bm σ ∧ (z.2 = 0 ∨ z.2 = i * 6 ∧ z.1 = bf) := by
    rintro z (e | ⟨x, hx, e⟩)
    · rw [e]; exact ⟨h.bc_bf, h.bf_bm.symm, fun o => h.fz _ _ (Or.inl rfl), by simp [blocks], Or.inr ⟨rfl, rfl⟩⟩
    · have hx := mem_flatten_of hi hx
      have hxb : x.1 ∈ σ.flatten.map Prod.fst := List.mem_map.2 ⟨x, hx, rfl⟩
      rw [e]
      refine ⟨(h.ne_bc hx).symm, (h.ne_bm hx).symm, fun o => h.fz _ _ (Or.inr hxb), ?_, Or.inl rfl⟩
      simp only [blocks, List.mem_cons]; exact Or.inr (Or.inr (Or.inr hxb))
  obtain ⟨p1, p2, p3, p4, p5⟩ := good p hpc
  obtain ⟨q1, q2, q3, q4, q5⟩ := good q hqc
  have hlp := hring.1.last
  rw [← hpd] at hlp
  have hfq := hring.2.first
  have hfq0 := hring.2.first0
  rw [← hqd] at hfq hfq0
  have hpq : ¬ (q.1 = p.1 ∧ q.2 = p.2 + 1) := by
    rintro ⟨e1, e2⟩
    rcases p5 with f | ⟨f, f'⟩ <;> rcases q5 with g | ⟨g, g'⟩ <;> omega
  have a0 := hlp.1
  have a1 := hfq
  simp only [cl, Nat.zero_add] at a0 a1
  refine (cut_walk bc bf bm σ.length a p.1 p.2 q.1 q.2 l w _ _ m h.c0 h.c1 h.pos hm (h.keys hp) (h.keysNd hp) (h.inMap hp hx) a0 a1 hlp.2 hfq0 hpq p1 q1 p2 q2 (p3 _) (q3 _)).mono ?_
  rintro e w' ⟨rfl, O, m', hO, hsp, rfl⟩
  have hbf := h.lt_bf
  have sz : (cutWorld w p q l).heap.size = w.heap.size + 1 := by simp [cutWorld, World.setCell]
  have key : ∀ b, b ≠ bm → (setBlock (cutWorld w p q l).drew.drew.drew bm O).heap[b]? = (cutWorld w p q l).heap[b]? := by
    intro b hb
    simp only [setBlock, Array.getElem?_setIfInBounds]
    rw [if_neg (by omega)]; rfl
  refine ⟨rfl, ?_, ?_⟩
  · refine h.cut hi hpd hqd ?_ ?_ ?_
    · intro b o hb hbm
      rw [World.cell?_of_block (a := ⟨b, o, none⟩) (key b hbm)]
      unfold cutWorld
      rw [World.cell?_alloc_lt _ _ _ (by simpa [World.setCell] using hb)]
      by_cases h1 : b = q.1 ∧ o = q.2
      · rw [if_pos h1]
        obtain ⟨rfl, rfl⟩ := h1
        refine World.cell?_setCell_same _ _ _ (u := ptr (a, 0)) ?_
        rw [World.cell?_setCell_other _ _ _ _ (by simp <;> omega)]
        exact hfq0
      · rw [if_neg h1]
        by_cases h2 : b = p.1 ∧ o = p.2 + 1
        · rw [if_pos h2]
          obtain ⟨rfl, rfl⟩ := h2
          rw [World.cell?_setCell_other _ _ _ _ (by simp <;> omega)]
          exact World.cell?_setCell_same _ _ _ hlp.2
        · rw [if_neg h2, World.cell?_setCell_other _ _ _ _ (by simp <;> omega), World.cell?_setCell_other _ _ _ _ (by simp <;> omega)]
    · intro b o hb hbm
      rw [World.frozen?_of_block (a := ⟨b, o, none⟩) (key b hbm)]
      unfold cutWorld
      rw [World.frozen?_alloc_old _ _ _ (by simp [World.setCell]; omega)]
      simp
    · intro m2 hm2 _
      obtain rfl := hm.unique hm2
      obtain ⟨s1, s2, e1, e2⟩ := hsp
      refine ⟨m', hO, ?_⟩
      rw [e1, e2]
      exact List.perm_middle.symm
  · have f0 : Fp (· ∈ blocks bc bf bm σ) w w := Fp.refl _ _
    exact (((((f0.setCell (Or.inr p4) _).setCell (Or.inr q4) _).alloc _).drew).drew.drew).setBlock (Or.inr (by simp [blocks])) O

end
end Go.Proofs.Ytmhjdjndckeepaa
