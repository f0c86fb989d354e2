/- Texts of this proof, merged: Syd Sxn Sxo. -/
import Derived.Test.YthmokdfigjffjaaGreatDoorMag
import Derived.Test.YthmokdfigjffjaaGreatDoorMaf
namespace Go.Proofs.YthmokdfigjffjaaGreatDoor
set_option linter.unusedVariables false
set_option linter.unusedSimpArgs false
open Go.RowKit
open Go.ChangeMaps (setBlock)
open Go.WideMaps (KeyLaw)
noncomputable section
section
variable {ks vs : Nat}
theorem entsF_fuel (hst : 0 < cN ks + cN vs) : ∀ {n n' : Nat} {cs : List CV}, cs.length ≤ n → cs.length ≤ n' → entsF ks vs n cs = entsF ks vs n' cs
  | 0, n', cs, h, _ => by
    obtain rfl : cs = [] := List.eq_nil_of_length_eq_zero (by omega)
    cases n' <;> rfl
  | n + 1, 0, cs, _, h => by
    obtain rfl : cs = [] := List.eq_nil_of_length_eq_zero (by omega)
    rfl
  | n + 1, n' + 1, [], _, _ => rfl
  | n + 1, n' + 1, x :: l, h, h' => by
    simp only [entsF]
    congr 1
    simp only [List.length_cons] at h h'
    refine entsF_fuel hst ?_ ?_ <;> rw [List.length_drop, List.length_cons] <;> omega
theorem entsOf_one {kc vc : List CV} (hst : 0 < cN ks + cN vs) (h1 : kc.length = cN ks) (h2 : vc.length = cN vs) (post : List CV) : entsOf ks vs (kc ++ vc ++ post) = (cV ks kc, cV vs vc) :: entsOf ks vs post := by
  have hl : (kc ++ vc).length = cN ks + cN vs := by rw [List.length_append, h1, h2]
  have hd : (kc ++ vc ++ post).drop (cN ks + cN vs) = post := by rw [← hl, List.drop_left]
  have ht : (kc ++ vc ++ post).take (cN ks) = kc := by rw [List.append_assoc, ← h1, List.take_left]
  have hv : ((kc ++ vc ++ post).drop (cN ks)).take (cN vs) = vc := by rw [List.append_assoc, ← h1, List.drop_left, ← h2, List.take_left]
  unfold entsOf
  rcases hq : kc ++ vc ++ post with _ | ⟨x, l⟩
  · have := congrArg List.length hq
    rw [List.length_append, hl] at this
    simp at this; omega
  · rw [hq] at hd ht hv
    simp only [List.length_cons, entsF, hd, ht, hv]
    congr 1
    refine entsF_fuel hst ?_ (Nat.le_refl _)
    have := congrArg List.length hq
    rw [List.length_append, hl, List.length_cons] at this
    omega
theorem entsOf_app (hst : 0 < cN ks + cN vs) : ∀ (i : Nat) {a : List CV}, a.length = i * (cN ks + cN vs) → ∀ b, entsOf ks vs (a ++ b) = entsOf ks vs a ++ entsOf ks vs b ∧ (entsOf ks vs a).length = i
  | 0, a, h, b => by
    obtain rfl : a = [] := List.eq_nil_of_length_eq_zero (by simpa using h)
    exact ⟨rfl, rfl⟩
  | i + 1, a, h, b => by
    rw [Nat.add_mul, Nat.one_mul] at h
    have hsp : a = a.take (cN ks) ++ (a.drop (cN ks)).take (cN vs) ++ a.drop (cN ks + cN vs) := by
      rw [← List.drop_drop, List.append_assoc, List.take_append_drop, List.take_append_drop]
    have l1 : (a.take (cN ks)).length = cN ks := by rw [List.length_take]; omega
    have l2 : ((a.drop (cN ks)).take (cN vs)).length = cN vs := by rw [List.length_take, List.length_drop]; omega
    have ih := entsOf_app hst i (a := a.drop (cN ks + cN vs)) (by rw [List.length_drop]; omega) b
    have e1 := entsOf_one hst l1 l2 (a.drop (cN ks + cN vs))
    have e2 := entsOf_one hst l1 l2 (a.drop (cN ks + cN vs) ++ b)
    rw [← hsp] at e1
    rw [← List.append_assoc, ← hsp] at e2
    rw [e1, e2, ih.1]
    exact ⟨rfl, by simp [ih.2]⟩
theorem entsOf_two (hst : 0 < cN ks + cN vs) {kc vc : List CV} (h1 : kc.length = cN ks) (h2 : vc.length = cN vs) : entsOf ks vs (kc ++ vc) = [(cV ks kc, cV vs vc)] := by
  have := entsOf_one hst h1 h2 []
  rwa [List.append_nil] at this
end
theorem St.setM {σ : Hs} {w : World} (h : St σ w) {j : Nat} {e : Blk} (he : σ.L[j]? = some e) {ks vs : Nat} (hT : e.T = .map ks vs) {cs : List CV} (hc : ∀ x ∈ cs, x.ok σ.L) {o : Obj} (hM : MapIs (setBlock w e.b o) e.b (entsOf ks vs cs)) :
    St { σ with L := σ.L.set j { e with cs := cs } } (setBlock w e.b o) := by
  have hm := List.mem_of_getElem? he
  have hv : ¬ e.void := fun q => by have := q.1; rw [hT] at this; cases this
  have hx : Ext σ.L (σ.L.set j { e with cs := cs }) := Ext.setV he fun q => absurd q hv
  have hother : ∀ k, k ≠ e.b → (setBlock w e.b o).heap[k]? = w.heap[k]? := fun k hk => by simp [setBlock, Array.getElem?_setIfInBounds, Ne.symm hk]
  have hsz : (setBlock w e.b o).heap.size = w.heap.size := by simp [setBlock]
  refine ⟨fun f hf => ?_, fun f hf x hxx => ?_, h.nd.setV he rfl fun q => absurd q hv, fun f hf => ?_, ⟨h.fp.os, h.fp.tape, h.fp.output, by rw [hsz]; exact h.fp.size, fun k hk hn => ?_⟩⟩
  · rcases mem_set hf with rfl | ⟨i, hij, hi⟩
    · obtain ⟨b, u, es, T⟩ := e
      simp only at hT
      subst hT
      exact hM
    · by_cases hb : f.b = e.b
      · rcases h.nd i j f e hi he hij hb with q | q
        · exact Blk.void_sat q _
        · exact absurd q hv
      · exact Blk.keep (h.sat f (List.mem_of_getElem? hi)) (hother _ hb)
  · rcases mem_set hf with rfl | ⟨i, _, hi⟩
    · exact (hc x hxx).ext hx
    · exact (h.ok f (List.mem_of_getElem? hi) x hxx).ext hx
  · rw [hsz]
    rcases mem_set hf with rfl | ⟨i, _, hi⟩
    · exact h.lt e hm
    · exact h.lt f (List.mem_of_getElem? hi)
  · obtain ⟨g, g1, g2⟩ := set_mem he (e' := { e with cs := cs }) rfl hm
    have hne : k ≠ e.b := fun q => hn (Or.inr ⟨g, g1, by rw [g2, q]⟩)
    rw [hother k hne]
    refine h.fp.block k hk fun q => hn (q.imp id fun ⟨f, hf, hb⟩ => ?_)
    obtain ⟨g, g1, g2⟩ := set_mem he (e' := { e with cs := cs }) rfl hf
    exact ⟨g, g1, g2.trans hb⟩
theorem St.newM {σ : Hs} {w : World} (h : St σ w) (ks vs : Nat) : St { σ with L := σ.L ++ [⟨w.heap.size, 0, [], .map ks vs⟩] } (w.alloc (.map #[] 0)) := by
  have hx := Ext.push σ.L [⟨w.heap.size, 0, [], .map ks vs⟩]
  refine ⟨fun f hf => ?_, fun f hf x hxx => ?_, h.nd.push fun f hf q => absurd (h.lt f hf) (by simp only at q; omega), fun f hf => ?_, ?_⟩
  · rcases List.mem_append.1 hf with hf | hf
    · exact Blk.keep (h.sat f hf) (Below.heap_alloc _ _ _ (h.lt f hf))
    · obtain rfl := List.mem_singleton.1 hf
      exact MapIs.made w
  · rcases List.mem_append.1 hf with hf | hf
    · exact (h.ok f hf x hxx).ext hx
    · obtain rfl := List.mem_singleton.1 hf
      cases hxx
  · have hsz : (w.alloc (.map #[] 0)).heap.size = w.heap.size + 1 := by simp
    rw [hsz]
    rcases List.mem_append.1 hf with hf | hf
    · exact Nat.lt_succ_of_lt (h.lt f hf)
    · obtain rfl := List.mem_singleton.1 hf
      exact Nat.lt_succ_self _
  · refine (h.fp.mono fun i _ hi => ?_).alloc _
    rcases hi with hi | ⟨f, hf, rfl⟩
    · exact Or.inl hi
    · exact Or.inr ⟨f, List.mem_append_left _ hf, rfl⟩
/-- A map's cells with an entry more, or another value. -/
def updM (P : Program) (kl : List Nat) (k ks vs : Nat) (cs kc vc : List CV) (kd : Value) : Option (List CV) :=
  bif kl.any (Nat.beq k) && (keyOf P k kd).isSome && keysB P k ks vs cs.length cs && Nat.blt 0 (cN ks + cN vs) && Nat.beq (cs.length % (cN ks + cN vs)) 0 then (match findM ks vs cs.length cs kc with
    | some none => some (cs ++ (kc ++ vc))
    | some (some (i, _)) => some (cs.take (i * (cN ks + cN vs)) ++ (kc ++ vc ++ cs.drop ((i + 1) * (cN ks + cN vs))))
    | none => none) else none
def delM (P : Program) (kl : List Nat) (k ks vs : Nat) (cs kc : List CV) (kd : Value) : Option (List CV) :=
  bif kl.any (Nat.beq k) && (keyOf P k kd).isSome && keysB P k ks vs cs.length cs && Nat.blt 0 (cN ks + cN vs) && Nat.beq (cs.length % (cN ks + cN vs)) 0 then (match findM ks vs cs.length cs kc with
    | some none => some cs
    | some (some (i, _)) => some (cs.take (i * (cN ks + cN vs)) ++ cs.drop ((i + 1) * (cN ks + cN vs)))
    | none => none) else none
section
variable {P : Program} {kl : List Nat} {w : World} {b : Nat}
/-- Where the entry stands. -/
theorem split_at {ks vs : Nat} (hst : 0 < cN ks + cN vs) {cs : List CV} (hmod : cs.length % (cN ks + cN vs) = 0) {m1 m2 : List (Value × Value)} {p : Value × Value} (h : entsOf ks vs cs = m1 ++ p :: m2) :
    entsOf ks vs (cs.take (m1.length * (cN ks + cN vs))) = m1 ∧ entsOf ks vs (cs.drop ((m1.length + 1) * (cN ks + cN vs))) = m2 ∧ (cs.take (m1.length * (cN ks + cN vs))).length = m1.length * (cN ks + cN vs) := by
  obtain ⟨q, hq⟩ : ∃ q, cs.length = q * (cN ks + cN vs) := ⟨cs.length / (cN ks + cN vs), by rw [Nat.mul_comm]; exact (Nat.mul_div_cancel' (Nat.dvd_of_mod_eq_zero hmod)).symm⟩
  have hlen := (entsOf_app hst q hq []).2
  rw [h] at hlen
  simp only [List.length_append, List.length_cons] at hlen
  have hle : (m1.length + 1) * (cN ks + cN vs) ≤ cs.length := by rw [hq]; exact Nat.mul_le_mul_right _ (by omega)
  have e0 : (m1.length + 1) * (cN ks + cN vs) = m1.length * (cN ks + cN vs) + (cN ks + cN vs) := by rw [Nat.add_mul, Nat.one_mul]
  have l1 : (cs.take (m1.length * (cN ks + cN vs))).length = m1.length * (cN ks + cN vs) := by rw [List.length_take]; omega
  have l2 : (cs.take ((m1.length + 1) * (cN ks + cN vs))).length = (m1.length + 1) * (cN ks + cN vs) := by rw [List.length_take]; omega
  have a1 := entsOf_app hst _ l1 (cs.drop (m1.length * (cN ks + cN vs)))
  have a2 := entsOf_app hst _ l2 (cs.drop ((m1.length + 1) * (cN ks + cN vs)))
  rw [List.take_append_drop, h] at a1 a2
  obtain ⟨b1, _⟩ := List.append_inj a1.1 a1.2.symm
  have a3 : m1 ++ p :: m2 = (m1 ++ [p]) ++ m2 := by simp
  rw [a3] at a2
  obtain ⟨_, b2⟩ := List.append_inj a2.1 (by rw [a2.2]; simp)
  exact ⟨b1.symm, b2.symm, l1⟩
theorem updM_ok (hK : ∀ k ∈ kl, KeyLaw P k) {t k e : Nat} (ht : P.underlying t = some (.map k e)) {ks vs : Nat} {cs kc vc cs' : List CV} {kd vd : Value} (h : updM P kl k ks vs cs kc vc kd = some cs') (hM : MapIs w b (entsOf ks vs cs))
    (k1 : kd = cV ks kc) (k2 : kc.length = cN ks) (k3 : ks = 0 → kc.length = 1) (v1 : vd = cV vs vc) (v2 : vc.length = cN vs) :
    (∀ x ∈ cs', x ∈ cs ∨ x ∈ kc ∨ x ∈ vc) ∧ ∃ o, (Instr.mapUpdate t (.map (some b)) kd vd).run P w = .ok () (setBlock w b o) ∧ MapIs (setBlock w b o) b (entsOf ks vs cs') := by
  unfold updM at h
  rcases hb : kl.any (Nat.beq k) && (keyOf P k kd).isSome && keysB P k ks vs cs.length cs && Nat.blt 0 (cN ks + cN vs) && Nat.beq (cs.length % (cN ks + cN vs)) 0 with _ | _
  · rw [hb] at h; cases h
  rw [hb] at h
  simp only [Bool.and_eq_true] at hb
  obtain ⟨⟨⟨⟨h1, h2⟩, h3⟩, h4⟩, h5⟩ := hb
  have K := kl_law hK h1
  obtain ⟨lx, hlx⟩ := Option.isSome_iff_exists.1 h2
  have hkeys := keysB_ok h3
  have hst : 0 < cN ks + cN vs := by simpa [Nat.blt_eq] using h4
  have hmod := Nat.eq_of_beq_eq_true h5
  simp only [cond_true] at h
  split at h <;> first | (cases h; done) | skip
  · rename_i hf
    obtain rfl := Option.some.inj h
    have hno := findM_ok k3 hf
    simp only at hno
    rw [← k1] at hno
    obtain ⟨o, q1, q2⟩ := update_new K ht hM hkeys ⟨lx, hlx⟩ hno vd
    refine ⟨fun x hx => ?_, o, q1, ?_⟩
    · simpa [List.mem_append] using hx
    · obtain ⟨q, hq⟩ : ∃ q, cs.length = q * (cN ks + cN vs) := ⟨cs.length / (cN ks + cN vs), by rw [Nat.mul_comm]; exact (Nat.mul_div_cancel' (Nat.dvd_of_mod_eq_zero hmod)).symm⟩
      rw [(entsOf_app hst q hq _).1, entsOf_two hst k2 v2, ← k1, ← v1]
      exact q2
  · rename_i i v hf
    obtain rfl := Option.some.inj h
    obtain ⟨m1, m2, e1, e2, e3, e4, e5⟩ := findM_ok k3 hf
    obtain ⟨s1, s2, s3⟩ := split_at hst hmod (by rw [← e1]; rfl)
    rw [e2] at s1 s2 s3
    refine ⟨fun x hx => ?_, ?_⟩
    · simp only [List.mem_append] at hx
      rcases hx with hx | (hx | hx) | hx
      · exact Or.inl (List.mem_of_mem_take hx)
      · exact Or.inr (Or.inl hx)
      · exact Or.inr (Or.inr hx)
      · exact Or.inl (List.mem_of_mem_drop hx)
    have hnew : entsOf ks vs (cs.take (i * (cN ks + cN vs)) ++ (kc ++ vc ++ cs.drop ((i + 1) * (cN ks + cN vs)))) = m1 ++ (kd, vd) :: m2 := by
      rw [(entsOf_app hst i s3 _).1, entsOf_one hst k2 v2, s1, s2, ← k1, ← v1]
    rw [hnew]
    rw [← k1] at e1 e3 e4
    have hlt := hM.lt
    obtain ⟨es, clk, hbk, hmm⟩ := hM
    rcases K.find w hlx es.toList (keys_ok hmm hkeys) with ⟨_, q⟩ | ⟨jj, e0, q1, q2, q3⟩
    · have hin : (kd, cV vs v) ∈ es.toList.map (fun e => (e.key, e.val)) := by rw [hmm]; unfold entsOf; rw [e1]; simp
      obtain ⟨e2, h1, h2⟩ := List.mem_map.1 hin
      simp only [Prod.mk.injEq] at h2
      exact absurd h2.1 (q e2 h1)
    · have hjs : jj < es.size := by have := (List.getElem?_eq_some_iff.1 q2).1; simpa using this
      have hmap : (es.toList.map (fun e => (e.key, e.val)))[jj]? = some (kd, e0.val) := by rw [List.getElem?_map, q2]; simp [q3]
      have hmm' : es.toList.map (fun e => (e.key, e.val)) = m1 ++ (kd, cV vs v) :: m2 := by rw [hmm]; exact e1
      have hjm : jj = m1.length := by
        rw [hmm'] at hmap
        rcases Nat.lt_trichotomy jj m1.length with q | q | q
        · rw [List.getElem?_append_left q] at hmap
          exact absurd rfl (e3 _ (List.mem_of_getElem? hmap))
        · exact q
        · rw [List.getElem?_append_right (by omega)] at hmap
          obtain ⟨d, hd⟩ : ∃ d, jj - m1.length = d + 1 := ⟨jj - m1.length - 1, by omega⟩
          rw [hd, List.getElem?_cons_succ] at hmap
          exact absurd rfl (e4 _ (List.mem_of_getElem? hmap))
      have hget : (es[jj]?).map (·.key) = some kd := by
        have : es[jj]? = some e0 := by rw [← q2]; simp
        rw [this]; simp [q3]
      have hst' := K.stays w hlx
      refine ⟨.map (es.modify jj fun e => { e with key := kd, val := vd }) clk, ?_, es.modify jj fun e => { e with key := kd, val := vd }, clk, by simp [setBlock, hlt], ?_⟩
      · have hgd : (((es[jj]?).map (·.key)).getD kd) = kd := by rw [hget]; rfl
        simp [Instr.mapUpdate, run_underlying ht, MapKept.run_getObj_map hbk, K.check w false hlx, q1, hgd, hst', MapKept.run_setObj_map _ hbk, Result.andThen, setBlock]
      · apply List.ext_getElem?
        intro x
        rw [List.getElem?_map, Array.getElem?_toList, Array.getElem?_modify]
        have hx0 : ∀ x : Nat, (es[x]?).map (fun e : MapEntry => (e.key, e.val)) = (m1 ++ (kd, cV vs v) :: m2)[x]? := fun x => by rw [← hmm', List.getElem?_map, Array.getElem?_toList]
        by_cases hxj : jj = x
        · subst hxj
          rw [if_pos rfl, hjm]
          rw [List.getElem?_append_right (Nat.le_refl _), Nat.sub_self, List.getElem?_cons_zero]
          have : es[m1.length]? = some e0 := by rw [← hjm, ← q2]; simp
          rw [this]; rfl
        · rw [if_neg hxj]
          rw [hx0 x]
          rcases Nat.lt_trichotomy x m1.length with q | q | q
          · rw [List.getElem?_append_left q, List.getElem?_append_left q]
          · omega
          · rw [List.getElem?_append_right (by omega), List.getElem?_append_right (by omega)]
            obtain ⟨d, hd⟩ : ∃ d, x - m1.length = d + 1 := ⟨x - m1.length - 1, by omega⟩
            rw [hd, List.getElem?_cons_succ, List.getElem?_cons_succ]
theorem delM_ok (hK : ∀ k ∈ kl, KeyLaw P k) {t k e ty : Nat} (ht : P.underlying t = some (.map k e)) {ks vs : Nat} {cs kc cs' : List CV} {kd : Value} (h : delM P kl k ks vs cs kc kd = some cs') (hM : MapIs w b (entsOf ks vs cs))
    (k1 : kd = cV ks kc) (k3 : ks = 0 → kc.length = 1) :
    (∀ x ∈ cs', x ∈ cs) ∧ ∃ o, (Builtin.delete_ #[t, k] ty #[.map (some b), kd]).run P w = .ok (.tuple #[]) (setBlock w b o) ∧ MapIs (setBlock w b o) b (entsOf ks vs cs') := by
  unfold delM at h
  rcases hb : kl.any (Nat.beq k) && (keyOf P k kd).isSome && keysB P k ks vs cs.length cs && Nat.blt 0 (cN ks + cN vs) && Nat.beq (cs.length % (cN ks + cN vs)) 0 with _ | _
  · rw [hb] at h; cases h
  rw [hb] at h
  simp only [Bool.and_eq_true] at hb
  obtain ⟨⟨⟨⟨h1, h2⟩, h3⟩, h4⟩, h5⟩ := hb
  have K := kl_law hK h1
  obtain ⟨lx, hlx⟩ := Option.isSome_iff_exists.1 h2
  have hkeys := keysB_ok h3
  have hst : 0 < cN ks + cN vs := by simpa [Nat.blt_eq] using h4
  have hmod := Nat.eq_of_beq_eq_true h5
  simp only [cond_true] at h
  have hlt := hM.lt
  split at h <;> first | (cases h; done) | skip
  · rename_i hf
    obtain rfl := Option.some.inj h
    have hno := findM_ok k3 hf
    simp only at hno
    rw [← k1] at hno
    obtain ⟨es, clk, hbk, hmm⟩ := hM
    refine ⟨fun x hx => hx, .map es clk, ?_, es, clk, by simp [setBlock, hlt], hmm⟩
    rcases K.find w hlx es.toList (keys_ok hmm hkeys) with ⟨q, _⟩ | ⟨jj, e0, _, q2, q3⟩
    · simp [Builtin.delete_, run_underlying ht, MapKept.run_getObj_map hbk, K.check w _ hlx, q, MapKept.run_setObj_map _ hbk, Result.andThen, setBlock]
    · exact absurd q3 (hno (e0.key, e0.val) (by unfold entsOf at hmm; rw [← hmm]; exact List.mem_map.2 ⟨e0, List.mem_of_getElem? q2, rfl⟩))
  · rename_i i v hf
    obtain rfl := Option.some.inj h
    obtain ⟨m1, m2, e1, e2, e3, e4, e5⟩ := findM_ok k3 hf
    obtain ⟨s1, s2, s3⟩ := split_at hst hmod (by rw [← e1]; rfl)
    rw [e2] at s1 s2 s3
    refine ⟨fun x hx => (List.mem_append.1 hx).elim List.mem_of_mem_take List.mem_of_mem_drop, ?_⟩
    have hnew : entsOf ks vs (cs.take (i * (cN ks + cN vs)) ++ cs.drop ((i + 1) * (cN ks + cN vs))) = m1 ++ m2 := by rw [(entsOf_app hst i s3 _).1, s1, s2]
    rw [hnew]
    rw [← k1] at e1 e3 e4
    obtain ⟨es, clk, hbk, hmm⟩ := hM
    rcases K.find w hlx es.toList (keys_ok hmm hkeys) with ⟨_, q⟩ | ⟨jj, e0, q1, q2, q3⟩
    · have hin : (kd, cV vs v) ∈ es.toList.map (fun e => (e.key, e.val)) := by rw [hmm]; unfold entsOf; rw [e1]; simp
      obtain ⟨e2, h1, h2⟩ := List.mem_map.1 hin
      simp only [Prod.mk.injEq] at h2
      exact absurd h2.1 (q e2 h1)
    · have hjs : jj < es.size := by have := (List.getElem?_eq_some_iff.1 q2).1; simpa using this
      have hmap : (es.toList.map (fun e => (e.key, e.val)))[jj]? = some (kd, e0.val) := by rw [List.getElem?_map, q2]; simp [q3]
      have hmm' : es.toList.map (fun e => (e.key, e.val)) = m1 ++ (kd, cV vs v) :: m2 := by rw [hmm]; exact e1
      have hjm : jj = m1.length := by
        rw [hmm'] at hmap
        rcases Nat.lt_trichotomy jj m1.length with q | q | q
        · rw [List.getElem?_append_left q] at hmap
          exact absurd rfl (e3 _ (List.mem_of_getElem? hmap))
        · exact q
        · rw [List.getElem?_append_right (by omega)] at hmap
          obtain ⟨d, hd⟩ : ∃ d, jj - m1.length = d + 1 := ⟨jj - m1.length - 1, by omega⟩
          rw [hd, List.getElem?_cons_succ] at hmap
          exact absurd rfl (e4 _ (List.mem_of_getElem? hmap))
      have hsub : (es.eraseIdxIfInBounds jj).toList = es.toList.eraseIdx jj := by
        unfold Array.eraseIdxIfInBounds
        rw [dif_pos hjs]
        simp
      refine ⟨.map (es.eraseIdxIfInBounds jj) clk, ?_, es.eraseIdxIfInBounds jj, clk, by simp [setBlock, hlt], ?_⟩
      · simp [Builtin.delete_, run_underlying ht, MapKept.run_getObj_map hbk, K.check w _ hlx, q1, MapKept.run_setObj_map _ hbk, Result.andThen, setBlock]
      · rw [hsub, List.eraseIdx_eq_take_drop_succ, List.map_append, List.map_take, List.map_drop, hmm', hjm, List.take_left]
        have : m1 ++ (kd, cV vs v) :: m2 = (m1 ++ [(kd, cV vs v)]) ++ m2 := by simp
        rw [this, show m1.length + 1 = (m1 ++ [(kd, cV vs v)]).length by simp, List.drop_left]
end
end
end Go.Proofs.YthmokdfigjffjaaGreatDoor

namespace Go.Proofs.YthmokdfigjffjaaGreatDoor
set_option linter.unusedVariables false
set_option linter.unusedSimpArgs false
open Go.RowKit
noncomputable section

def Kr (ps : List Nat) (σ : Hs) (Q : Fr → Hp → Strm → Bool) (F : Fr) (σ' : Hs) : Prop := KpW (some (kvP ps)) σ σ' ∧ Ext σ.L σ'.L ∧ ∀ s, Q F σ'.L s = true
theorem stepS_mono {n : Nz} {all : List Oper} {i : Nat} {F : Fr} {yes no yes' no' : Oper → Fr → Prop} (h : stepS n all i F yes no) (hy : ∀ o F, yes o F → yes' o F) (hn : ∀ o F, no o F → no' o F) : stepS n all i F yes' no' := by
  unfold stepS at h ⊢
  split at h
  · rename_i o ho
    rcases hb : inB n.n o.dst with _ | _
    · rw [hb] at h; exact h.elim
    rw [hb] at h
    exact gdS_mono h (hy o) (hn o)
  · exact h
theorem stepR_ok {n : Nz} {all : List Oper} {i : Nat} {F : Fr} {yes no : Strm → Oper → Fr → Bool} (h : ∀ s, stepR n all i F (yes s) (no s) = true) : stepS n all i F (fun o F => ∀ s, yes s o F = true) (fun o F => ∀ s, no s o F = true) := by
  have h0 := h fun _ => 0
  unfold stepR at h h0
  unfold stepS
  split
  · rename_i o ho
    simp only [ho] at h h0
    rcases hb : inB n.n o.dst with _ | _
    · rw [hb] at h0; cases h0
    simp only [hb, cond_true] at h ⊢
    exact gdR_ok (yes := fun s => yes s o) (no := fun s => no s o) h ⟨fun _ => 0⟩
  · rename_i ho
    simp only [ho] at h0; cases h0
section
variable {P : Program} {tb : Tbx} {fo : Fo} {gl : Gl} {raw : List Nat → Nz → Oper → Fr → Hp → Strm → KvR → Bool} {rt : Nz → Oper → Fr → Hp → Option SV} {call : List Nat → Nat → List SV → Hp → Strm → KvR → Bool} {ps : List Nat} {n : Nz}
/-- A variable that was made ahead of its turn: it is not among the known blocks yet. -/
structure Ah (d β : Nat) (cs : List CV) (T : TypeId) (σ : Hs) (a : Act) (w : World) : Prop where
  tmp : a.tmps[d]? = some (.pointer (some ⟨β, 0, none⟩))
  blk : w.heap[β]? = some (.cells (cs.map CV.den).toArray T)
  ap : ∀ e ∈ σ.L, e.b ≠ β
  ge : σ.w0.heap.size ≤ β
theorem St.rebase {σ : Hs} {w : World} (h : St σ w) : St ⟨σ.L, fun _ => False, w⟩ w := ⟨h.sat, h.ok, h.nd, h.lt, Fp.refl _ _⟩
theorem Gd.rebase {σ : Hs} {w : World} (hg : Gd gl σ) (h : St σ w) : Gd gl ⟨σ.L, fun _ => False, w⟩ := fun g cs hq => by
  obtain ⟨h1, h2, h3, h4, h5⟩ := hg g cs hq
  have hb : w.heap[g]? = σ.w0.heap[g]? := h.fp.block g h3 (fun q => q.elim h4 fun ⟨e, he, hb⟩ => h5 e he hb)
  exact ⟨fun k x hx => (World.cell?_of_block (w := σ.w0) hb).trans (h1 k x hx), h2, Nat.lt_of_lt_of_le h3 h.fp.size, id, h5⟩
theorem St.unbase {σ σ' : Hs} {w w' : World} {kv : Nat → Bool} (h : St σ w) (h' : St σ' w') (k : KpW (some kv) ⟨σ.L, fun _ => False, w⟩ σ') (hx : Ext σ.L σ'.L) :
    St ⟨σ'.L, σ.S, σ.w0⟩ w' ∧ KpW (some kv) σ ⟨σ'.L, σ.S, σ.w0⟩ ∧ Fp (fun k => ∃ e ∈ σ'.L, e.b = k) w w' ∧ ∀ e ∈ σ'.L, (∃ f ∈ σ.L, f.b = e.b) ∨ w.heap.size ≤ e.b := by
  obtain ⟨L', S', w0'⟩ := σ'
  obtain ⟨k1, k2, k3, k4⟩ := k
  dsimp only at k1 k2 k3 k4 h' hx ⊢
  subst k1 k2
  have hf : Fp (fun k => ∃ e ∈ L', e.b = k) w0' w' := h'.fp.mono fun i _ q => q.elim False.elim id
  refine ⟨⟨h'.sat, h'.ok, h'.nd, h'.lt, (h.fp.mono fun i _ q => q.imp id fun ⟨e, he, hb⟩ => ?_).trans hf fun i _ q => Or.inr q⟩, ⟨rfl, rfl, k3, fun e he => (k4 e he).imp id fun q => Nat.le_trans h.fp.size q⟩, hf, k4⟩
  obtain ⟨j, hj⟩ := List.mem_iff_getElem?.1 he
  obtain ⟨f, h1, h2, _⟩ := hx j e hj
  exact ⟨f, List.mem_of_getElem? h1, h2.trans hb⟩
theorem St.adopt {σ : Hs} {w : World} (h : St σ w) {cs : List CV} {T : TypeId} {β : Nat} (hc : ∀ x ∈ cs, x.ok σ.L) (hb : w.heap[β]? = some (.cells (cs.map CV.den).toArray T)) (ha : ∀ e ∈ σ.L, e.b ≠ β) :
    St { σ with L := σ.L ++ [⟨β, 0, cs, .obj T⟩] } w := by
  have hx := Ext.push σ.L [⟨β, 0, cs, .obj T⟩]
  have hlt : β < w.heap.size := (Array.getElem?_eq_some_iff.1 hb).1
  refine ⟨fun f hf => ?_, fun f hf x hxx => ?_, h.nd.push fun f hf q => absurd q (ha f hf), fun f hf => ?_, h.fp.mono fun i _ hi => ?_⟩
  · rcases List.mem_append.1 hf with hf | hf
    · exact h.sat f hf
    · obtain rfl := List.mem_singleton.1 hf
      exact ⟨hb, rfl⟩
  · rcases List.mem_append.1 hf with hf | hf
    · exact (h.ok f hf x hxx).ext hx
    · obtain rfl := List.mem_singleton.1 hf
      exact (hc x hxx).ext hx
  · rcases List.mem_append.1 hf with hf | hf
    · exact h.lt f hf
    · obtain rfl := List.mem_singleton.1 hf
      exact hlt
  · rcases hi with hi | ⟨f, hf, rfl⟩
    · exact Or.inl hi
    · exact Or.inr ⟨f, List.mem_append_left _ hf, rfl⟩
theorem Ah.step {d β : Nat} {cs : List CV} {T : TypeId} {σ : Hs} {a : Act} {w : World} (h : Ah d β cs T σ a w) {L' : Hp} {w' : World} (hS : St σ w) (hf : Fp (fun k => ∃ e ∈ L', e.b = k) w w') (k4 : ∀ e ∈ L', (∃ f ∈ σ.L, f.b = e.b) ∨ w.heap.size ≤ e.b) {dst : Option Nat} {v : Value} (hd : dst ≠ some d) : Ah d β cs T ⟨L', σ.S, σ.w0⟩ (a.put dst v) w' := by
  have hlt : β < w.heap.size := (Array.getElem?_eq_some_iff.1 h.blk).1
  have hap : ∀ e ∈ L', e.b ≠ β := fun e he q => by
    rcases k4 e he with ⟨f, hf, hb⟩ | hb
    · exact h.ap f hf (hb.trans q)
    · omega
  refine ⟨?_, ?_, hap, h.ge⟩
  · cases dst with
    | none => exact h.tmp
    | some t =>
      have hne : t ≠ d := fun q => hd (by rw [q])
      simpa [Act.put, Array.getElem?_setIfInBounds_ne hne] using h.tmp
  · rw [hf.block β hlt (fun ⟨e, he, hb⟩ => hap e he hb)]
    exact h.blk
theorem neO_ok {ops : List Oper} {j i d : Nat} {oj oi : Oper} (hj : ops[j]? = some oj) (hi : ops[i]? = some oi) (hd : oi.dst = some d) (h : neO (dstO ops.toArray j) (dstO ops.toArray i) = true) : oj.dst ≠ some d := fun q => by
  simp [dstO, hj, hi, hd, q, neO] at h
theorem zdepth {ops : Array Oper} {z : Option Nat} {i : Nat} : ∀ {p : Pl} {ls : Array Bool} {rs : List Nat}, planOk ops z (some i) p ls rs = true → 1 ≤ p.depth
  | .nil, _, _, h => by simp [planOk] at h
  | .t _ _, _, _, _ => by simp [Pl.depth]
  | .x _ _, _, _, _ => by simp [Pl.depth]
  | .l _, _, _, h => by simp [planOk] at h
  | .b _ _ _, _, _, h => by simp [planOk] at h
  | .z _ _, _, _, h => by simp [planOk] at h
theorem look_put {F : Fr} {dst : Option Nat} {d : Nat} {v : SV} (h : look F d = none) (hd : dst ≠ some d) : look (putF F dst v) d = none := by
  cases dst with
  | none => exact h
  | some t =>
    simp only [putF, look_cons]
    rcases hb : Nat.beq t d with _ | _
    · exact h
    · exact absurd (by rw [show t = d by simpa using hb]) hd
theorem look_delF (d : Nat) (F : Fr) : look (delF d F) d = none ∧ ∀ t x, look (delF d F) t = some x → look F t = some x := by
  unfold delF
  split
  · rename_i h; exact ⟨h, fun _ _ q => q⟩
  · rename_i v hv
    clear hv
    induction F with
    | nil => exact ⟨rfl, fun _ _ q => q⟩
    | cons x F ih =>
      obtain ⟨u, y⟩ := x
      simp only
      rcases hb : Nat.beq u d with _ | _
      · simp only [cond_false, look_cons, hb]
        refine ⟨ih.1, fun t z h => ?_⟩
        rcases ht : Nat.beq u t with _ | _
        · rw [ht] at h; exact ih.2 t z h
        · rw [ht] at h; exact h
      · simp only [cond_true]
        refine ⟨ih.1, fun t z h => ?_⟩
        have h2 := ih.2 t z h
        rw [look_cons]
        rcases ht : Nat.beq u t with _ | _
        · exact h2
        · obtain rfl : u = d := by simpa using hb
          obtain rfl : u = t := by simpa using ht
          rw [ih.1] at h; cases h
theorem FrOk.del {n : Nz} {a : Act} {L : Hp} {F : Fr} (h : FrOk n a L F) (d : Nat) : FrOk n a L (delF d F) := ⟨h.size, h.defers, fun t x hx => h.at_ t x ((look_delF d F).2 t x hx)⟩
section
variable {all : List Oper} {Q : Fr → Hp → Strm → Bool} {σ0 : Hs} {QQ : Exit → Fr → Hs → Prop} {po : List Nat} {i d : Nat} {o : Oper} {T : TypeId} {r0 : TR}
theorem alloc_eff (hop : o.op = .alloc T) (hT : tbl tb T = some r0) (hz : Nat.beq r0.zero.length r0.size = true) (F : Fr) (L : Hp) : effS tb F L o.op = .new r0.zero T := by
  rw [hop]; simp only [effS, hT, hz, cond_true]
theorem planD_ok (hcx : CxOk P tb fo) (hc : CallOk P gl call) (hr : RawOk P gl raw) (hrt : RtOk P rt) (hg0 : Gd gl σ0) (hm : ∀ j, kvP ps j = true → j < σ0.L.length) (hs : Region.noSelect all.toArray = true)
    (ho : all[i]? = some o) (hop : o.op = .alloc T) (hdst : o.dst = some d) (hgu : o.guard = none) (hT : tbl tb T = some r0) (hz : Nat.beq r0.zero.length r0.size = true) (hin : inB n.n o.dst = true) {m : Nat}
    (hN : ∀ r', SizeOf.sizeOf r' ≤ m → ∀ F σ, (∀ s, planR tb fo gl raw rt call ps n po all Q r' F σ.L s = true) → KpW (some (kvP ps)) σ0 σ → Ext σ0.L σ.L → planS P tb fo n all (kvP ps) σ0 (QQ .normal) r' F σ) :
    ∀ (p : Pl) (β : Nat) (ls : Array Bool) (fuel : Nat) (a : Act) (w : World) (F : Fr) (σ : Hs), SizeOf.sizeOf p ≤ m → DC .any all.toArray ls → i ∈ Region.ready .any all.toArray ls → planOk all.toArray none (some i) p ls (Region.ready .any all.toArray ls) = true → p.depth ≤ fuel + 1 → FrOk n a σ.L F → St σ w → KpW (some (kvP ps)) σ0 σ → Ext σ0.L σ.L → Ah d β r0.zero T σ a w →
      (∀ s, planR tb fo gl raw rt call ps n po all Q p F σ.L s = true) → wpAnyK P .any all.toArray (Rz n QQ) (StR (kvP ps) σ0) none fuel (ls.setIfInBounds i true) a w := by
  intro p
  induction p with
  | nil => intro β ls fuel a w F σ _ _ _ hp; simp [planOk] at hp
  | l j => intro β ls fuel a w F σ _ _ _ hp; simp [planOk] at hp
  | b j r s _ _ => intro β ls fuel a w F σ _ _ _ hp; simp [planOk] at hp
  | z j r _ => intro β ls fuel a w F σ _ _ _ hp; simp [planOk] at hp
  | t j r ih =>
    intro β ls fuel a w F σ hsz hd hi hp hf hF hS hk hx hA h
    simp only [planOk, Bool.and_eq_true, Bool.not_eq_true'] at hp
    obtain ⟨⟨⟨⟨⟨⟨p1, p2⟩, p3⟩, p4⟩, p5⟩, p6⟩, p7⟩ := hp
    have hji : j ≠ i := fun q => by subst q; simp at p1
    have hjr : j ∈ Region.ready .any all.toArray ls := by simpa using p2
    have hdp := zdepth p7
    simp only [Pl.depth] at hf
    obtain ⟨fuel, rfl⟩ : ∃ f, fuel = f + 1 := ⟨fuel - 1, by omega⟩
    simp only [planR] at h
    obtain ⟨oj, F', hoj, hb, hF', _, h⟩ := step_ok hF (stepR_ok h)
    have hoj' : all.toArray[j]? = some oj := by simpa using hoj
    have hne := neO_ok hoj ho hdst p6
    have hfp : Fp (fun k => ∃ e ∈ σ.L, e.b = k) w w := Fp.refl _ _
    have hk4 : ∀ e ∈ σ.L, (∃ f ∈ σ.L, f.b = e.b) ∨ w.heap.size ≤ e.b := fun e he => Or.inl ⟨e, he, rfl⟩
    have hsr : SizeOf.sizeOf r ≤ m := by simp only [Pl.t.sizeOf_spec] at hsz; omega
    have hR := StR.of hS hk
    rcases h with ⟨hw, h⟩ | ⟨hw, h⟩
    · have ht := takeR_ok hrt (hg0.kp hk hx) (σ0 := σ0) (K' := fun v => ∀ s, planR tb fo gl raw rt call ps n po all Q r (putF F' oj.dst v) σ.L s = true) h fun v h => h
      obtain ⟨v, hv, hvo, hK⟩ := take_ok hcx hm hF' hS.ok hk hx ht
      refine wpAnyK_take hoj' (hd.set hi) hs p5 p4 (fun _ _ _ q => q) (fun k q => by cases q) (Or.inl ⟨hw, hv⟩) hR ?_
      rw [Array.setIfInBounds_comm _ _ (Ne.symm hji)]
      exact ih β _ fuel _ _ _ σ hsr (hd.set hjr) (ready_mono hi (Ne.symm hji)) p7 (by omega) (hF'.put hb hvo) hS hk hx (hA.step hS hfp hk4 hne) hK
    · refine wpAnyK_take hoj' (hd.set hi) hs p5 p4 (fun _ _ _ q => q) (fun k q => by cases q) (Or.inr ⟨hw, rfl⟩) hR ?_
      rw [Array.setIfInBounds_comm _ _ (Ne.symm hji)]
      exact ih β _ fuel _ _ _ σ hsr (hd.set hjr) (ready_mono hi (Ne.symm hji)) p7 (by omega) (hF'.put hb (undef_ok _)) hS hk hx (hA.step hS hfp hk4 hne) h
  | x j r ih =>
    intro β ls fuel a w F σ hsz hd hi hp hf hF hS hk hx hA h
    simp only [planOk] at hp
    simp only [Pl.depth] at hf
    have hsr : SizeOf.sizeOf r ≤ m := by simp only [Pl.x.sizeOf_spec] at hsz; omega
    rcases hji : Nat.beq j i with _ | _
    · rw [hji] at hp
      simp only [cond_false, Bool.and_eq_true, Bool.or_eq_true, beq_iff_eq] at hp
      obtain ⟨⟨⟨p1, p2⟩, p6⟩, p7⟩ := hp
      have hjn : j ≠ i := fun q => by subst q; simp at hji
      have hjr : j ∈ Region.ready .any all.toArray ls := by rcases p1 with q | q <;> rw [q] <;> simp
      have hdp := zdepth p7
      obtain ⟨fuel, rfl⟩ : ∃ f, fuel = f + 1 := ⟨fuel - 1, by omega⟩
      refine wpAnyK_all p2 (by simp) fun j' hj' => ?_
      obtain rfl := List.mem_singleton.1 hj'
      simp only [planR] at h
      obtain ⟨oj, F', hoj, hb, hF', _, h⟩ := step_ok hF (stepR_ok h)
      have hoj' : all.toArray[j']? = some oj := by simpa using hoj
      have hne := neO_ok hoj ho hdst p6
      have hfp : Fp (fun k => ∃ e ∈ σ.L, e.b = k) w w := Fp.refl _ _
      have hk4 : ∀ e ∈ σ.L, (∃ f ∈ σ.L, f.b = e.b) ∨ w.heap.size ≤ e.b := fun e he => Or.inl ⟨e, he, rfl⟩
      unfold wpOp
      simp only [hoj']
      rcases h with ⟨hw, h⟩ | ⟨hw, h⟩
      · rw [if_pos hw]
        have hop' := opR_ok (σ := ⟨σ.L, fun _ => False, w⟩) hc hr ((hg0.kp hk hx).rebase hS) (W := some (kvP ps)) (Or.inr rfl) h (K' := Ks ps ⟨σ.L, fun _ => False, w⟩ fun v L' s' => planR tb fo gl raw rt call ps n po all Q r (putF F' oj.dst v) L' s') fun v σ' q => q
        refine Or.inl (Oper.wp_up (opS_ok (σ := ⟨σ.L, fun _ => False, w⟩) hcx hF' hS.rebase hop') fun a' w' hp => ?_)
        obtain ⟨v, σ', rfl, hp⟩ := hp
        obtain ⟨u1, u2, u3, u4⟩ := hS.unbase hp.st hp.kp hp.ext
        have hk' := hk.trans u2
        refine ⟨fun _ => StR.of u1 hk', ?_⟩
        rw [Array.setIfInBounds_comm _ _ (Ne.symm hjn)]
        exact ih β _ fuel _ _ _ ⟨σ'.L, σ.S, σ.w0⟩ hsr (hd.set hjr) (ready_mono hi (Ne.symm hjn)) p7 (by omega) ((hF'.ext hp.ext).put hb hp.ok) u1 hk' (hx.trans hp.ext) (hA.step hS u3 u4 hne) hp.k.2.2
      · rw [if_neg (by rw [hw]; simp)]
        refine ⟨fun _ => StR.of hS hk, ?_⟩
        rw [Array.setIfInBounds_comm _ _ (Ne.symm hjn)]
        exact ih β _ fuel _ _ _ σ hsr (hd.set hjr) (ready_mono hi (Ne.symm hjn)) p7 (by omega) (hF'.put hb (undef_ok _)) hS hk hx (hA.step hS hfp hk4 hne) h
    · obtain rfl : j = i := by simpa using hji
      rw [hji] at hp
      simp only [cond_true, Bool.and_eq_true, beq_iff_eq] at hp
      obtain ⟨_, p7⟩ := hp
      have hzo : ∀ x ∈ r0.zero, x.ok σ.L := by obtain ⟨_, _, _, _, q, _⟩ := vr_info (tbl_ok hcx.tb hT); exact q σ.L
      have h2 : ∀ s, planR tb fo gl raw rt call ps n po all Q r (putF F o.dst (.e (.c (.p σ.L.length β 0)))) (σ.L ++ [⟨β, 0, r0.zero, .obj T⟩]) s = true := fun s => by
        have := h (cns β s)
        simp only [planR, stepR, ho, hin, cond_true, gdR, hgu, opR, alloc_eff hop hT hz] at this
        exact this
      have hS' := hS.adopt hzo hA.blk hA.ap
      have hx' := Ext.push σ.L [⟨β, 0, r0.zero, .obj T⟩]
      have hk' : KpW (some (kvP ps)) σ { σ with L := σ.L ++ [⟨β, 0, r0.zero, .obj T⟩] } := ⟨rfl, rfl, fun k e _ he => by rw [List.getElem?_append_left (List.getElem?_eq_some_iff.1 he).1]; exact he, fun e he => by
        rcases List.mem_append.1 he with he | he
        · exact Or.inl ⟨e, he, rfl⟩
        · obtain rfl := List.mem_singleton.1 he; exact Or.inr hA.ge⟩
      have hF2 : FrOk n a (σ.L ++ [⟨β, 0, r0.zero, .obj T⟩]) (putF F o.dst (.e (.c (.p σ.L.length β 0)))) := by
        refine ⟨hF.size, hF.defers, fun t x hx2 => ?_⟩
        rw [hdst] at hx2
        simp only [putF, look_cons] at hx2
        rcases hb : Nat.beq d t with _ | _
        · rw [hb] at hx2
          exact (hF.ext hx').at_ t x hx2
        · rw [hb] at hx2
          obtain rfl : d = t := by simpa using hb
          obtain rfl := Option.some.inj hx2
          exact ⟨hA.tmp, ⟨β, 0, r0.zero, .obj T⟩, by simp, rfl, rfl⟩
      exact (plan_ok hcx hm hs r _ _ fuel a w _ { σ with L := σ.L ++ [⟨β, 0, r0.zero, .obj T⟩] } (hd.set hi) (List.all_eq_true.2 fun k hk => by simpa using hk) (by omega) p7 hF2 hS' (hk.trans hk') (hx.trans hx') (hN r hsr _ _ h2 (hk.trans hk') (hx.trans hx'))).1 rfl
theorem planP_ok (hcx : CxOk P tb fo) (hc : CallOk P gl call) (hr : RawOk P gl raw) (hrt : RtOk P rt) (hg0 : Gd gl σ0) (hm : ∀ j, kvP ps j = true → j < σ0.L.length) (hs : Region.noSelect all.toArray = true)
    (ho : all[i]? = some o) (hop : o.op = .alloc T) (hdst : o.dst = some d) (hgu : o.guard = none) (hT : tbl tb T = some r0) (hz : Nat.beq r0.zero.length r0.size = true) (hin : inB n.n o.dst = true) {m : Nat}
    (hN : ∀ r', SizeOf.sizeOf r' ≤ m → ∀ F σ, (∀ s, planR tb fo gl raw rt call ps n po all Q r' F σ.L s = true) → KpW (some (kvP ps)) σ0 σ → Ext σ0.L σ.L → planS P tb fo n all (kvP ps) σ0 (QQ .normal) r' F σ) :
    ∀ (p : Pl) (ls : Array Bool) (fuel : Nat) (a : Act) (w : World) (F : Fr) (σ : Hs), SizeOf.sizeOf p ≤ m → DC .any all.toArray ls → i ∈ Region.ready .any all.toArray ls → planOk all.toArray none (some i) p ls (Region.ready .any all.toArray ls) = true → p.depth ≤ fuel → FrOk n a σ.L F → look F d = none → St σ w → KpW (some (kvP ps)) σ0 σ → Ext σ0.L σ.L →
      (∀ s, planR tb fo gl raw rt call ps n po all Q p F σ.L s = true) → wpAnyK P .any all.toArray (Rz n QQ) (StR (kvP ps) σ0) none fuel ls a w := by
  intro p
  induction p with
  | nil => intro ls fuel a w F σ _ _ _ hp; simp [planOk] at hp
  | l j => intro ls fuel a w F σ _ _ _ hp; simp [planOk] at hp
  | b j r s _ _ => intro ls fuel a w F σ _ _ _ hp; simp [planOk] at hp
  | z j r _ => intro ls fuel a w F σ _ _ _ hp; simp [planOk] at hp
  | t j r ih =>
    intro ls fuel a w F σ hsz hd hi hp hf hF hl hS hk hx h
    simp only [planOk, Bool.and_eq_true, Bool.not_eq_true'] at hp
    obtain ⟨⟨⟨⟨⟨⟨p1, p2⟩, p3⟩, p4⟩, p5⟩, p6⟩, p7⟩ := hp
    have hji : j ≠ i := fun q => by subst q; simp at p1
    have hjr : j ∈ Region.ready .any all.toArray ls := by simpa using p2
    simp only [Pl.depth] at hf
    obtain ⟨fuel, rfl⟩ : ∃ f, fuel = f + 1 := ⟨fuel - 1, by omega⟩
    simp only [planR] at h
    obtain ⟨oj, F', hoj, hb, hF', hll, h⟩ := step_ok hF (stepR_ok h)
    have hoj' : all.toArray[j]? = some oj := by simpa using hoj
    have hne := neO_ok hoj ho hdst p6
    have hl' : ∀ v, look (putF F' oj.dst v) d = none := fun v => look_put (hll d hl) hne
    have hsr : SizeOf.sizeOf r ≤ m := by simp only [Pl.t.sizeOf_spec] at hsz; omega
    have hR := StR.of hS hk
    rcases h with ⟨hw, h⟩ | ⟨hw, h⟩
    · have ht := takeR_ok hrt (hg0.kp hk hx) (σ0 := σ0) (K' := fun v => ∀ s, planR tb fo gl raw rt call ps n po all Q r (putF F' oj.dst v) σ.L s = true) h fun v h => h
      obtain ⟨v, hv, hvo, hK⟩ := take_ok hcx hm hF' hS.ok hk hx ht
      exact wpAnyK_take hoj' hd hs p3 p2 (fun _ _ _ q => q) (fun k q => by cases q) (Or.inl ⟨hw, hv⟩) hR (ih _ fuel _ _ _ σ hsr (hd.set hjr) (ready_mono hi (Ne.symm hji)) p7 (by omega) (hF'.put hb hvo) (hl' _) hS hk hx hK)
    · exact wpAnyK_take hoj' hd hs p3 p2 (fun _ _ _ q => q) (fun k q => by cases q) (Or.inr ⟨hw, rfl⟩) hR (ih _ fuel _ _ _ σ hsr (hd.set hjr) (ready_mono hi (Ne.symm hji)) p7 (by omega) (hF'.put hb (undef_ok _)) (hl' _) hS hk hx h)
  | x j r ih =>
    intro ls fuel a w F σ hsz hd hi hp hf hF hl hS hk hx h
    have hp0 := hp
    simp only [planOk] at hp
    have hf0 := hf
    simp only [Pl.depth] at hf
    have hsr : SizeOf.sizeOf r ≤ m := by simp only [Pl.x.sizeOf_spec] at hsz; omega
    rcases hji : Nat.beq j i with _ | _
    · rw [hji] at hp
      simp only [cond_false, Bool.and_eq_true, Bool.or_eq_true, beq_iff_eq] at hp
      obtain ⟨⟨⟨p1, p2⟩, p6⟩, p7⟩ := hp
      have hjn : j ≠ i := fun q => by subst q; simp at hji
      have hjr : j ∈ Region.ready .any all.toArray ls := by rcases p1 with q | q <;> rw [q] <;> simp
      obtain ⟨fuel, rfl⟩ : ∃ f, fuel = f + 1 := ⟨fuel - 1, by omega⟩
      refine wpAnyK_all rfl (by rcases p1 with q | q <;> rw [q] <;> simp) fun j' hj' => ?_
      have hjj : j' = i ∨ j' = j := by rcases p1 with q | q <;> rw [q] at hj' <;> simp at hj' <;> omega
      rcases hjj with rfl | rfl
      · have ho' : all.toArray[j']? = some o := by simpa using ho
        unfold wpOp
        simp only [ho']
        rw [if_pos (by simp [Region.wanted, hgu])]
        have he := effS_ok hcx.tb hF hS (o := o)
        rw [alloc_eff hop hT hz] at he
        refine Or.inl ?_
        unfold Oper.wp
        rw [he.1, Oper.upon_value]
        have hlt := hS.lt
        have hS' : St σ (w.alloc (.cells (r0.zero.map CV.den).toArray T)) := ⟨fun e he => Blk.keep (hS.sat e he) (Below.heap_alloc _ _ _ (hlt e he)), hS.ok, hS.nd, fun e he => by have := hlt e he; simp; omega, hS.fp.alloc _⟩
        refine ⟨fun _ => StR.of hS' hk, ?_⟩
        have hA : Ah d w.heap.size r0.zero T σ (a.put o.dst (.pointer (some ⟨w.heap.size, 0, none⟩))) (w.alloc (.cells (r0.zero.map CV.den).toArray T)) := by
          refine ⟨?_, heap_new w _ _ rfl, fun e he => Nat.ne_of_lt (hlt e he), hS.fp.size⟩
          have hdn : d < a.tmps.size := by rw [hF.size]; simpa [inB, hdst, Nat.blt_eq] using hin
          simp [Act.put, hdst, hdn]
        have hF2 : FrOk n (a.put o.dst (.pointer (some ⟨w.heap.size, 0, none⟩))) σ.L F := by
          refine ⟨by simp [hdst, Act.put, hF.size], by simp [hdst, Act.put, hF.defers], fun t x hx2 => ?_⟩
          have hne : d ≠ t := fun q => by subst q; rw [hl] at hx2; cases hx2
          have := hF.at_ t x hx2
          simpa [hdst, Act.put, Array.getElem?_setIfInBounds_ne hne] using this
        exact planD_ok hcx hc hr hrt hg0 hm hs ho hop hdst hgu hT hz hin hN (.x j r) _ ls fuel _ _ F σ hsz hd hi hp0 hf0 hF2 hS' hk hx hA h
      · simp only [planR] at h
        obtain ⟨oj, F', hoj, hb, hF', hll, h⟩ := step_ok hF (stepR_ok h)
        have hoj' : all.toArray[j']? = some oj := by simpa using hoj
        have hne := neO_ok hoj ho hdst p6
        have hl' : ∀ v, look (putF F' oj.dst v) d = none := fun v => look_put (hll d hl) hne
        unfold wpOp
        simp only [hoj']
        rcases h with ⟨hw, h⟩ | ⟨hw, h⟩
        · rw [if_pos hw]
          have hop' := opR_ok hc hr (hg0.kp hk hx) (W := some (kvP ps)) (Or.inr rfl) h (K' := Ks ps σ fun v L' s' => planR tb fo gl raw rt call ps n po all Q r (putF F' oj.dst v) L' s') fun v σ' q => q
          refine Or.inl (Oper.wp_up (opS_ok hcx hF' hS hop') fun a' w' hp => ?_)
          obtain ⟨v, σ', rfl, hp⟩ := hp
          have hk' := hk.trans hp.kp
          exact ⟨fun _ => StR.of hp.st hk', ih _ fuel _ _ _ σ' hsr (hd.set hjr) (ready_mono hi (Ne.symm hjn)) p7 (by omega) ((hF'.ext hp.ext).put hb hp.ok) (hl' _) hp.st hk' (hx.trans hp.ext) hp.k.2.2⟩
        · rw [if_neg (by rw [hw]; simp)]
          exact ⟨fun _ => StR.of hS hk, ih _ fuel _ _ _ σ hsr (hd.set hjr) (ready_mono hi (Ne.symm hjn)) p7 (by omega) (hF'.put hb (undef_ok _)) (hl' _) hS hk hx h⟩
    · rw [hji] at hp
      simp only [cond_true] at hp
      have hp3 : planOk all.toArray none none (.x j r) ls (Region.ready .any all.toArray ls) = true := by
        obtain rfl : j = i := by simpa using hji
        simp only [Bool.and_eq_true] at hp
        simp only [planOk, Bool.and_eq_true]
        exact ⟨⟨hp.1, rfl⟩, hp.2⟩
      exact (plan_ok hcx hm hs (.x j r) _ _ fuel a w _ σ hd (List.all_eq_true.2 fun k hk => by simpa using hk) hf0 hp3 hF hS hk hx (hN (.x j r) hsz _ _ h hk hx)).1 rfl
end
theorem zO_ok {all : List Oper} {i d : Nat} (h : zO tb n.n all i = some d) : ∃ o T r0, all[i]? = some o ∧ o.op = .alloc T ∧ o.dst = some d ∧ o.guard = none ∧ tbl tb T = some r0 ∧ Nat.beq r0.zero.length r0.size = true ∧ inB n.n o.dst = true := by
  unfold zO at h
  split at h <;> first | (cases h; done) | skip
  rename_i d' T t1 t2 t3 ho
  split at h <;> first | (cases h; done) | skip
  rename_i r hr
  rcases hb : Nat.blt d' n.n && Nat.beq r.zero.length r.size with _ | _
  · rw [hb] at h; cases h
  rw [hb] at h
  obtain rfl := Option.some.inj h
  simp only [Bool.and_eq_true] at hb
  exact ⟨_, T, r, ho, rfl, rfl, rfl, hr, hb.2, hb.1⟩
theorem planR_ok (hcx : CxOk P tb fo) (hc : CallOk P gl call) (hr : RawOk P gl raw) (hrt : RtOk P rt) {all : List Oper} {Q : Fr → Hp → Strm → Bool} {σ0 : Hs} {Q' : Fr → Hs → Prop} {po : List Nat} (hpo : ∀ j, kvP po j = true → kvP ps j = true) (hg0 : Gd gl σ0) (hQ : ∀ F σ, Kr po σ0 Q F σ → Q' F σ) : ∀ (p : Pl) (F : Fr) (σ : Hs), (∀ s, planR tb fo gl raw rt call ps n po all Q p F σ.L s = true) → KpW (some (kvP ps)) σ0 σ → Ext σ0.L σ.L → planS P tb fo n all (kvP ps) σ0 Q' p F σ
  | .nil, F, σ, h, hk, hx => hQ _ _ ⟨kp_sub hk hpo, hx, h⟩
  | .t i r, F, σ, h, hk, hx => by
    simp only [planR] at h
    refine stepS_mono (stepR_ok h) (fun o F h => ?_) fun o F h => planR_ok hcx hc hr hrt hpo hg0 hQ r _ σ h hk hx
    exact takeR_ok hrt (hg0.kp hk hx) (K := fun s v => planR tb fo gl raw rt call ps n po all Q r (putF F o.dst v) σ.L s) h fun v h => planR_ok hcx hc hr hrt hpo hg0 hQ r _ σ h hk hx
  | .x i r, F, σ, h, hk, hx => by
    simp only [planR] at h
    refine stepS_mono (stepR_ok h) (fun o F h => ?_) fun o F h => planR_ok hcx hc hr hrt hpo hg0 hQ r _ σ h hk hx
    exact opR_ok hc hr (hg0.kp hk hx) (Or.inr rfl) h fun v σ' ⟨k1, k2, k3⟩ => planR_ok hcx hc hr hrt hpo hg0 hQ r _ σ' k3 (hk.trans k1) (hx.trans k2)
  | .l i, F, σ, h, hk, hx => by
    simp only [planR] at h
    refine stepS_mono (stepR_ok h) (fun o F h => ?_) fun o F h => hQ _ _ ⟨kp_sub hk hpo, hx, h⟩
    exact opR_ok hc hr (hg0.kp hk hx) (Or.inl rfl) h fun v σ' ⟨k1, k2, k3⟩ => hQ _ _ ⟨(kp_sub hk hpo).trans k1, hx.trans k2, k3⟩
  | .z i r, F, σ, h, hk, hx => by
    simp only [planR] at h
    have h0 := h fun _ => 0
    rcases hz : zO tb n.n all i with _ | d
    · simp only [hz] at h0; cases h0
    simp only [hz] at h
    obtain ⟨o, T, r0, z1, z2, z3, z4, z5, z6, z7⟩ := zO_ok hz
    refine ⟨fun QQ hQQ hs hm ls fuel a w hd hi hf hp hF hS hk' hx' => ?_⟩
    exact planP_ok (QQ := QQ) (m := SizeOf.sizeOf r) hcx hc hr hrt hg0 hm hs z1 z2 z3 z4 z5 z6 z7 (fun r' hr' F σ h hk hx => planR_ok hcx hc hr hrt hpo hg0 (fun F σ q => hQQ F σ (hQ F σ q)) r' F σ h hk hx) r ls fuel a w (delF d F) σ (Nat.le_refl _) hd hi hp hf (hF.del d) (look_delF d F).1 hS hk hx h
  | .b i r t, F, σ, h, hk, hx => by
    simp only [planR, Bool.and_eq_true] at h
    refine ⟨stepS_mono (stepR_ok fun s => (h s).1) (fun o F h => ?_) (fun o F h => planR_ok hcx hc hr hrt hpo hg0 hQ r _ σ h hk hx), planR_ok hcx hc hr hrt hpo hg0 hQ t _ σ (fun s => (h s).2) hk hx⟩
    exact opR_ok hc hr (hg0.kp hk hx) (Or.inr rfl) h fun v σ' ⟨k1, k2, k3⟩ => planR_ok hcx hc hr hrt hpo hg0 hQ r _ σ' k3 (hk.trans k1) (hx.trans k2)
termination_by p => SizeOf.sizeOf p
decreasing_by all_goals first | (simp only [Pl.t.sizeOf_spec, Pl.x.sizeOf_spec, Pl.b.sizeOf_spec, Pl.z.sizeOf_spec]; omega) | decreasing_tactic
/-- Code is met. -/
def Kc (ps : List Nat) (σ : Hs) (K : KcR) (e : Exit) (F : Fr) (σ' : Hs) : Prop := KpW (some (kvP ps)) σ σ' ∧ Ext σ.L σ'.L ∧ ∀ s, K e F σ'.L s = true
theorem Rz.step {n : Nz} {c : Code} {Q Q' : Exit → Fr → Hs → Prop} {a : Act} {w : World} (h : c.wp P (Rz n Q) a w) (hq : ∀ e F σ, Q e F σ → Q' e F σ) : c.wp P (Rz n Q') a w :=
  wp_mono h fun e a' w' he => by
    cases e with
    | panic ch => exact he.elim
    | outgrown => exact he.elim
    | _ => obtain ⟨F', σ', h1, h2, h3⟩ := he; exact ⟨F', σ', h1, h2, hq _ _ _ h3⟩
theorem resS_all {σ : Hs} {w : World} {F : Fr} {a : Act} (hT : TbOk P tb) (hF : FrOk n a σ.L F) (hS : St σ w) : ∀ {rs : List ResultVar} {l : List EV}, resS tb F σ.L rs = some l → ∀ x ∈ l, x.ok σ.L
  | [], l, h => by obtain rfl := Option.some.inj h; exact fun x hx => by cases hx
  | .tmp t :: r, l, h => by
    simp only [resS] at h
    split at h <;> first | (cases h; done) | skip
    rename_i x l' hx hl
    obtain rfl := Option.some.inj h
    exact fun y hy => (List.mem_cons.1 hy).elim (fun q => q ▸ (hF.at_ t _ hx).2) (resS_all hT hF hS hl y)
  | .cell t T :: r, l, h => by
    simp only [resS] at h
    split at h <;> first | (cases h; done) | skip
    rename_i j b o ty l' hx ht hl
    split at h <;> first | (cases h; done) | skip
    rename_i x hld
    obtain rfl := Option.some.inj h
    obtain ⟨h1, h2⟩ := hF.at_ t _ hx
    have := (ldS_ok hT hS ht (b := b) (u := 0) h2 hld).2
    exact fun y hy => (List.mem_cons.1 hy).elim (fun q => q ▸ this) (resS_all hT hF hS hl y)
end
end
end Go.Proofs.YthmokdfigjffjaaGreatDoor

namespace Go.Proofs.YthmokdfigjffjaaGreatDoor
set_option linter.unusedVariables false
set_option linter.unusedSimpArgs false
open Go.RowKit
noncomputable section
section
variable {P : Program} {tb : Tbx} {fo : Fo} {pt : Plt} {gl : Gl} {hk : Nat → Option (List Nat → List SV → Hp → Strm → KvR → Bool)} {raw : List Nat → Nz → Oper → Fr → Hp → Strm → KvR → Bool} {rt : Nz → Oper → Fr → Hp → Option SV}
theorem preR_sub {n : Nz} {all : List Oper} {L : Hp} : ∀ (p : Pl) (F : Fr) (acc : List Nat) (j : Nat), j ∈ acc → j ∈ preR tb gl rt n all L p F acc
  | .t i r, F, acc, j, h => by
    unfold preR
    split
    · refine preR_sub r _ _ j ?_
      split
      · split
        · rcases Nat.blt _ L.length with _ | _
          · exact h
          · exact List.mem_cons_of_mem _ h
        · rcases Nat.blt _ L.length with _ | _
          · exact h
          · exact List.mem_cons_of_mem _ h
        · exact h
      · exact h
    · exact h
  | .x i r, F, acc, j, h => by
    unfold preR
    split
    · exact preR_sub r _ _ j h
    · exact h
  | .nil, F, acc, j, h => h
  | .l i, F, acc, j, h => h
  | .b i r t, F, acc, j, h => h
  | .z i r, F, acc, j, h => preR_sub r F acc j h
theorem kvP_mem {ps : List Nat} {j : Nat} : kvP ps j = true ↔ j ∈ ps := by
  unfold kvP
  rw [List.any_eq_true]
  constructor
  · rintro ⟨x, hx, hb⟩
    obtain rfl := Nat.eq_of_beq_eq_true hb
    exact hx
  · exact fun h => ⟨j, h, Nat.beq_refl j⟩
theorem Kc.trans {ps : List Nat} {σ σ' σ2 : Hs} {K : KcR} {e : Exit} {F : Fr} (k1 : KpW (some (kvP ps)) σ σ') (k2 : Ext σ.L σ'.L) (h : Kc ps σ' K e F σ2) : Kc ps σ K e F σ2 := ⟨k1.trans h.1, k2.trans h.2.1, h.2.2⟩
/-- Behind a region. -/
def Kd (ps : List Nat) (σ : Hs) (K : KcR) (e : Exit) (F : Fr) (σ' : Hs) : Prop := e = .normal ∧ KpW (some (kvP ps)) σ σ' ∧ Ext σ.L σ'.L ∧ ∀ s, K .normal F σ'.L s = true
theorem Kd.of {ps : List Nat} {σ σ' : Hs} {K : KcR} {F : Fr} (h : Kr ps σ (fun F L s => K .normal F L s) F σ') : Kd ps σ K .normal F σ' := ⟨rfl, h.1, h.2.1, h.2.2⟩
theorem Rz.dd {n : Nz} {c : Code} {ps : List Nat} {σ : Hs} {K : KcR} {a : Act} {w : World} (h : c.wp P (Rz n (Kd ps σ K)) a w) : c.wp P (Rz n (Kc ps σ K)) a w :=
  wp_mono h fun e a' w' he => by
    cases e with
    | panic ch => exact he.elim
    | outgrown => exact he.elim
    | normal => obtain ⟨F', σ', h1, h2, _, k1, k2, k3⟩ := he; exact ⟨F', σ', h1, h2, k1, k2, k3⟩
    | _ => obtain ⟨F', σ', h1, h2, h3, _⟩ := he; cases h3
/-- Functions that are met by contracts. -/
def HookOk (P : Program) (gl : Gl) (hk : Nat → Option (List Nat → List SV → Hp → Strm → KvR → Bool)) : Prop := ∀ f h, hk f = some h → ∀ ps az (σ : Hs) (K : KvR), Gd gl σ → (∀ s, h ps az σ.L s K = true) → CallN P f az (some (kvP ps)) σ (Ks ps σ K)
end
end
end Go.Proofs.YthmokdfigjffjaaGreatDoor
