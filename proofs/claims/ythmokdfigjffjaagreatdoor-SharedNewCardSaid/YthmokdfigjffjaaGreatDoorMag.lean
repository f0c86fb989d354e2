/- Texts of this proof, merged: Syb Syc. -/
import Derived.Test.YthmokdfigjffjaaGreatDoorMaf
namespace Go.Proofs.YthmokdfigjffjaaGreatDoor
set_option linter.unusedVariables false
set_option linter.unusedSimpArgs false
open Go.RowKit
noncomputable section

theorem kp_set {kv : Nat → Bool} {σ : Hs} {i : Nat} {e e' : Blk} (he : σ.L[i]? = some e) (hb : e'.b = e.b) (hk : kv i = false) : KpW (some kv) σ ⟨σ.L.set i e', σ.S, σ.w0⟩ := by
  refine ⟨rfl, rfl, fun j f hj hf => ?_, fun f hf => ?_⟩
  · have : i ≠ j := fun q => by subst q; rw [hk] at hj; cases hj
    rw [List.getElem?_set_ne this]; exact hf
  · rcases mem_set hf with rfl | ⟨j, _, hj⟩
    · exact Or.inl ⟨e, List.mem_of_getElem? he, hb.symm⟩
    · exact Or.inl ⟨f, List.mem_of_getElem? hj, rfl⟩
theorem kp_push {kv : Nat → Bool} {σ σ' : Hs} {e : Blk} (h : KpW (some kv) σ σ') (hb : (∃ f ∈ σ.L, f.b = e.b) ∨ σ.w0.heap.size ≤ e.b) : KpW (some kv) σ ⟨σ'.L ++ [e], σ'.S, σ'.w0⟩ := by
  obtain ⟨h1, h2, h3, h4⟩ := h
  refine ⟨h1, h2, fun j f hj hf => ?_, fun f hf => ?_⟩
  · have := h3 j f hj hf
    rw [List.getElem?_append_left (List.getElem?_eq_some_iff.1 this).1]; exact this
  · rcases List.mem_append.1 hf with hf | hf
    · exact h4 f hf
    · obtain rfl := List.mem_singleton.1 hf
      exact hb
/-- The slice behind an append that had to look for room: of a new row, or of the old one. -/
def grown (sz : Nat) (L L0 : Hp) (s : Strm) (K : KvR) (n : Nat) (cs : List CV) : Bool :=
  K (.e (.c (.gs L.length (s 0) 0 sz n n (s 1)))) (L0 ++ [⟨s 0, 0, cs, .grow ((n + s 1) * sz)⟩]) (tl (tl s))
def appR (ps : List Nat) (sz : Nat) (L : Hp) (s : Strm) (K : KvR) (n : Nat) (news : List CV) : SV → Bool
  | .e (.c (.v (.slice none 0 0))) => bif Nat.beq n 0 then K (.e (.c (.v (.slice none 0 0)))) L s else bif Nat.ble n 1048576 then grown sz L L s K n news else false
  | .e (.c (.s j b o l c)) => bif Nat.ble (l + n) c then (match L[j]? with
      | some e => bif e.T.isC && !(kvP ps j) then (match setN e.cs (o + l * sz) news with
        | some cs => K (.e (.c (.s j b o (l + n) c))) (L.set j (mkB e cs)) s
        | none => false) else false
      | none => false)
    else bif Nat.ble (l + n) 1048576 then (match cellsR L j o (l * sz) with
      | some olds => grown sz L L s K (l + n) (olds ++ news)
      | none => false) else false
  | .e (.c (.gs j b o z l k x)) => (match L[j]? with
    | some ⟨b', u, cs, .grow N⟩ => bif Nat.beq z sz && !(kvP ps j) then (bif Nat.ble (l + n) k then (match takeN (o + l * sz) cs with
        | some pre => K (.e (.c (.gs j b o z (l + n) k x))) (L.set j ⟨b', u, pre ++ news ++ cs.drop (o + l * sz + news.length), .grow N⟩) s
        | none => false)
      else bif Nat.beq o 0 && Nat.ble (l + n) 1048576 then (match takeN (l * sz) cs with
        | some olds => grown sz L (L.set j ⟨b', u, [], .row⟩) s K (l + n) (olds ++ news)
        | none => false) else false) else false
    | _ => false)
  | _ => false
section
variable {P : Program} {tb : Tbx} {ps : List Nat} {σ : Hs} {w : World}
theorem grown_size {w : World} {need old : Nat} {E : TypeId} : need ≤ grownCap w need old E := Nat.le_add_right _ _
/-- A new row is made. -/
theorem grow_new (hT : TbOk P tb) (hS : St σ w) {t tx ty E : TypeId} {r : TR} (ht : P.underlying t = some (.slice E)) (hr : tbl tb E = some r) (hz : Nat.beq r.zero.length r.size = true) (hb : ∃ i, P.info? E = some i ∧ i.bytes ≤ 65536)
    {base : Option Addr} {l c n : Nat} {x : Value} {olds news : List CV} (hold : (Builtin.firstCells r.size l (.slice base l c)).run P w.drew = .ok (olds.map CV.den).toArray w.drew) (hol : olds.length = l * r.size) (hx : Src P r.size tx x n (news.map CV.den) w)
    (hg : c < l + n) (hn : l + n ≤ 1048576) :
    ∃ k : Nat, ∃ ca : Array Value, (Builtin.append_ #[t, tx] ty #[.slice base l c, x]).run P w = .ok (.slice (some ⟨w.heap.size, 0, none⟩) (l + n) (l + n + k)) (w.drew.alloc (.cells ca E)) ∧ (∀ (j : Nat) (y : CV), (olds ++ news)[j]? = some y → ca[j]? = some y.den) ∧ (olds ++ news).length ≤ (l + n + k) * r.size ∧ (l + n + k) * r.size ≤ ca.size := by
  obtain ⟨i, hi, hbi⟩ := hb
  obtain ⟨i', hi', hsz, _, _, hzz⟩ := vr_info (tbl_ok hT hr)
  rw [hi] at hi'
  obtain rfl := Option.some.inj hi'
  obtain ⟨z, hz1, hz2⟩ := hzz hz
  have hzs : z.cells.size = i.size := by rw [← Array.length_toList, hz2, List.length_map, hsz]; simpa using hz
  rw [← hsz] at hold hx hol ⊢
  have hrun := run_append_grow_src (P := P) w t tx ty E i z ht hi hz1 base l c _ hold x n _ hx hg (by omega) (growslice_fits hg (by have := Nat.mul_le_mul hn hbi; omega))
  have hge := grown_size (w := w) (need := l + n) (old := c) (E := E)
  refine ⟨grownCap w (l + n) c E - (l + n), _, by rw [Nat.add_sub_cancel' hge]; exact hrun, fun j y hj => ?_, ?_, ?_⟩
  · have hlt := (List.getElem?_eq_some_iff.1 hj).1
    rw [Array.getElem?_append_left (by rw [List.size_toArray, ← List.map_append, List.length_map]; exact hlt), ← List.map_append, List.getElem?_toArray, List.getElem?_map, hj]
    rfl
  · rw [Nat.add_sub_cancel' hge, List.length_append]
    have h1 : news.length = n * i.size := by rw [← hx.newsLen, List.length_map]
    have := Nat.mul_le_mul_right i.size hge
    rw [Nat.add_mul] at this
    omega
  · rw [Nat.add_sub_cancel' hge]
    have h1 : news.length = n * i.size := by rw [← hx.newsLen, List.length_map]
    rw [Array.size_append, List.size_toArray, ← List.map_append, List.length_map, List.length_append, size_zeroCells, hzs, h1, hol, ← Nat.add_mul, ← Nat.add_mul, Nat.add_sub_cancel' hge]
    exact Nat.le_refl _
theorem app_room {t tx ty E : TypeId} {i : TypeInfo} (ht : P.underlying t = some (.slice E)) (hi : P.info? E = some i) {b o l c n : Nat} {x : Value} {news : List CV} (hx : Src P i.size tx x n (news.map CV.den) w) (hroom : l + n ≤ c)
    (hc : ∀ j, j < news.length → (w.cell? ⟨b, o + l * i.size + j, none⟩).isSome = true ∧ w.frozen? ⟨b, o + l * i.size + j, none⟩ = false) :
    (Builtin.append_ #[t, tx] ty #[.slice (some ⟨b, o, none⟩) l c, x]).run P w = .ok (.slice (some ⟨b, o, none⟩) (l + n) c) (stW w b (o + l * i.size) (news.map CV.den)) := by
  rw [run_append_room_src (P := P) w t tx ty E i ht hi b o l c x n _ hx hroom (fun j hj => (hc j (by simpa using hj)).1) (fun j hj => (hc j (by simpa using hj)).2), setCells_eq]
theorem appR_ok (hT : TbOk P tb) (hS : St σ w) {t tx ty E : TypeId} {r : TR} (ht : P.underlying t = some (.slice E)) (hr : tbl tb E = some r) (hz : Nat.beq r.zero.length r.size = true) (hb : ∃ i, P.info? E = some i ∧ i.bytes ≤ 65536)
    {d x : SV} {n : Nat} {news : List CV} {K : KvR} (hx : Src P r.size tx x.den n (news.map CV.den) w) (hnews : ∀ y ∈ news, y.ok σ.L) (hd : d.ok σ.L) (h : ∀ s, appR ps r.size σ.L s K n news d = true) :
    ∃ v σ' w', (Builtin.append_ #[t, tx] ty #[d.den, x.den]).run P w = .ok v.den w' ∧ Pst (some (kvP ps)) σ (Ks ps σ K) v σ' w' := by
  obtain ⟨i, hi, hbi⟩ := hb
  obtain ⟨i', hi', hsz, _⟩ := vr_info (tbl_ok hT hr)
  rw [hi] at hi'
  obtain rfl := Option.some.inj hi'
  have hnl : news.length = n * r.size := by rw [← hx.newsLen, List.length_map]
  have h0 := h fun _ => 0
  -- a new row, the known blocks being σ1's
  have mk : ∀ (σ1 : Hs) {base : Option Addr} {l c : Nat} {olds : List CV}, St σ1 w → σ1.L.length = σ.L.length → Ext σ.L σ1.L → KpW (some (kvP ps)) σ σ1 → (Builtin.firstCells r.size l (.slice base l c)).run P w.drew = .ok (olds.map CV.den).toArray w.drew → olds.length = l * r.size → (∀ y ∈ olds, y.ok σ.L) → c < l + n → l + n ≤ 1048576 → d.den = .slice base l c →
      (∀ s, grown r.size σ.L σ1.L s K (l + n) (olds ++ news) = true) → ∃ v σ' w', (Builtin.append_ #[t, tx] ty #[d.den, x.den]).run P w = .ok v.den w' ∧ Pst (some (kvP ps)) σ (Ks ps σ K) v σ' w' := by
    intro σ1 base l c olds hS1 hlen hx1 hk1 hold hol hoo hg hn hden hK
    obtain ⟨k, ca, q1, q2, q3, q4⟩ := grow_new hT hS (ty := ty) ht hr hz ⟨i, hi, hbi⟩ hold hol hx hg hn
    have hx2 := Ext.push σ1.L [⟨w.heap.size, 0, olds ++ news, .grow ((l + n + k) * r.size)⟩]
    have hcok : ∀ y ∈ olds ++ news, y.ok σ1.L := fun y hy => ((List.mem_append.1 hy).elim (hoo y) (hnews y)).ext hx1
    refine ⟨.e (.c (.gs σ.L.length w.heap.size 0 r.size (l + n) (l + n) k)), _, _, by rw [hden]; exact q1, ?_, hx1.trans hx2, hS1.newG hcok E q2 q3 q4, ?_, ?_, hx1.trans hx2, fun s => hK (cns w.heap.size (cns k s))⟩
    · refine ⟨⟨w.heap.size, 0, olds ++ news, .grow ((l + n + k) * r.size)⟩, by rw [← hlen]; simp, rfl, rfl, Or.inr ⟨_, rfl, by omega⟩, Nat.le_refl _⟩
    · exact kp_push hk1 (Or.inr hS.fp.size)
    · exact kp_push hk1 (Or.inr hS.fp.size)
  unfold appR at h h0
  split at h0
  · -- nil
    simp only at h
    rcases hn0 : Nat.beq n 0 with _ | _
    · simp only [hn0, cond_false] at h h0
      rcases hn1 : Nat.ble n 1048576 with _ | _
      · rw [hn1] at h0; cases h0
      simp only [hn1, cond_true] at h
      have hne : n ≠ 0 := fun q => by subst q; cases hn0
      refine mk σ hS rfl (Ext.refl _) (KpW.refl _ _) (base := none) (l := 0) (c := 0) (olds := []) (run_firstCells_none w.drew r.size 0 0 0) (by simp) (fun y hy => by cases hy) (by omega) (by simpa using hn1) rfl ?_
      simpa using h
    · simp only [hn0, cond_true] at h
      obtain rfl : n = 0 := Nat.eq_of_beq_eq_true hn0
      refine ⟨.e (.c (.v (.slice none 0 0))), σ, w, ?_, rfl, Ext.refl _, hS, KpW.refl _ _, KpW.refl _ _, Ext.refl _, h⟩
      have hn2 : news = [] := List.eq_nil_of_length_eq_zero (by simpa using hnl)
      subst hn2
      have hlen := hx.len w
      have hcl := hx.cells
      have hdn : SV.den (.e (.c (.v (.slice none 0 0)))) = .slice none 0 0 := rfl
      rw [hdn]
      obtain hk | hk := hx.kind
      · obtain ⟨e', hk⟩ := hk
        simp [Builtin.append_, run_underlying ht, run_underlying hk, sizeOf, typeInfo, hi, hlen, hsz, hcl]
      · simp [Builtin.append_, run_underlying ht, run_underlying hk, sizeOf, typeInfo, hi, hlen, hsz, hcl]
  · -- a slice of a block whose size is known
    rename_i j b o l c
    simp only at h
    rcases hr0 : Nat.ble (l + n) c with _ | _
    · simp only [hr0, cond_false] at h h0
      rcases hn1 : Nat.ble (l + n) 1048576 with _ | _
      · rw [hn1] at h0; cases h0
      simp only [hn1, cond_true] at h h0
      rcases ho : cellsR σ.L j o (l * r.size) with _ | olds
      · rw [ho] at h0; cases h0
      simp only [ho] at h
      obtain ⟨c1, c2, c3⟩ := cellsR_ok hS ho hd
      refine mk σ hS rfl (Ext.refl _) (KpW.refl _ _) (base := some ⟨b, o, none⟩) (olds := olds) ?_ c1 c2 (by have := hr0; rw [← Bool.not_eq_true, Nat.ble_eq] at this; omega) (by simpa using hn1) rfl h
      refine run_firstCells_some w.drew r.size l ⟨b, o, none⟩ l c _ (by rw [List.length_map]; exact c1) fun k v hv => ?_
      rw [List.getElem?_map] at hv
      rcases hkk : olds[k]? with _ | y
      · rw [hkk] at hv; cases hv
      rw [hkk] at hv
      obtain rfl : y.den = v := by simpa using hv
      have := c3 k y hkk
      cases k with
      | zero => simpa [Addr.add] using this
      | succ k => simpa [Addr.add] using this
    · simp only [hr0, cond_true] at h h0
      obtain ⟨e, he, rfl, hu⟩ := hd
      simp only [he] at h h0
      rcases hc : e.T.isC && !(kvP ps j) with _ | _
      · rw [hc] at h0; cases h0
      simp only [hc, cond_true] at h h0
      simp only [Bool.and_eq_true, Bool.not_eq_true'] at hc
      rcases hs : setN e.cs (o + l * r.size) news with _ | cs
      · rw [hs] at h0; cases h0
      simp only [hs] at h
      obtain ⟨s1, s2, s3⟩ := setN_ok hs
      have hm := List.mem_of_getElem? he
      have hst := hS.store he hc.1 hs hnews
      have hoff : e.u + (o + l * r.size) = o + l * r.size := by rw [hu, Nat.zero_add]
      rw [hoff] at hst
      have hext := Ext.set he s2
      refine ⟨.e (.c (.s j e.b o (l + n) c)), ⟨σ.L.set j { e with cs := cs }, σ.S, σ.w0⟩, _, ?_, (show SV.ok σ.L (.e (.c (.s j e.b o (l + n) c))) from ⟨e, he, rfl, hu⟩).ext hext, hext, hst, kp_set he rfl hc.2, kp_set he rfl hc.2, hext, fun s => by rw [← mkB_eq]; exact h s⟩
      have hrm := app_room (w := w) (ty := ty) ht hi (b := e.b) (o := o) (l := l) (c := c) (by rw [hsz]; exact hx) (by simpa using hr0) (fun k hk => by
        have := Blk.cell (hS.sat e hm) hc.1 (k := o + l * r.size + k) (List.getElem?_eq_getElem (by omega))
        rw [hu, Nat.zero_add] at this
        rw [hsz]
        exact ⟨by rw [this.1]; rfl, this.2⟩)
      rw [hsz] at hrm
      exact hrm
  · -- a row that grows
    rename_i j b o z l k xx
    simp only at h
    obtain ⟨e, he, rfl, hu, hN, hlk⟩ := hd
    obtain ⟨b', u, cs, T⟩ := e
    simp only [he] at h h0
    simp only at hu
    subst hu
    cases T with
    | grow N =>
      simp only at h h0
      have hN' : o + (k + xx) * z ≤ N := by
        rcases hN with q | ⟨N', q, hN'⟩
        · cases q.1
        · cases q; exact hN'
      rcases hc : Nat.beq z r.size && !(kvP ps j) with _ | _
      · rw [hc] at h0; cases h0
      simp only [hc, cond_true] at h h0
      simp only [Bool.and_eq_true, Bool.not_eq_true'] at hc
      obtain ⟨hc1, hc2⟩ := hc
      obtain rfl : z = r.size := Nat.eq_of_beq_eq_true hc1
      have hm := List.mem_of_getElem? he
      have hroom : ∀ c, l + n ≤ c → c ≤ k + xx → o + l * r.size + news.length ≤ N ∧ ∀ q, q < news.length → (w.cell? ⟨b', o + l * r.size + q, none⟩).isSome = true ∧ w.frozen? ⟨b', o + l * r.size + q, none⟩ = false := fun c h1 h2 => by
        have e1 : (l + n) * r.size ≤ (k + xx) * r.size := Nat.mul_le_mul_right _ (Nat.le_trans h1 h2)
        rw [Nat.add_mul] at e1
        have e2 : o + l * r.size + news.length ≤ N := by omega
        exact ⟨e2, fun q hq => (hS.sat _ hm).2.2.2 _ (by omega)⟩
      have hrun := fun (hcap : l + n ≤ k + xx) => app_room (w := w) (ty := ty) (x := x.den) ht hi (b := b') (o := o) (l := l) (c := k + xx) (n := n) (news := news) (by rw [hsz]; exact hx) hcap (fun q hq => by rw [hsz]; exact (hroom _ (Nat.le_refl _) hcap).2 q hq)
      rcases hr0 : Nat.ble (l + n) k with _ | _
      · simp only [hr0, cond_false] at h h0
        rcases hq : Nat.beq o 0 && Nat.ble (l + n) 1048576 with _ | _
        · rw [hq] at h0; cases h0
        simp only [hq, cond_true] at h h0
        simp only [Bool.and_eq_true] at hq
        obtain rfl : o = 0 := Nat.eq_of_beq_eq_true hq.1
        rcases ho : takeN (l * r.size) cs with _ | olds
        · rw [ho] at h0; cases h0
        simp only [ho] at h
        obtain ⟨t1, t2⟩ := takeN_ok ho
        have hlk' : k < l + n := by have := hr0; rw [← Bool.not_eq_true, Nat.ble_eq] at this; omega
        by_cases hcap : l + n ≤ k + xx
        · -- there was room
          obtain ⟨n1, n2⟩ := hroom _ (Nat.le_refl _) hcap
          simp only [Nat.zero_add] at n1
          have hst := hS.into (vs := news) he rfl (o := l * r.size) ho n1 hnews [] (Or.inl rfl)
          simp only [List.append_nil] at hst
          have hj : (σ.L.set j ⟨b', 0, olds ++ news, .grow N⟩)[j]? = some ⟨b', 0, olds ++ news, .grow N⟩ := by
            have := (List.getElem?_eq_some_iff.1 he).1
            simp [this]
          have hle : (olds ++ news).length ≤ (l + n + (k + xx - (l + n))) * r.size := by
            rw [Nat.add_sub_cancel' hcap, List.length_append, t2, hnl, ← Nat.add_mul]
            exact Nat.mul_le_mul_right _ hcap
          have hmv := hst.move hj (N' := (l + n + (k + xx - (l + n))) * r.size) rfl hle (by rw [Nat.add_sub_cancel' hcap]; omega)
          have hL : (σ.L.set j ⟨b', 0, olds ++ news, .grow N⟩).set j (voidB ⟨b', 0, olds ++ news, .grow N⟩) = σ.L.set j ⟨b', 0, [], .row⟩ := List.set_set ..
          simp only [hL] at hmv
          have hxv : Ext σ.L (σ.L.set j ⟨b', 0, [], .row⟩) := Ext.void he
          have hext := hxv.trans (Ext.push (σ.L.set j ⟨b', 0, [], .row⟩) [⟨b', 0, olds ++ news, .grow ((l + n + (k + xx - (l + n))) * r.size)⟩])
          have hkp : KpW (some (kvP ps)) σ ⟨σ.L.set j ⟨b', 0, [], .row⟩ ++ [⟨b', 0, olds ++ news, .grow ((l + n + (k + xx - (l + n))) * r.size)⟩], σ.S, σ.w0⟩ := kp_push (kp_set he (e' := ⟨b', 0, [], .row⟩) rfl hc2) (Or.inl ⟨_, hm, rfl⟩)
          refine ⟨.e (.c (.gs σ.L.length b' 0 r.size (l + n) (l + n) (k + xx - (l + n)))), _, _, ?_, ⟨⟨b', 0, olds ++ news, .grow ((l + n + (k + xx - (l + n))) * r.size)⟩, by simp, rfl, rfl, Or.inr ⟨_, rfl, by omega⟩, Nat.le_refl _⟩, hext, hmv, hkp, hkp, hext, fun s => h (cns b' (cns (k + xx - (l + n)) s))⟩
          have := hrun hcap
          rw [hsz, Nat.zero_add] at this
          simp only [SV.den, EV.den, CV.den, Nat.add_sub_cancel' hcap] at this ⊢
          exact this
        · -- there was none
          refine mk ⟨σ.L.set j ⟨b', 0, [], .row⟩, σ.S, σ.w0⟩ (hS.forget he) (by simp) (Ext.void he) (kp_set he rfl hc2) (base := some ⟨b', 0, none⟩) (l := l) (c := k + xx) (olds := olds) ?_ t2 (fun y hy => hS.ok _ hm y (by rw [t1] at hy; exact List.mem_of_mem_take hy)) (by omega) (by simpa using hq.2) rfl h
          refine run_firstCells_some w.drew r.size l ⟨b', 0, none⟩ l (k + xx) _ (by rw [List.length_map]; exact t2) fun q v hv => ?_
          rw [List.getElem?_map] at hv
          rcases hkk : olds[q]? with _ | y
          · rw [hkk] at hv; cases hv
          rw [hkk] at hv
          obtain rfl : y.den = v := by simpa using hv
          have hql : q < l * r.size := by rw [← t2]; exact (List.getElem?_eq_some_iff.1 hkk).1
          rw [t1, List.getElem?_take_of_lt hql] at hkk
          have := (Blk.cell (hS.sat _ hm) rfl hkk).1
          simp only [Nat.zero_add] at this
          cases q with
          | zero => simpa [Addr.add] using this
          | succ q => simpa [Addr.add] using this
      · simp only [hr0, cond_true] at h h0
        rcases ho : takeN (o + l * r.size) cs with _ | pre
        · rw [ho] at h0; cases h0
        simp only [ho] at h
        have hk1 : l + n ≤ k := by simpa using hr0
        obtain ⟨n1, n2⟩ := hroom (k + xx) (by omega) (Nat.le_refl _)
        have hst := hS.into (vs := news) he rfl (o := o + l * r.size) ho n1 hnews _ (Or.inr rfl)
        have hext : Ext σ.L (σ.L.set j ⟨b', 0, pre ++ news ++ cs.drop (o + l * r.size + news.length), .grow N⟩) := Ext.setV he fun q => absurd q.1 (by simp)
        refine ⟨.e (.c (.gs j b' o r.size (l + n) k xx)), ⟨σ.L.set j ⟨b', 0, pre ++ news ++ cs.drop (o + l * r.size + news.length), .grow N⟩, σ.S, σ.w0⟩, _, ?_, ?_, hext, hst, kp_set he rfl hc2, kp_set he rfl hc2, hext, h⟩
        · have := hrun (by omega)
          rw [hsz] at this
          exact this
        · have hj : (σ.L.set j ⟨b', 0, pre ++ news ++ cs.drop (o + l * r.size + news.length), .grow N⟩)[j]? = some ⟨b', 0, pre ++ news ++ cs.drop (o + l * r.size + news.length), .grow N⟩ := by
            have := (List.getElem?_eq_some_iff.1 he).1
            simp [this]
          exact ⟨_, hj, rfl, rfl, Or.inr ⟨N, rfl, hN'⟩, hk1⟩
    | _ => simp only at h0; cases h0
  · cases h0
end
end
end Go.Proofs.YthmokdfigjffjaaGreatDoor

namespace Go.Proofs.YthmokdfigjffjaaGreatDoor
set_option linter.unusedVariables false
set_option linter.unusedSimpArgs false
open Go.RowKit
open Go.ChangeMaps (setBlock)
open Go.WideMaps (KeyLaw)
noncomputable section

def cEq : CV → CV → Option Bool
  | .i k a, .i k' b => bif kEq k k' then some (decide (a = b)) else none
  | .v (.string a), .v (.string b) => some (decide (a.data.toList = b.data.toList))
  | x, y => match toB x, toB y with
    | some p, some q => some (p == q)
    | _, _ => none
theorem cEq_ok {x y : CV} {b : Bool} (h : cEq x y = some b) : (b = true → x.den = y.den) ∧ (b = false → x.den ≠ y.den) := by
  unfold cEq at h
  split at h
  · rename_i k a k' c
    rcases hk : kEq k k' with _ | _
    · rw [hk] at h; cases h
    rw [hk] at h
    obtain rfl := kEq_ok hk
    obtain rfl := Option.some.inj h
    exact ⟨fun q => by simp [CV.den, of_decide_eq_true q], fun q e => by have := of_decide_eq_false q; simp [CV.den] at e; exact this e⟩
  · rename_i a c
    obtain rfl := Option.some.inj h
    refine ⟨fun q => ?_, fun q e => ?_⟩
    · have := of_decide_eq_true q
      have : a = c := by apply ByteArray.ext; apply Array.ext'; exact this
      rw [this]
    · have := of_decide_eq_false q
      simp only [CV.den, Value.string.injEq] at e
      exact this (by rw [e])
  · split at h <;> first | (cases h; done) | skip
    rename_i p q hp hq
    obtain rfl := Option.some.inj h
    rw [toB_ok hp, toB_ok hq]
    exact ⟨fun e => by rw [beq_iff_eq] at e; rw [e], fun e f => by simp only [Value.bool.injEq] at f; rw [f, beq_self_eq_true] at e; cases e⟩
def keyEq : List CV → List CV → Option Bool
  | [], [] => some true
  | x :: xs, y :: ys => match cEq x y with
    | some true => keyEq xs ys
    | some false => bif Nat.beq xs.length ys.length then some false else none
    | none => none
  | _, _ => none
theorem keyEq_ok : ∀ {a b : List CV} {t : Bool}, keyEq a b = some t → a.length = b.length ∧ (t = true → a.map CV.den = b.map CV.den) ∧ (t = false → a.map CV.den ≠ b.map CV.den)
  | [], [], t, h => by obtain rfl := Option.some.inj h; exact ⟨rfl, fun _ => rfl, (fun q => by cases q)⟩
  | x :: xs, y :: ys, t, h => by
    simp only [keyEq] at h
    split at h <;> first | (cases h; done) | skip
    · rename_i hc
      obtain ⟨h1, h2, h3⟩ := keyEq_ok h
      have he := (cEq_ok hc).1 rfl
      exact ⟨by simp [h1], fun q => by simp [he, h2 q], fun q e => h3 q (by simp at e; exact e.2)⟩
    · rename_i hc
      rcases hl : Nat.beq xs.length ys.length with _ | _
      · rw [hl] at h; cases h
      rw [hl] at h
      obtain rfl := Option.some.inj h
      have he := (cEq_ok hc).2 rfl
      exact ⟨by have := Nat.eq_of_beq_eq_true hl; simp [this], (fun q => by cases q), fun _ e => he (by simp at e; exact e.1)⟩
  | [], _ :: _, _, h => by cases h
  | _ :: _, [], _, h => by cases h
/-- The one entry of a key: its place, and its value's cells. -/
def findM (ks vs : Nat) : Nat → List CV → List CV → Option (Option (Nat × List CV))
  | 0, _, _ => some none
  | _ + 1, [], _ => some none
  | n + 1, x :: l, key => match keyEq ((x :: l).take (cN ks)) key, findM ks vs n ((x :: l).drop (cN ks + cN vs)) key with
    | some true, some none => some (some (0, ((x :: l).drop (cN ks)).take (cN vs)))
    | some false, some none => some none
    | some false, some (some (i, v)) => some (some (i + 1, v))
    | _, _ => none
theorem cV_eq {ks : Nat} {a b : List CV} {t : Bool} (h : keyEq a b = some t) : (t = true → cV ks a = cV ks b) ∧ (t = false → (ks = 0 → a.length = 1) → cV ks a ≠ cV ks b) := by
  obtain ⟨h1, h2, h3⟩ := keyEq_ok h
  unfold cV
  rcases hk : Nat.beq ks 0 with _ | _
  · simp only [cond_false]
    exact ⟨fun q => by rw [h2 q], fun q _ e => h3 q (by simpa using e)⟩
  · simp only [cond_true]
    refine ⟨fun q => ?_, fun q hl e => ?_⟩
    · have h2 := h2 q
      clear h3 hk h
      rcases a with _ | ⟨x, _ | ⟨x2, a⟩⟩ <;> rcases b with _ | ⟨y, _ | ⟨y2, b⟩⟩
      · rfl
      · cases h1
      · cases h1
      · cases h1
      · simpa using h2
      · cases h1
      · cases h1
      · cases h1
      · rfl
    · have hl := hl (Nat.eq_of_beq_eq_true hk)
      have h3 := h3 q
      clear h2 hk h
      obtain ⟨x, rfl⟩ := List.length_eq_one_iff.1 hl
      obtain ⟨y, rfl⟩ := List.length_eq_one_iff.1 (h1.symm.trans hl)
      exact h3 (by simpa using e)
theorem findM_ok {ks vs : Nat} {key : List CV} (hk : ks = 0 → key.length = 1) : ∀ {n : Nat} {cs : List CV} {r : Option (Nat × List CV)}, findM ks vs n cs key = some r →
    match r with
    | none => ∀ p ∈ entsF ks vs n cs, p.1 ≠ cV ks key
    | some (i, v) => ∃ m1 m2, entsF ks vs n cs = m1 ++ (cV ks key, cV vs v) :: m2 ∧ m1.length = i ∧ (∀ p ∈ m1, p.1 ≠ cV ks key) ∧ (∀ p ∈ m2, p.1 ≠ cV ks key) ∧ ∀ x ∈ v, x ∈ cs
  | 0, cs, r, h => by obtain rfl := Option.some.inj h; intro p hp; cases hp
  | n + 1, [], r, h => by obtain rfl := Option.some.inj h; intro p hp; cases hp
  | n + 1, x :: l, r, h => by
    simp only [findM] at h
    split at h <;> first | (cases h; done) | skip
    · rename_i hq hf
      obtain rfl := Option.some.inj h
      have ih := findM_ok hk hf
      simp only at ih
      refine ⟨[], _, ?_, rfl, (fun p hp => by cases hp), ih, fun y hy => List.mem_of_mem_drop (List.mem_of_mem_take hy)⟩
      rw [← (cV_eq hq).1 rfl]; rfl
    · rename_i hq hf
      obtain rfl := Option.some.inj h
      have ih := findM_ok hk hf
      simp only at ih
      intro p hp
      rcases List.mem_cons.1 hp with rfl | hp
      · exact (cV_eq hq).2 rfl fun q => by rw [(keyEq_ok hq).1]; exact hk q
      · exact ih p hp
    · rename_i i v hq hf
      obtain rfl := Option.some.inj h
      have ih := findM_ok hk hf
      obtain ⟨m1, m2, e1, e2, e3, e4, e5⟩ := ih
      refine ⟨(cV ks ((x :: l).take (cN ks)), cV vs (((x :: l).drop (cN ks)).take (cN vs))) :: m1, m2, by rw [List.cons_append, ← e1]; rfl, by simp [e2], fun p hp => ?_, e4, fun y hy => List.mem_of_mem_drop (e5 y hy)⟩
      rcases List.mem_cons.1 hp with rfl | hp
      · exact (cV_eq hq).2 rfl fun q => by rw [(keyEq_ok hq).1]; exact hk q
      · exact e3 p hp
/-- Are all keys such az the model knows? -/
def keysB (P : Program) (k ks vs : Nat) : Nat → List CV → Bool
  | 0, _ => true
  | _ + 1, [] => true
  | n + 1, x :: l => (keyOf P k (cV ks ((x :: l).take (cN ks)))).isSome && keysB P k ks vs n ((x :: l).drop (cN ks + cN vs))
theorem keysB_ok {P : Program} {k ks vs : Nat} : ∀ {n : Nat} {cs : List CV}, keysB P k ks vs n cs = true → ∀ p ∈ entsF ks vs n cs, ∃ l, keyOf P k p.1 = some l
  | 0, cs, _, p, hp => by cases hp
  | n + 1, [], _, p, hp => by cases hp
  | n + 1, x :: l, h, p, hp => by
    simp only [keysB, Bool.and_eq_true] at h
    rcases List.mem_cons.1 hp with rfl | hp
    · exact Option.isSome_iff_exists.1 h.1
    · exact keysB_ok h.2 p hp
/-- Cells az a key, or a value, of the size that a number tells. -/
def szC (r : TR) : Nat := bif r.d.agg then r.size + 1 else 0
def cvS (s : Nat) (l : List CV) : Option SV := bif Nat.beq s 0 then (match l with
  | [x] => some (.e (.c x))
  | _ => none) else some (.e (.a l))
theorem cvS_ok {s : Nat} {l : List CV} {v : SV} (h : cvS s l = some v) {L : Hp} (hl : ∀ x ∈ l, x.ok L) : v.den = cV s l ∧ v.ok L := by
  unfold cvS at h
  unfold cV
  rcases hs : Nat.beq s 0 with _ | _
  · rw [hs] at h
    obtain rfl := Option.some.inj h
    exact ⟨rfl, hl⟩
  · rw [hs] at h
    simp only [cond_true] at h
    split at h <;> first | (cases h; done) | skip
    obtain rfl := Option.some.inj h
    exact ⟨rfl, hl _ (by simp)⟩
/-- A key, or a value, az cells of the size that a number tells. -/
def svC (s : Nat) : SV → Option (List CV)
  | .e (.c x) => bif Nat.beq s 0 then some [x] else none
  | .e (.a l) => bif !(Nat.beq s 0) && Nat.beq l.length (cN s) then some l else none
  | _ => none
theorem svC_ok {s : Nat} {l : List CV} {v : SV} (h : svC s v = some l) {L : Hp} (hv : v.ok L) : v.den = cV s l ∧ (∀ x ∈ l, x.ok L) ∧ l.length = cN s ∧ (s = 0 → l.length = 1) := by
  unfold svC at h
  split at h <;> first | (cases h; done) | skip
  · rename_i x
    rcases hs : Nat.beq s 0 with _ | _
    · rw [hs] at h; cases h
    rw [hs] at h
    obtain rfl := Option.some.inj h
    exact ⟨by simp [cV, hs, SV.den, EV.den], fun y hy => by obtain rfl := List.mem_singleton.1 hy; exact hv, by simp [cN, hs], fun _ => rfl⟩
  · rename_i l'
    rcases hs : Nat.beq s 0 with _ | _
    · rw [hs] at h
      simp only [Bool.not_false, Bool.true_and] at h
      rcases hl : Nat.beq l'.length (cN s) with _ | _
      · rw [hl] at h; cases h
      rw [hl] at h
      obtain rfl := Option.some.inj h
      exact ⟨by simp [cV, hs, SV.den, EV.den], hv, Nat.eq_of_beq_eq_true hl, fun q => by subst q; cases hs⟩
    · rw [hs] at h; cases h
/-- A type's first value. -/
def zvP (P : Program) (E : TypeId) : Option SV :=
  match P.info? E with
  | some i => (match i.zero with
    | some z => bif wfV z then some (ofSV z) else none
    | none => none)
  | none => none
theorem zvP_ok {P : Program} {E : TypeId} {v : SV} (h : zvP P E = some v) (w : World) (L : Hp) : (zeroValue E).run P w = .ok v.den w ∧ v.ok L := by
  unfold zvP at h
  split at h <;> first | (cases h; done) | skip
  rename_i i hi
  split at h <;> first | (cases h; done) | skip
  rename_i z hz
  rcases hw : wfV z with _ | _
  · rw [hw] at h; cases h
  rw [hw] at h
  obtain rfl := Option.some.inj h
  exact ⟨by simp [zeroValue, typeInfo, hi, hz, den_ofSV], ok_ofSV L hw⟩
def comma (c b : Bool) : SV → Option SV
  | .e x => some (bif c then .t [x, .c (bif b then .tt else .ff)] else .e x)
  | _ => none
theorem comma_ok {c b : Bool} {v r : SV} (h : comma c b v = some r) {L : Hp} (hv : v.ok L) : r.den = (if c then .tuple #[v.den, .bool b] else v.den) ∧ r.ok L := by
  unfold comma at h
  split at h <;> first | (cases h; done) | skip
  obtain rfl := Option.some.inj h
  cases c
  · exact ⟨rfl, hv⟩
  · refine ⟨by cases b <;> rfl, fun x hx => ?_⟩
    rcases List.mem_cons.1 hx with rfl | hx
    · exact hv
    · obtain rfl := List.mem_singleton.1 hx
      cases b <;> trivial
/-- What a map tells of a key. -/
def lookV (P : Program) (kl : List Nat) (L : Hp) (k e : Nat) (c : Bool) (key : SV) : CV → Option SV
  | .v (.map none) => bif kl.any (Nat.beq k) && (keyOf P k key.den).isSome then (match zvP P e with
    | some z => comma c false z
    | none => none) else none
  | .m j _ => (match L[j]? with
    | some ⟨_, _, cs, .map ks vs⟩ => (match svC ks key with
      | some kc => bif kl.any (Nat.beq k) && (keyOf P k key.den).isSome && keysB P k ks vs cs.length cs then (match findM ks vs cs.length cs kc with
        | some none => (match zvP P e with
          | some z => comma c false z
          | none => none)
        | some (some (_, v)) => (match cvS vs v with
          | some v => comma c true v
          | none => none)
        | none => none) else none
      | none => none)
    | _ => none)
  | _ => none
section
variable {P : Program} {kl : List Nat} {σ : Hs} {w : World}
theorem kl_law (hK : ∀ k ∈ kl, KeyLaw P k) {k : Nat} (h : kl.any (Nat.beq k) = true) : KeyLaw P k := by
  obtain ⟨x, hx, hb⟩ := List.any_eq_true.1 h
  obtain rfl := Nat.eq_of_beq_eq_true hb
  exact hK _ hx
theorem nodup_of {m1 m2 : List (Value × Value)} {x y : Value} (h1 : ∀ p ∈ m1, p.1 ≠ x) (h2 : ∀ p ∈ m2, p.1 ≠ x) {p : Value × Value} (hp : p ∈ m1 ++ (x, y) :: m2) (he : p.1 = x) : p = (x, y) := by
  rcases List.mem_append.1 hp with q | q
  · exact absurd he (h1 p q)
  · rcases List.mem_cons.1 q with q | q
    · exact q
    · exact absurd he (h2 p q)
theorem lookV_ok (hK : ∀ k ∈ kl, KeyLaw P k) {t k e : Nat} (ht : P.underlying t = some (.map k e)) (hS : St σ w) {c : Bool} {key r : SV} {x : CV} (h : lookV P kl σ.L k e c key x = some r) (hx : x.ok σ.L) (hkey : key.ok σ.L) :
    (Instr.lookup t x.den key.den c).run P w = .ok r.den w ∧ r.ok σ.L := by
  unfold lookV at h
  split at h <;> first | (cases h; done) | skip
  · rcases hb : kl.any (Nat.beq k) && (keyOf P k key.den).isSome with _ | _
    · rw [hb] at h; cases h
    rw [hb] at h
    simp only [cond_true, Bool.and_eq_true] at h hb
    split at h <;> first | (cases h; done) | skip
    rename_i z hz
    have K := kl_law hK hb.1
    obtain ⟨lx, hlx⟩ := Option.isSome_iff_exists.1 hb.2
    obtain ⟨z1, z2⟩ := zvP_ok hz w σ.L
    obtain ⟨r1, r2⟩ := comma_ok h z2
    refine ⟨?_, r2⟩
    have hf : (Instr.findKey k key.den []).run P w = .ok none w := by
      rcases K.find w hlx [] (fun _ h => by cases h) with ⟨q, _⟩ | ⟨j, e0, _, q, _⟩
      · exact q
      · simp at q
    simp [Instr.lookup, CV.den, run_underlying ht, K.check w _ hlx, hf, z1, r1, Result.andThen]
  · rename_i j g
    split at h <;> first | (cases h; done) | skip
    rename_i b' u cs ks vs he
    split at h <;> first | (cases h; done) | skip
    rename_i kc hkc
    rcases hb : kl.any (Nat.beq k) && (keyOf P k key.den).isSome && keysB P k ks vs cs.length cs with _ | _
    · rw [hb] at h; cases h
    rw [hb] at h
    simp only [cond_true, Bool.and_eq_true] at h hb
    obtain ⟨e0, he0, rfl⟩ := hx
    rw [he] at he0
    obtain rfl := Option.some.inj he0
    have K := kl_law hK hb.1.1
    have hm := List.mem_of_getElem? he
    have hsat : MapIs w b' (entsOf ks vs cs) := hS.sat _ hm
    obtain ⟨k1, k2, k3, k4⟩ := svC_ok hkc hkey
    have hkeys := keysB_ok hb.2
    have hlx := Option.isSome_iff_exists.1 hb.1.2
    split at h <;> first | (cases h; done) | skip
    · rename_i hf
      split at h <;> first | (cases h; done) | skip
      rename_i z hz
      obtain ⟨z1, z2⟩ := zvP_ok hz w σ.L
      obtain ⟨r1, r2⟩ := comma_ok h z2
      have hno := findM_ok (fun q => k4 q) hf
      simp only at hno
      rw [← k1] at hno
      exact ⟨by rw [r1]; exact look_miss K ht hsat hkeys hlx hno z1 c, r2⟩
    · rename_i i v hf
      split at h <;> first | (cases h; done) | skip
      rename_i v' hv
      obtain ⟨m1, m2, e1, e2, e3, e4, e5⟩ := findM_ok (fun q => k4 q) hf
      obtain ⟨v1, v2⟩ := cvS_ok hv (L := σ.L) (fun x hx => hS.ok _ hm x (e5 x hx))
      obtain ⟨r1, r2⟩ := comma_ok h v2
      refine ⟨?_, r2⟩
      rw [r1]
      rw [← k1] at e1 e3 e4
      rw [← v1] at e1
      -- look_hit without nodup
      obtain ⟨es, clk, hbk, hmm⟩ := hsat
      obtain ⟨lx, hlx⟩ := hlx
      rcases K.find w hlx es.toList (keys_ok hmm hkeys) with ⟨_, q⟩ | ⟨jj, e0, q1, q2, q3⟩
      · have hin : (key.den, v'.den) ∈ es.toList.map (fun e => (e.key, e.val)) := by rw [hmm]; unfold entsOf; rw [e1]; simp
        obtain ⟨e2, h1, h2⟩ := List.mem_map.1 hin
        simp only [Prod.mk.injEq] at h2
        exact absurd h2.1 (q e2 h1)
      · have hin : (e0.key, e0.val) ∈ m1 ++ (key.den, v'.den) :: m2 := by
          rw [← e1]
          have : (e0.key, e0.val) ∈ es.toList.map (fun e => (e.key, e.val)) := List.mem_map.2 ⟨e0, List.mem_of_getElem? q2, rfl⟩
          rw [hmm] at this; exact this
        have := nodup_of e3 e4 hin q3
        simp only [Prod.mk.injEq] at this
        rw [← this.2]
        simp [Instr.lookup, CV.den, run_underlying ht, MapKept.run_getObj_map hbk, K.check w _ hlx, q1, Result.andThen]
end
/-- The one entry of a number. -/
def findI (kd : IntKind) (m : Int) (vs : Nat) : Nat → List CV → Option (Option (List CV))
  | _, [] => some none
  | 0, _ :: _ => none
  | f + 1, .i k a :: r => bif kEq kd k then (bif decide (m = a) then some (some (r.take (cN vs))) else findI kd m vs f (r.drop (cN vs))) else none
  | _, _ => none
theorem entsF_int (vs f : Nat) (k : IntKind) (a : Int) (r : List CV) : entsF 0 vs (f + 1) (.i k a :: r) = (.int k a, cV vs (r.take (cN vs))) :: entsF 0 vs f (r.drop (cN vs)) := by
  have h1 : cN 0 = 1 := rfl
  simp only [entsF, h1, List.take_succ_cons, List.take_zero, List.drop_succ_cons, List.drop_zero, Nat.add_comm 1 (cN vs)]
  rfl
theorem findI_ok {kd kd' : IntKind} {m : Int} {vs : Nat} : ∀ {f : Nat} {cs : List CV} {r : Option (List CV)}, findI kd m vs f cs = some r → ∀ (es : List MapEntry), es.map (fun e => (e.key, e.val)) = entsF 0 vs f cs → ∀ i,
    match r with
    | none => Instr.findNow (.int kd') (.int kd m) es i = some none
    | some l => (∃ j, Instr.findNow (.int kd') (.int kd m) es i = some (some (j, cV vs l))) ∧ ∀ x ∈ l, x ∈ cs
  | f, [], r, h, es, he, i => by
    have hr : r = none := by cases f <;> simpa [findI] using h.symm
    subst hr
    have : es = [] := by
      have h2 : entsF 0 vs f [] = [] := by cases f <;> rfl
      rw [h2] at he
      exact List.map_eq_nil_iff.1 he
    subst this
    rfl
  | 0, x :: cs, r, h, es, he, i => by simp [findI] at h
  | f + 1, x :: cs, r, h, es, he, i => by
    cases x with
    | i k a =>
      simp only [findI] at h
      rcases hk : kEq kd k with _ | _
      · rw [hk] at h; cases h
      rw [hk] at h
      obtain rfl := kEq_ok hk
      rw [entsF_int] at he
      cases es with
      | nil => cases he
      | cons e es =>
        simp only [List.map_cons, List.cons.injEq, Prod.mk.injEq] at he
        obtain ⟨⟨e1, e2⟩, e3⟩ := he
        rcases hd : decide (m = a) with _ | _
        · rw [hd] at h
          simp only [cond_true, cond_false] at h
          have hne : (m == a) = false := by simpa using hd
          have := findI_ok (kd' := kd') h es e3 (i + 1)
          cases r with
          | none => simp only [Instr.findNow, e1, Instr.sameNow, if_true, hne]; exact this
          | some l =>
            obtain ⟨⟨j, q1⟩, q2⟩ := this
            refine ⟨⟨j, ?_⟩, fun x hx => List.mem_cons_of_mem _ (List.mem_of_mem_drop (q2 x hx))⟩
            simp only [Instr.findNow, e1, Instr.sameNow, if_true, hne]; exact q1
        · rw [hd] at h
          simp only [cond_true] at h
          obtain rfl := Option.some.inj h
          have hne : (m == a) = true := by simpa using hd
          refine ⟨⟨i, ?_⟩, fun x hx => List.mem_cons_of_mem _ (List.mem_of_mem_take hx)⟩
          simp only [Instr.findNow, e1, Instr.sameNow, if_true, hne, e2]
    | _ => simp [findI] at h
/-- A map's content at hand. -/
def mapV : BK → Option Nat
  | .map 0 vs => some vs
  | _ => none
/-- What a map tells of a number. -/
def lookNm (P : Program) (L : Hp) (k e : Nat) (c : Bool) : SV → CV → Option SV
  | .e (.c (.i kd m)), .m j _ => (match P.underlying k, L[j]? with
    | some (.int _), some ⟨_, _, cs, T⟩ => (match mapV T with
      | some vs => (match findI kd m vs cs.length cs with
        | some none => (match zvP P e with
          | some z => comma c false z
          | none => none)
        | some (some v) => (match cvS vs v with
          | some v => comma c true v
          | none => none)
        | none => none)
      | none => none)
    | _, _ => none)
  | _, _ => none
def lookW (P : Program) (kl : List Nat) (L : Hp) (k e : Nat) (c : Bool) (key : SV) (x : CV) : Option SV :=
  match lookNm P L k e c key x with
  | some v => some v
  | none => lookV P kl L k e c key x
theorem lookNm_ok {P : Program} {σ : Hs} {w : World} {t k e : Nat} (ht : P.underlying t = some (.map k e)) (hS : St σ w) {c : Bool} {key r : SV} {x : CV} (h : lookNm P σ.L k e c key x = some r) (hx : x.ok σ.L) :
    (Instr.lookup t x.den key.den c).run P w = .ok r.den w ∧ r.ok σ.L := by
  unfold lookNm at h
  split at h <;> first | (cases h; done) | skip
  rename_i kd m j g
  split at h <;> first | (cases h; done) | skip
  rename_i kd' b u cs T hu he
  split at h <;> first | (cases h; done) | skip
  rename_i vs hmT
  obtain ⟨e0, he0, rfl⟩ := hx
  rw [he] at he0
  obtain rfl := Option.some.inj he0
  have hm := List.mem_of_getElem? he
  have hsat : MapIs w b (entsOf 0 vs cs) := by
    have := hS.sat _ hm
    unfold mapV at hmT
    split at hmT <;> first | (cases hmT; done) | skip
    · cases hmT; exact this
  obtain ⟨es, clk, hbk, hmm⟩ := hsat
  have hck : (Instr.checkKey es.isEmpty 10000 k (.int kd m)).run P w = .ok () w := by
    have : ∀ n, (Instr.checkKey es.isEmpty (n + 1) k (.int kd m)).run P w = .ok () w := fun n => by simp [Instr.checkKey, run_underlying hu, Result.andThen]
    exact this 9999
  have hfk : ∀ q, Instr.findNow (.int kd') (.int kd m) es.toList 0 = some q → (Instr.findKey k (.int kd m) es.toList).run P w = .ok q w := fun q hq => by
    simp [Instr.findKey, run_underlying hu, hq, Result.andThen]
  split at h <;> first | (cases h; done) | skip
  · rename_i hf
    split at h <;> first | (cases h; done) | skip
    rename_i z hz
    obtain ⟨z1, z2⟩ := zvP_ok hz w σ.L
    obtain ⟨r1, r2⟩ := comma_ok h z2
    have := hfk _ (findI_ok (kd' := kd') hf es.toList hmm 0)
    refine ⟨?_, r2⟩
    rw [r1]
    simp [Instr.lookup, SV.den, EV.den, CV.den, run_underlying ht, MapKept.run_getObj_map hbk, hck, this, z1, Result.andThen]
  · rename_i v hf
    split at h <;> first | (cases h; done) | skip
    rename_i v' hv
    obtain ⟨⟨jj, q1⟩, q2⟩ := findI_ok (kd' := kd') hf es.toList hmm 0
    obtain ⟨v1, v2⟩ := cvS_ok hv (L := σ.L) (fun x hx => hS.ok _ hm x (q2 x hx))
    obtain ⟨r1, r2⟩ := comma_ok h v2
    have := hfk _ q1
    refine ⟨?_, r2⟩
    rw [r1, v1]
    simp [Instr.lookup, SV.den, EV.den, CV.den, run_underlying ht, MapKept.run_getObj_map hbk, hck, this, Result.andThen]
theorem lookW_ok {P : Program} {kl : List Nat} {σ : Hs} {w : World} (hK : ∀ k ∈ kl, KeyLaw P k) {t k e : Nat} (ht : P.underlying t = some (.map k e)) (hS : St σ w) {c : Bool} {key r : SV} {x : CV} (h : lookW P kl σ.L k e c key x = some r) (hx : x.ok σ.L) (hkey : key.ok σ.L) :
    (Instr.lookup t x.den key.den c).run P w = .ok r.den w ∧ r.ok σ.L := by
  unfold lookW at h
  split at h
  · rename_i v hv
    obtain rfl := Option.some.inj h
    exact lookNm_ok ht hS hv hx
  · exact lookV_ok hK ht hS h hx hkey
end
end Go.Proofs.YthmokdfigjffjaaGreatDoor
