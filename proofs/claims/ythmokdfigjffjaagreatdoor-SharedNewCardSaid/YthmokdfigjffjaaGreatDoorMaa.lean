/- Texts of this proof, merged: Base Sxa Sxb. -/
import Derived.WalkKit
import Derived.WalkSpells
import Derived.WalkLawsBesides
import Derived.Deep.QuietTactic
import Derived.BigQuiet
import Derived.DeepKeys4
import Derived.Maps.Own
import Derived.WalkSmall
import Derived.StillTailTactics
import Derived.Lib.Hide
import Derived.Deep.LoopGhost
import Derived.Laws.AppendOwnNone
import Derived.Lib.QuietBelow
import Derived.Deep.RegionWith
import Derived.BigRegion
import Derived.Deep.DeepCutAuto
import Derived.Deep.RegionHeld3
import Derived.Test.YthmokdfigjffjaaGreatDoorProg
namespace Go.Proofs.YthmokdfigjffjaaGreatDoor
set_option linter.unusedVariables false
set_option linter.unusedSimpArgs false
open Go.RowKit
open Go.ChangeMaps (setBlock)
open Go.WideMaps (KeyLaw)

/-- What may have been written: the blocks of S, and new ones. -/
structure Fp (S : Nat → Prop) (w w' : World) : Prop where
  os : w'.os = w.os
  tape : w'.tape = w.tape
  output : w'.output = w.output
  size : w.heap.size ≤ w'.heap.size
  block : ∀ k, k < w.heap.size → ¬ S k → w'.heap[k]? = w.heap[k]?

theorem Fp.refl (S : Nat → Prop) (w : World) : Fp S w w := ⟨rfl, rfl, rfl, Nat.le_refl _, fun _ _ _ => rfl⟩
theorem Fp.trans {S T : Nat → Prop} {a b c : World} (h : Fp S a b) (k : Fp T b c) (hs : ∀ i, i < a.heap.size → T i → S i) : Fp S a c :=
  ⟨k.os.trans h.os, k.tape.trans h.tape, k.output.trans h.output, Nat.le_trans h.size k.size,
   fun i hi hn => (k.block i (Nat.lt_of_lt_of_le hi h.size) (fun ht => hn (hs i hi ht))).trans (h.block i hi hn)⟩
theorem Fp.mono {S T : Nat → Prop} {a b : World} (h : Fp S a b) (hs : ∀ i, i < a.heap.size → S i → T i) : Fp T a b :=
  ⟨h.os, h.tape, h.output, h.size, fun i hi hn => h.block i hi (fun ht => hn (hs i hi ht))⟩
theorem Fp.alloc {S : Nat → Prop} {a w : World} (h : Fp S a w) (o : Obj) : Fp S a (w.alloc o) :=
  ⟨h.os, h.tape, h.output, by have := h.size; simp; omega, fun k hk hn => (Below.heap_alloc _ _ _ (Nat.lt_of_lt_of_le hk h.size)).trans (h.block k hk hn)⟩
theorem Fp.drew {S : Nat → Prop} {a w : World} (h : Fp S a w) : Fp S a w.drew := ⟨h.os, h.tape, h.output, h.size, h.block⟩
theorem Fp.drewN {S : Nat → Prop} {a w : World} (h : Fp S a w) (n : Nat) : Fp S a (w.drewN n) := ⟨h.os, h.tape, h.output, h.size, h.block⟩
theorem Fp.setCell {S : Nat → Prop} {a w : World} (h : Fp S a w) {p : Addr} (hp : a.heap.size ≤ p.block ∨ S p.block) (u : Value) : Fp S a (w.setCell p u) :=
  ⟨h.os, h.tape, h.output, by simpa [World.setCell] using h.size, fun k hk hn => by
    have : k ≠ p.block := by
      rintro rfl
      rcases hp with hp | hp
      · omega
      · exact hn hp
    rw [Below.heap_setCell _ _ _ _ this]; exact h.block k hk hn⟩
theorem Fp.setBlock {S : Nat → Prop} {a w : World} (h : Fp S a w) {b : Nat} (hp : a.heap.size ≤ b ∨ S b) (o : Obj) : Fp S a (setBlock w b o) :=
  ⟨h.os, h.tape, h.output, by simpa [ChangeMaps.setBlock] using h.size, fun k hk hn => by
    have : k ≠ b := by
      rintro rfl
      rcases hp with hp | hp
      · omega
      · exact hn hp
    simp only [ChangeMaps.setBlock, Array.getElem?_setIfInBounds]
    rw [if_neg (by omega)]; exact h.block k hk hn⟩
theorem Fp.of_below {w w' : World} (h : Below w.heap.size w w') : Fp (fun _ => False) w w' := ⟨h.os, h.tape, h.output, h.size, fun k hk _ => h.block k hk⟩
theorem Fp.below {S : Nat → Prop} {B : Nat} {w w' : World} (h : Fp S w w') (hB : B ≤ w.heap.size) (hs : ∀ k, k < B → ¬ S k) : Below B w w' :=
  ⟨h.os, h.tape, h.output, h.size, fun k hk => h.block k (by omega) (hs k hk)⟩
theorem Fp.cell {S : Nat → Prop} {w w' : World} (h : Fp S w w') {p : Addr} (hp : p.block < w.heap.size) (hs : ¬ S p.block) : w'.cell? p = w.cell? p := World.cell?_of_block (w := w) (h.block _ hp hs)
theorem Fp.frozen {S : Nat → Prop} {w w' : World} (h : Fp S w w') {p : Addr} (hp : p.block < w.heap.size) (hs : ¬ S p.block) : w'.frozen? p = w.frozen? p := World.frozen?_of_block (w := w) (h.block _ hp hs)

theorem cell_lt {w : World} {p : Addr} {v : Value} (h : w.cell? p = some v) : p.block < w.heap.size := by
  unfold World.cell? at h
  rcases hb : w.heap[p.block]? with _ | o
  · simp [hb] at h
  · exact (Array.getElem?_eq_some_iff.1 hb).1

/-- 'go_still' and 'go_still_tail', the world spelled 'w.drew'. -/
theorem wp_still_tail {P : Program} {a : Act} {w : World} {id : Nat} {Q : Exit → Act → World → Prop} {l : List Oper} (n : Nat) (hm : P.follows .mixedOrders = true) (hB : Region.lexTailB .any l.toArray n = true)
    (h : wpStill P l.toArray w.drew (fun a' => wpList P l.toArray Q (l.drop n) a' w.drew) (l.take n) a) : (Code.region id l.toArray true).wp P Q a w := wp_region_still_tail n hm hB h
/-- A map's block, as a list of keys and elements. -/
def MapIs (w : World) (b : Nat) (m : List (Value × Value)) : Prop := ∃ es clk, w.heap[b]? = some (.map es clk) ∧ es.toList.map (fun e => (e.key, e.val)) = m

theorem MapIs.lt {w : World} {b : Nat} {m : List (Value × Value)} (h : MapIs w b m) : b < w.heap.size := by
  obtain ⟨es, clk, h, _⟩ := h; exact (Array.getElem?_eq_some_iff.1 h).1
theorem MapIs.of_block {w w' : World} {b : Nat} {m : List (Value × Value)} (h : MapIs w b m) (he : w'.heap[b]? = w.heap[b]?) : MapIs w' b m := by
  obtain ⟨es, clk, h, hm⟩ := h; exact ⟨es, clk, he.trans h, hm⟩
theorem heap_new (w : World) (o : Obj) (n : Nat) (hn : n = w.heap.size) : (w.alloc o).heap[n]? = some o := by subst hn; exact (MapKept.heap_alloc w o).1
theorem MapIs.made (w : World) : MapIs (w.alloc (.map #[] 0)) w.heap.size [] := ⟨#[], 0, (MapKept.heap_alloc w _).1, rfl⟩

section
variable {P : Program} {k : TypeId} {w : World} {t e b : Nat} {m : List (Value × Value)} {x : Value}

theorem keys_ok {es : Array MapEntry} (hm : es.toList.map (fun e => (e.key, e.val)) = m) (hk : ∀ p ∈ m, ∃ l, keyOf P k p.1 = some l) : ∀ e ∈ es.toList, ∃ l, keyOf P k e.key = some l :=
  fun e he => hk (e.key, e.val) (by rw [← hm]; exact List.mem_map.2 ⟨e, he, rfl⟩)

theorem look_miss (K : KeyLaw P k) (ht : P.underlying t = some (.map k e)) (h : MapIs w b m) (hk : ∀ p ∈ m, ∃ l, keyOf P k p.1 = some l) (hx : ∃ l, keyOf P k x = some l)
    (hno : ∀ p ∈ m, p.1 ≠ x) {z : Value} (hz : (zeroValue e).run P w = .ok z w) (c : Bool) :
    (Instr.lookup t (.map (some b)) x c).run P w = .ok (if c then .tuple #[z, .bool false] else z) w := by
  obtain ⟨es, clk, hb, hm⟩ := h
  obtain ⟨lx, hx⟩ := hx
  rcases K.find w hx es.toList (keys_ok hm hk) with ⟨h1, _⟩ | ⟨j, e0, _, h2, h3⟩
  · simp [Instr.lookup, run_underlying ht, MapKept.run_getObj_map hb, K.check w _ hx, h1, hz, Result.andThen]
  · exact absurd h3 (hno (e0.key, e0.val) (by rw [← hm]; exact List.mem_map.2 ⟨e0, List.mem_of_getElem? h2, rfl⟩))

theorem eq_of_nodup {es : List MapEntry} (hn : (es.map (fun e => e.key)).Nodup) {a c : MapEntry} (ha : a ∈ es) (hc : c ∈ es) (h : a.key = c.key) : a = c := by
  induction es with
  | nil => cases ha
  | cons y ys ih =>
    simp only [List.map_cons, List.nodup_cons] at hn
    rcases List.mem_cons.1 ha with rfl | ha'
    · rcases List.mem_cons.1 hc with rfl | hc'
      · rfl
      · exact absurd (List.mem_map.2 ⟨c, hc', h.symm⟩) hn.1
    · rcases List.mem_cons.1 hc with rfl | hc'
      · exact absurd (List.mem_map.2 ⟨a, ha', h⟩) hn.1
      · exact ih hn.2 ha' hc'

theorem map_keys {es : Array MapEntry} (hm : es.toList.map (fun e => (e.key, e.val)) = m) : es.toList.map (fun e => e.key) = m.map Prod.fst := by
  rw [← hm, List.map_map]; rfl

theorem look_hit (K : KeyLaw P k) (ht : P.underlying t = some (.map k e)) (h : MapIs w b m) (hk : ∀ p ∈ m, ∃ l, keyOf P k p.1 = some l) (hnd : (m.map Prod.fst).Nodup)
    {v : Value} (hin : (x, v) ∈ m) (c : Bool) :
    (Instr.lookup t (.map (some b)) x c).run P w = .ok (if c then .tuple #[v, .bool true] else v) w := by
  obtain ⟨lx, hx⟩ : ∃ l, keyOf P k x = some l := hk _ hin
  obtain ⟨es, clk, hb, hm⟩ := h
  rw [← map_keys hm] at hnd
  rw [← hm] at hin
  obtain ⟨e1, he1, heq⟩ := List.mem_map.1 hin
  simp only [Prod.mk.injEq] at heq
  rcases K.find w hx es.toList (keys_ok hm hk) with ⟨_, h2⟩ | ⟨j, e0, h1, h2, h3⟩
  · exact absurd heq.1 (h2 e1 he1)
  · have : e0 = e1 := eq_of_nodup hnd (List.mem_of_getElem? h2) he1 (h3.trans heq.1.symm)
    subst this
    rw [← heq.2]
    simp [Instr.lookup, run_underlying ht, MapKept.run_getObj_map hb, K.check w _ hx, h1, Result.andThen]

theorem update_new (K : KeyLaw P k) (ht : P.underlying t = some (.map k e)) (h : MapIs w b m) (hk : ∀ p ∈ m, ∃ l, keyOf P k p.1 = some l) (hx : ∃ l, keyOf P k x = some l)
    (hno : ∀ p ∈ m, p.1 ≠ x) (v : Value) :
    ∃ o, (Instr.mapUpdate t (.map (some b)) x v).run P w = .ok () (setBlock w b o) ∧ MapIs (setBlock w b o) b (m ++ [(x, v)]) := by
  have hlt := h.lt
  obtain ⟨es, clk, hb, hm⟩ := h
  obtain ⟨lx, hx⟩ := hx
  rcases K.find w hx es.toList (keys_ok hm hk) with ⟨h1, _⟩ | ⟨j, e0, _, h2, h3⟩
  · refine ⟨.map (es.push ⟨x, v, clk⟩) (clk + 1), ?_, es.push ⟨x, v, clk⟩, clk + 1, ?_, ?_⟩
    · simp [Instr.mapUpdate, run_underlying ht, MapKept.run_getObj_map hb, K.check w false hx, h1, MapKept.run_setObj_map _ hb, Result.andThen, setBlock]
    · simp [setBlock, hlt]
    · simp [hm]
  · exact absurd h3 (hno (e0.key, e0.val) (by rw [← hm]; exact List.mem_map.2 ⟨e0, List.mem_of_getElem? h2, rfl⟩))

theorem map_len (ht : P.underlying t = some (.map k e)) (h : MapIs w b m) (ty : TypeId) : (Builtin.len_ #[t] ty #[.map (some b)]).run P w = .ok (.int .i64 m.length) w := by
  obtain ⟨es, clk, hb, hm⟩ := h
  rw [← hm]
  simp [Builtin.len_, run_underlying ht, MapKept.run_getObj_map hb, Result.andThen, goInt]

end

/-- A block of plain cells, none of them a string's. -/
def Plain (w : World) (b : Nat) : Prop := (w.shape? b).isSome = true ∧ ∀ o, w.frozen? ⟨b, o, none⟩ = false

theorem Plain.lt {w : World} {b : Nat} (h : Plain w b) : b < w.heap.size := by
  obtain ⟨x, hx⟩ := Option.isSome_iff_exists.1 h.1
  unfold World.shape? at hx
  rcases hb : w.heap[b]? with _ | y
  · simp [hb] at hx
  · exact (Array.getElem?_eq_some_iff.1 hb).1
theorem Plain.of_block {w w' : World} {b : Nat} (h : Plain w b) (e : w'.heap[b]? = w.heap[b]?) : Plain w' b :=
  ⟨by unfold World.shape?; rw [e]; exact h.1, fun o => (World.frozen?_of_block (a := ⟨b, o, none⟩) e).trans (h.2 o)⟩

theorem run_sameAddr {P : Program} {w : World} {a b : Addr} (sa : a.spot = none) (sb : b.spot = none) (ha : Plain w a.block) (hb : Plain w b.block) : (sameAddr a b).run P w = .ok (a == b) w := by
  obtain ⟨ab, ao, asp⟩ := a
  obtain ⟨bb, bo, bs⟩ := b
  obtain rfl : asp = none := sa
  obtain rfl : bs = none := sb
  by_cases h : ab = bb
  · subst h
    simp [sameAddr]
  · have hne : ((⟨ab, ao, none⟩ : Addr) == ⟨bb, bo, none⟩) = false := by simp [h]
    obtain ⟨⟨ta, na⟩, hsa⟩ := Option.isSome_iff_exists.1 ha.1
    obtain ⟨⟨tb, nb⟩, hsb⟩ := Option.isSome_iff_exists.1 hb.1
    have fa : ∀ o, w.frozen? ⟨ab, o, none⟩ = false := ha.2
    have fb : ∀ o, w.frozen? ⟨bb, o, none⟩ = false := hb.2
    have e1 : w.shape? ab = some (ta, na) := hsa
    have e2 : w.shape? bb = some (tb, nb) := hsb
    simp [sameAddr, h, hne, frozen, fa, Sem.run, noView, viewAt, shape, e1, e2, mayBeOne, stringish, fb]

theorem run_equalIn_ptr (d : Nat) {P : Program} {w : World} {t e : TypeId} {a b : Addr} (ht : P.underlying t = some (.pointer e)) (hs : P.cellsOf e ≠ 0) (sa : a.spot = none) (sb : b.spot = none) (ha : Plain w a.block) (hb : Plain w b.block) :
    (Op.equalIn (d + 1) t (.pointer (some a)) (.pointer (some b))).run P w = .ok (a == b) w := by
  unfold Program.cellsOf at hs
  rcases hi : P.info? e with _ | i
  · simp [hi] at hs
  · simp [hi] at hs
    simp [Op.equalIn, run_underlying ht, sizeOf, typeInfo, program, Sem.run, hi, hs, run_sameAddr sa sb ha hb]

theorem run_equal_ptr {P : Program} {w : World} {t e : TypeId} {a b : Addr} (ht : P.underlying t = some (.pointer e)) (hs : P.cellsOf e ≠ 0) (sa : a.spot = none) (sb : b.spot = none) (ha : Plain w a.block) (hb : Plain w b.block) :
    (Op.equal t (.pointer (some a)) (.pointer (some b))).run P w = .ok (a == b) w := run_equalIn_ptr 9999 ht hs sa sb ha hb

theorem Fp.grown {S : Nat → Prop} {a w w' : World} {row : Option Nat} (h : Fp S a w) (hg : w.grownBy w' row) (hr : ∀ k, row = some k → a.heap.size ≤ k ∨ S k) : Fp S a w' :=
  ⟨hg.os.trans h.os, hg.tape.trans h.tape, hg.output.trans h.output, Nat.le_trans h.size hg.size, fun k hk hn => (hg.block k (Nat.lt_of_lt_of_le hk h.size) (fun e => by
    rcases hr k e.symm with h1 | h1
    · omega
    · exact hn h1)).trans (h.block k hk hn)⟩

/-- Where what was appended lies: in the old block, or in a new one. -/
theorem append_where {P : Program} {w : World} (base t ty e : Nat) (i : TypeInfo) (z : Value) (ht : P.underlying t = some (.slice e)) (hi : P.info? e = some i) (hz : i.zero = some z)
    (v : Value) (n : Nat) (xs : List Value) (hown : w.ownsRow base e i.size v n xs)
    (a : Addr) (m c : Nat) (news : List Value) (hl : news.length = m * i.size) (hnews : ∀ j u, news[j]? = some u → w.cell? (a.add j) = some u) (h1 : ∀ u ∈ news, u.oneCell' = true)
    (h63 : n + m ≤ maxLen) (hbytes : (n + m) * i.bytes ≤ 140737488355328) {v' : Value} {w' : World} (hr : (Builtin.append_ #[t, t] ty #[v, .slice (some a) m c]).run P w = .ok v' w') :
    v'.ownBlock = v.ownBlock ∨ v'.ownBlock = some w.heap.size := by
  have hsmall : n + m ≤ 9223372036854775807 := by simp only [maxLen] at h63; omega
  have hc := hown
  obtain ⟨ho, h2⟩ := hown
  rcases h2 with ⟨rfl, rfl⟩ | ⟨g, cap, cur, rfl, hbg, hg, hnc, hcm, hcs, htake⟩
  · by_cases hm : m = 0
    · subst hm
      have hn : news = [] := List.eq_nil_of_length_eq_zero (by simpa using hl)
      subst hn
      simp [Builtin.append_, run_underlying ht, sizeOf, typeInfo, hi, Builtin.lenOf, Builtin.firstCells, loadCells, loadCellsFrom] at hr
      exact Or.inl (by rw [← hr.1])
    · rw [run_append_nil (P := P) w t ty e i z ht hi hz a m c news hl hnews (by omega) (by omega) (by have hb := hbytes; simp only [Nat.zero_add] at hb; omega)] at hr
      injection hr with h1 _
      exact Or.inr (by rw [← h1]; rfl)
  · by_cases hroom : n + m ≤ cap
    · rw [run_append_room (P := P) w t ty e i ht hi g n cap cur hg a m c news hl hnews h1 hroom (by rw [hl, hcs, ← Nat.add_mul]; exact Nat.mul_le_mul_right _ hroom)] at hr
      injection hr with h1 _
      exact Or.inl (by rw [← h1]; rfl)
    · rw [run_append_grow (P := P) w t ty e i z ht hi hz ⟨g, 0, none⟩ n cap xs ho (hc.cells (g := g) rfl) a m c news hl hnews (by omega) (by omega) (growslice_fits (by omega) hbytes)] at hr
      injection hr with h1 _
      exact Or.inr (by rw [← h1]; rfl)

theorem wp_append_at {P : Program} {w : World} {ops : Array Oper} {rest : List Oper} {o : Oper} {a : Act} {Q : Exit → Act → World → Prop} (hgd : o.guard = none) (s x : Operand) (t : TypeId)
    (ho : o.op = .call { callee := .builtin .append, args := #[s, x], argTypes := #[t, t] })
    (base : Nat) (e : TypeId) (i : TypeInfo) (z : Value) (ht : P.underlying t = some (.slice e)) (hi : P.info? e = some i) (hz : i.zero = some z)
    (hzs : z.cells.size = i.size) (hsz : 0 < i.size) (v : Value) (n : Nat) (xs : List Value) (hs : a.eval s = v) (hown : w.ownsRow base e i.size v n xs)
    (ad : Addr) (m c : Nat) (news : List Value) (hx : a.eval x = .slice (some ad) m c) (hl : news.length = m * i.size) (hnews : ∀ j u, news[j]? = some u → w.cell? (ad.add j) = some u) (h1 : ∀ u ∈ news, u.oneCell' = true)
    (h63 : n + m ≤ maxLen) (hbytes : (n + m) * i.bytes ≤ 140737488355328) (hbase : base ≤ w.heap.size)
    (h : ∀ v' w', w'.ownsRow base e i.size v' (n + m) (xs ++ news) → w.grownBy w' v.ownBlock → (v' = .slice none 0 0 ↔ v = .slice none 0 0 ∧ m = 0) → (v'.ownBlock = v.ownBlock ∨ v'.ownBlock = some w.heap.size) → wpList P ops Q rest (a.put o.dst v') w') : wpList P ops Q (o :: rest) a w := by
  refine wpList_plain hgd fun K hK => ?_
  obtain ⟨v', w', hr, h2, h3, h4⟩ := run_append_own (P := P) w base t o.type e i z i.size i.bytes ht hi hz rfl rfl hzs hsz v n xs hown ad m c news hl hnews h1 h63 hbytes hbase
  have h5 := append_where base t o.type e i z ht hi hz v n xs hown ad m c news hl hnews h1 h63 hbytes hr
  unfold Oper.wp execOp
  simp only [ho, resolve, invoke, builtin, Sem.run_bind, Sem.run_pure, Result.andThen_ok, List.map_toArray, List.map_cons, List.map_nil, hs, hx, hr]
  exact hK _ _ (h v' w' h2 h3 h4 h5)

/-- 'append(s, x)' of one element that lies in a block of its own, to a slice of the call's own. -/
theorem wp_append1 {P : Program} {w : World} {ops : Array Oper} {rest : List Oper} {o : Oper} {a : Act} {Q : Exit → Act → World → Prop} (hgd : o.guard = none) (s x : Operand) (t : TypeId)
    (ho : o.op = .call { callee := .builtin .append, args := #[s, x], argTypes := #[t, t] })
    (base : Nat) (e : TypeId) (z : Value) (size : Nat) (ht : P.underlying t = some (.slice e)) (hi : ∃ i, P.info? e = some i ∧ i.zero = some z ∧ i.size = size ∧ i.bytes ≤ 65536)
    (hzs : z.cells.size = size) (hsz : 0 < size) (v : Value) (n : Nat) (xs : List Value) (hs : a.eval s = v) (hown : w.ownsRow base e size v n xs)
    (g : Nat) (news : List Value) (hx : a.eval x = .slice (some ⟨g, 0, none⟩) 1 1) (hl : news.length = size) (hnews : w.heap[g]? = some (.cells news.toArray e (0, 0))) (h1 : ∀ u ∈ news, u.oneCell' = true)
    (hn : n + 1 ≤ 1048576) (hbase : base ≤ w.heap.size)
    (h : ∀ v' w', w'.ownsRow base e size v' (n + 1) (xs ++ news) → w.grownBy w' v.ownBlock → v' ≠ .slice none 0 0 → (v'.ownBlock = v.ownBlock ∨ v'.ownBlock = some w.heap.size) → wpList P ops Q rest (a.put o.dst v') w') : wpList P ops Q (o :: rest) a w := by
  obtain ⟨i, hi, hz, rfl, hb⟩ := hi
  refine wp_append_at hgd s x t ho base e i z ht hi hz hzs hsz v n xs hs hown ⟨g, 0, none⟩ 1 1 news hx (by omega) ?_ h1 (by unfold maxLen; omega) ?_ hbase ?_
  · intro j u hj
    have e : (⟨g, 0, none⟩ : Addr).add j = ⟨g, j, none⟩ := by unfold Addr.add; split <;> simp_all
    rw [e]
    simp [World.cell?, hnews, hj]
  · have := Nat.mul_le_mul hn hb; omega
  · intro v' w' h2 h3 h4 h5
    exact h v' w' h2 h3 (fun e => by have := h4.1 e; omega) h5

theorem ownsRow_of_block {w w' : World} {B : Nat} {e : TypeId} {size : Nat} {v : Value} {n : Nat} {xs : List Value} (h : w.ownsRow B e size v n xs) (hb : ∀ g, v.ownBlock = some g → w'.heap[g]? = w.heap[g]?) : w'.ownsRow B e size v n xs := by
  obtain ⟨h1, h2⟩ := h
  refine ⟨h1, ?_⟩
  rcases h2 with h2 | ⟨g, cap, cur, hv, hg, hh, r⟩
  · exact Or.inl h2
  · exact Or.inr ⟨g, cap, cur, hv, hg, by rw [hb g (by rw [hv]; rfl)]; exact hh, r⟩
theorem heap_set (w : World) (g i : Nat) (cs : Array Value) (t : TypeId) (v : Value) (hg : w.heap[g]? = some (.cells cs t (0, 0))) : (w.setCell ⟨g, i, none⟩ v).heap[g]? = some (.cells (cs.setIfInBounds i v) t (0, 0)) := by
  simp [World.setCell, Array.getElem?_modify, hg]

abbrev NoW (w w' : World) : Prop := Fp (fun _ => False) w w'
def Ret1 (v : Value) (w : World) (e : Ending) (w' : World) : Prop := e = .returned v ∧ NoW w w'

theorem NoW.below {w w' : World} (h : NoW w w') : Below w.heap.size w w' := Fp.below h (Nat.le_refl _) (fun _ _ => id)
/-- A contract that writes nothing, in a region that draws its order. -/
theorem low_call {P : Program} {f : FuncId} {args : Array Value} {v : Value} (w : World) (h : ∀ W, NoW w W → Calls P f args W (Ret1 v W)) (d : Nat) (os : Array Obj) :
    Calls P f args (Sort.grow (redrawn w d) os) fun e w'' => e = .returned v ∧ ∃ p : Regrown, w'' = Sort.grow (redrawn w p.d) p.os :=
  Calls.regrown_of ((h _ (Fp.of_below (below_regrown w d os))).mono fun _ _ ⟨he, hb⟩ => ⟨he, hb.below⟩)
theorem low_of {w w' : World} (h : ∃ p : Regrown, w' = Sort.grow (redrawn w p.d) p.os) : NoW w w' := by
  obtain ⟨p, rfl⟩ := h
  exact Fp.of_below (below_regrown w p.d p.os)
end Go.Proofs.YthmokdfigjffjaaGreatDoor
namespace Go.Proofs.YthmokdfigjffjaaGreatDoor
set_option linter.unusedVariables false
set_option linter.unusedSimpArgs false
section
variable {P : Program} {ops : Array Oper} {Q : Exit → Act → World → Prop} {md : Region.Mode} {S : World → Prop}
theorem take_at (i : Nat) (d : Option Tmp) {oi : Oper} {v : Value} {fuel : Nat} {listed : Array Bool} {a : Act} {w : World} (hi : ops[i]? = some oi) (hd : oi.dst = d)
    (hs : Region.noSelect ops = true) (hf : Region.free md ops listed i = true) (hr : (Region.ready md ops listed).contains i = true)
    (hQ : ∀ c a w, Q (.panic c) (a.put d v) w → Q (.panic c) a w) (hw : Region.wanted oi (yielded ops a.tmps) = true)
    (hy : ∀ w, S w → (execOp a.eval oi).run P w = .ok (.value v) w) (hS : S w)
    (h : wpAnyH P md ops Q S fuel (listed.setIfInBounds i true) (a.put d v) w) : wpAnyH P md ops Q S (fuel + 1) listed a w := by
  subst hd
  exact wpAnyH_take hi hs hf hr hQ (Or.inl ⟨hw, hy⟩) hS h
theorem drop_at (i : Nat) (d : Option Tmp) {oi : Oper} {fuel : Nat} {listed : Array Bool} {a : Act} {w : World} (hi : ops[i]? = some oi) (hd : oi.dst = d)
    (hs : Region.noSelect ops = true) (hf : Region.free md ops listed i = true) (hr : (Region.ready md ops listed).contains i = true)
    (hQ : ∀ c a w, Q (.panic c) (a.put d undef) w → Q (.panic c) a w) (hw : Region.wanted oi (yielded ops a.tmps) = false) (hS : S w)
    (h : wpAnyH P md ops Q S fuel (listed.setIfInBounds i true) (a.put d undef) w) : wpAnyH P md ops Q S (fuel + 1) listed a w := by
  subst hd
  exact wpAnyH_take hi hs hf hr hQ (Or.inr ⟨hw, rfl⟩) hS h
theorem tk (i : Nat) (d : Option Tmp) {oi : Oper} (v : Value) {fuel : Nat} {listed : Array Bool} {a : Act} {w : World}
    (hy : ∀ w, S w → (execOp a.eval oi).run P w = .ok (.value v) w)
    (h : wpAnyH P md ops Q S fuel (listed.setIfInBounds i true) (a.put d v) w)
    (hi : ops[i]? = some oi := by rfl) (hd : oi.dst = d := by rfl) (hs : Region.noSelect ops = true := by kernel_rfl) (hf : Region.free md ops listed i = true := by kernel_rfl) (hr : (Region.ready md ops listed).contains i = true := by kernel_rfl)
    (hQ : ∀ c a w, Q (.panic c) (a.put d v) w → Q (.panic c) a w := by exact fun _ _ _ h => h) (hw : Region.wanted oi (yielded ops a.tmps) = true := by kernel_rfl) (hS : S w := by assumption) : wpAnyH P md ops Q S (fuel + 1) listed a w :=
  take_at i d hi hd hs hf hr hQ hw hy hS h
theorem dk (i : Nat) (d : Option Tmp) {oi : Oper} {fuel : Nat} {listed : Array Bool} {a : Act} {w : World}
    (h : wpAnyH P md ops Q S fuel (listed.setIfInBounds i true) (a.put d undef) w)
    (hi : ops[i]? = some oi := by rfl) (hd : oi.dst = d := by rfl) (hs : Region.noSelect ops = true := by kernel_rfl) (hf : Region.free md ops listed i = true := by kernel_rfl) (hr : (Region.ready md ops listed).contains i = true := by kernel_rfl)
    (hQ : ∀ c a w, Q (.panic c) (a.put d undef) w → Q (.panic c) a w := by exact fun _ _ _ h => h) (hw : Region.wanted oi (yielded ops a.tmps) = false := by kernel_rfl) (hS : S w := by assumption) : wpAnyH P md ops Q S (fuel + 1) listed a w :=
  drop_at i d hi hd hs hf hr hQ hw hS h
end
end Go.Proofs.YthmokdfigjffjaaGreatDoor
namespace Go.Proofs.YthmokdfigjffjaaGreatDoor
set_option linter.unusedVariables false
set_option linter.unusedSimpArgs false
open Go.RowKit Go.Lib

section
variable {P : Program}
theorem wp_gen {c : Code} {Q : Exit → Act → World → Prop} {a : Act} {w : World} (h : ∀ W, W = w → c.wp P Q a W) : c.wp P Q a w := h w rfl
theorem post_gen {fn : Func} {R : Ending → World → Prop} {e : Exit} {a : Act} {w : World} (h : ∀ W, W = w → bodyPost P fn R e a W) : bodyPost P fn R e a w := h w rfl
theorem calls_gen {f : FuncId} {asv : Array Value} {w : World} {Q : Ending → World → Prop} (h : ∀ W, W = w → Calls P f asv W Q) : Calls P f asv w Q := h w rfl
theorem any_eq {md : Region.Mode} {ops : Array Oper} {Q : Exit → Act → World → Prop} {S : World → Prop} {fuel : Nat} {listed : Array Bool} {a : Act} {w : World} (hS : S w)
    (h : ∀ W, W = w → S W → wpAnyH P md ops Q S fuel listed a W) : wpAnyH P md ops Q S fuel listed a w := h w rfl hS
theorem k_gen {S : World → Prop} {R K : Act → World → Prop} {a : Act} {w : World} (hK : Shut (∀ a w, S w → (S w → R a w) → K a w)) (h : ∀ W, W = w → S W ∧ R a W) : K a w :=
  hK.out a w (h w rfl).1 (fun _ => (h w rfl).2)
theorem k_now {S : World → Prop} {R K : Act → World → Prop} {a : Act} {w : World} (hK : Shut (∀ a w, S w → (S w → R a w) → K a w)) (hS : S w) (h : R a w) : K a w :=
  hK.out a w hS (fun _ => h)
end

theorem hid_now {S : Nat → Prop} {a b c : World} (h : Hid (Fp S a b)) (hp : NoW b c) : Hid (Fp S a c) := hid (h.out.trans hp (fun _ _ h => h.elim))
theorem hid_blk {w w' : World} {g : Nat} {o : Obj} (h : Hid (w.heap[g]? = some o)) (hp : NoW w w') : Hid (w'.heap[g]? = some o) := hid ((hp.block _ (Array.getElem?_eq_some_iff.1 h.out).1 id).trans h.out)
theorem hid_blkS {S : Nat → Prop} {w w' : World} {g : Nat} {o : Obj} (h : Hid (w.heap[g]? = some o)) (hp : Fp S w w') (hn : ¬ S g) : Hid (w'.heap[g]? = some o) := hid ((hp.block _ (Array.getElem?_eq_some_iff.1 h.out).1 hn).trans h.out)
theorem hid_lt {w : World} {g : Nat} {o : Obj} (h : Hid (w.heap[g]? = some o)) : g < w.heap.size := (Array.getElem?_eq_some_iff.1 h.out).1
theorem cell_at {w : World} {g : Nat} {cs : List Value} {T : TypeId} {fr : Nat × Nat} (h : Hid (w.heap[g]? = some (.cells cs.toArray T fr))) (j : Nat) {v : Value} (hj : cs[j]? = some v) : w.cell? ⟨g, j, none⟩ = some v := by
  simp only [World.cell?, h.out]; simpa using hj
theorem froz_at {w : World} {g : Nat} {cs : Array Value} {T : TypeId} (h : Hid (w.heap[g]? = some (.cells cs T (0, 0)))) (j : Nat) : w.frozen? ⟨g, j, none⟩ = false := by
  simp [World.frozen?, h.out]
theorem new_blk {w W : World} {o : Obj} (h : W = w.alloc o) : Hid (W.heap[w.heap.size]? = some o) := by subst h; exact hid (heap_new w o _ rfl)
theorem new_now {w W : World} {o : Obj} (h : W = w.alloc o) : NoW w W := by subst h; exact (Fp.refl _ _).alloc _
theorem set_blk {w W : World} {g i : Nat} {cs : Array Value} {T : TypeId} {v : Value} (h : W = w.setCell ⟨g, i, none⟩ v) (hb : Hid (w.heap[g]? = some (.cells cs T (0, 0)))) : Hid (W.heap[g]? = some (.cells (cs.setIfInBounds i v) T (0, 0))) := by
  subst h; exact hid (heap_set w g i cs T v hb.out)
theorem set_now {w W : World} {g i : Nat} {v : Value} (h : W = w.setCell ⟨g, i, none⟩ v) : Fp (fun k => k = g) w W := by
  subst h; exact (Fp.refl (fun k => k = g) w).setCell (p := ⟨g, i, none⟩) (Or.inr rfl) v
theorem noW_drew {w W : World} (h : W = w.drew) : NoW w W := by subst h; exact (Fp.refl _ _).drew
theorem hid_ge {S : Nat → Prop} {a b : World} (h : Hid (Fp S a b)) : a.heap.size ≤ b.heap.size := h.out.size
end Go.Proofs.YthmokdfigjffjaaGreatDoor

namespace Go.Proofs.YthmokdfigjffjaaGreatDoor
set_option linter.unusedVariables false
set_option linter.unusedSimpArgs false
open Go.RowKit
noncomputable section

/-- A cell's value; a pointer, or slice, into a known block names its place in the list of known blocks. -/
inductive CV where
  | v (x : Value)
  | b (x : Bool)
  | tt
  | ff
  | i (k : IntKind) (n : Int)
  | p (j b o : Nat)
  | q (j b u o : Nat)
  | s (j b o l c : Nat)
  | gs (j b o z l m x : Nat)
  | f (g : Nat) (fs cs : List (Nat × Nat × Nat))
  | m (j b : Nat)
  | y (j b : Nat)
def CV.den : CV → Value
  | .v x => x
  | .b x => .bool x
  | .tt => .bool true
  | .ff => .bool false
  | .i k n => .int k n
  | .p _ g o => .pointer (some ⟨g, o, none⟩)
  | .q _ g u o => .pointer (some ⟨g, u + o, none⟩)
  | .s _ g o l c => .slice (some ⟨g, o, none⟩) l c
  | .gs _ g o _ l k x => .slice (some ⟨g, o, none⟩) l (k + x)
  | .f g fs cs => .func (.func g) (fs.map fun x => Value.pointer (some ⟨x.2.1, x.2.2, none⟩)).toArray (cs.map fun x => Value.pointer (some ⟨x.2.1, x.2.2, none⟩)).toArray
  | .m _ g => .map (some g)
  | .y _ g => .func (.yield g) #[] #[]
inductive EV where
  | c (x : CV)
  | a (l : List CV)
def EV.den : EV → Value
  | .c x => x.den
  | .a l => .agg (l.map CV.den).toArray
inductive SV where
  | e (x : EV)
  | t (l : List EV)
def SV.den : SV → Value
  | .e x => x.den
  | .t l => .tuple (l.map EV.den).toArray

def ofCV : Value → CV
  | .bool x => .b x
  | .int k n => .i k n
  | x => .v x
def ofEV : Value → EV
  | .agg cs => .a (cs.toList.map ofCV)
  | x => .c (ofCV x)
def ofSV : Value → SV
  | .tuple vs => .t (vs.toList.map ofEV)
  | x => .e (ofEV x)
/-- A constant's. -/
def cvC : Value → CV
  | .bool true => .tt
  | .bool false => .ff
  | x => ofCV x
theorem den_ofCV (x : Value) : (ofCV x).den = x := by cases x <;> rfl
theorem den_cvC (x : Value) : (cvC x).den = x := by
  unfold cvC; split
  · rfl
  · rfl
  · exact den_ofCV x
theorem map_same {α : Type} {f : α → α} (h : ∀ x, f x = x) (l : List α) : l.map f = l := by
  have : f = id := funext h
  rw [this, List.map_id]
theorem den_ofEV (x : Value) : (ofEV x).den = x := by
  cases x
  case agg cs =>
    show Value.agg ((cs.toList.map ofCV).map CV.den).toArray = _
    rw [List.map_map, map_same (f := CV.den ∘ ofCV) den_ofCV]
  all_goals rfl
theorem den_ofSV (x : Value) : (ofSV x).den = x := by
  cases x
  case tuple cs =>
    show Value.tuple ((cs.toList.map ofEV).map EV.den).toArray = _
    rw [List.map_map, map_same (f := EV.den ∘ ofEV) den_ofEV]
  all_goals first | rfl | exact den_ofEV (.agg _)

/-- Keys and values of a map, laid flat (size 0: one cell that is no struct, n + 1: so many). -/
def cN (s : Nat) : Nat := bif Nat.beq s 0 then 1 else s - 1
def cV (s : Nat) (l : List CV) : Value :=
  bif Nat.beq s 0 then (match l with
    | [x] => x.den
    | _ => undef) else .agg (l.map CV.den).toArray
def entsF (ks vs : Nat) : Nat → List CV → List (Value × Value)
  | 0, _ => []
  | _ + 1, [] => []
  | n + 1, x :: l => (cV ks ((x :: l).take (cN ks)), cV vs (((x :: l).drop (cN ks)).take (cN vs))) :: entsF ks vs n ((x :: l).drop (cN ks + cN vs))
def entsOf (ks vs : Nat) (cs : List CV) : List (Value × Value) := entsF ks vs cs.length cs
/-- What is known of a frame: the newest first. -/
abbrev Fr := List (Nat × SV)
/-- (By the recursor: the kernel is quicker so.) -/
def look (F : Fr) (t : Nat) : Option SV := List.rec none (fun x _ ih => bif Nat.beq x.1 t then some x.2 else ih) F
theorem look_nil (t : Nat) : look [] t = none := rfl
theorem look_cons (u : Nat) (x : SV) (r : Fr) (t : Nat) : look ((u, x) :: r) t = bif Nat.beq u t then some x else look r t := rfl
/-- A frame laid flat: its slots (of one cell, or of so many), and their cells. -/
def unf : List (Nat × Option Nat) → List CV → Fr
  | [], _ => []
  | (_, none) :: _, [] => []
  | (t, none) :: sh, x :: cs => (t, .e (.c x)) :: unf sh cs
  | (t, some k) :: sh, cs => (t, .e (.a (cs.take k))) :: unf sh (cs.drop k)
theorem unf_mem : ∀ {sh : List (Nat × Option Nat)} {cs : List CV} {t : Nat} {x : SV}, look (unf sh cs) t = some x → (∃ y ∈ cs, x = .e (.c y)) ∨ ∃ l : List CV, x = .e (.a l) ∧ ∀ y ∈ l, y ∈ cs
  | [], cs, t, x, h => by simp [unf, look_nil] at h
  | (_, none) :: _, [], t, x, h => by simp [unf, look_nil] at h
  | (u, none) :: sh, y :: cs, t, x, h => by
    simp only [unf, look_cons] at h
    rcases hb : Nat.beq u t with _ | _
    · rw [hb] at h
      rcases unf_mem h with ⟨z, h1, h2⟩ | ⟨l, h1, h2⟩
      · exact Or.inl ⟨z, List.mem_cons_of_mem _ h1, h2⟩
      · exact Or.inr ⟨l, h1, fun z hz => List.mem_cons_of_mem _ (h2 z hz)⟩
    · rw [hb] at h
      exact Or.inl ⟨y, List.mem_cons_self .., (by simpa using h.symm)⟩
  | (u, some k) :: sh, cs, t, x, h => by
    simp only [unf, look_cons] at h
    rcases hb : Nat.beq u t with _ | _
    · rw [hb] at h
      rcases unf_mem h with ⟨z, h1, h2⟩ | ⟨l, h1, h2⟩
      · exact Or.inl ⟨z, List.mem_of_mem_drop h1, h2⟩
      · exact Or.inr ⟨l, h1, fun z hz => List.mem_of_mem_drop (h2 z hz)⟩
    · rw [hb] at h
      exact Or.inr ⟨cs.take k, (by simpa using h.symm), fun z hz => List.mem_of_mem_take hz⟩
/-- A range over a function: whose activation it is of, its frame's size and slots, what a round does. -/
structure LD where
  f : Nat
  n : Nat
  sh : List (Nat × Option Nat)
  ps : List Nat
  as_ : Code
  bd : Code
  db : Nat
/-- How such a range is, az a number: ready, busy, left by a return, left by an exit. -/
def stL : Int → LoopState
  | .ofNat 0 => .ready
  | .ofNat 1 => .busy
  | _ => .done
def pdL : Int → Option Code
  | .ofNat 2 => some .ret
  | .ofNat (n + 3) => some (.exit n)
  | _ => none
/-- What a known block is: the whole of it (of a type); a row of its cells from u on; its first cells, and that there are so many; or a map. -/
inductive BK where
  | obj (T : TypeId)
  | row
  | grow (N : Nat)
  | map (ks vs : Nat)
  | defr
  | loop (ld : LD)
  | pin (t : TypeId) (o : Obj) (z : CV)
def BK.isC : BK → Bool
  | .map _ _ => false
  | .pin _ _ _ => false
  | .defr => false
  | .loop _ => false
  | _ => true
def BK.isO : BK → Bool
  | .obj _ => true
  | _ => false
structure Blk where
  b : Nat
  u : Nat
  cs : List CV
  T : BK
abbrev Hp := List Blk
/-- Nothing is known of it any more. -/
def Blk.void (e : Blk) : Prop := e.T = .row ∧ e.cs = []
/-- What a map of bytes has, its entries one by one. -/
def pinR : List CV → Nat → Option CV
  | .i _ (.ofNat a) :: v :: r, m => bif Nat.beq a m then some v else pinR r m
  | _, _ => none
def pinV (z : CV) : Bool → Option CV → SV
  | true, some v => .t [.c v, .c .tt]
  | true, none => .t [.c z, .c .ff]
  | false, some v => .e (.c v)
  | false, none => .e (.c z)
def Blk.sat (e : Blk) (w : World) : Prop :=
  match e.T with
  | .obj T => w.heap[e.b]? = some (.cells (e.cs.map CV.den).toArray T (0, 0)) ∧ e.u = 0
  | .row => ∀ k v, (e.cs.map CV.den)[k]? = some v → w.cell? ⟨e.b, e.u + k, none⟩ = some v ∧ w.frozen? ⟨e.b, e.u + k, none⟩ = false
  | .grow N => (∀ k v, (e.cs.map CV.den)[k]? = some v → w.cell? ⟨e.b, e.u + k, none⟩ = some v ∧ w.frozen? ⟨e.b, e.u + k, none⟩ = false) ∧ e.u = 0 ∧ e.cs.length ≤ N ∧ ∀ k, k < N → (w.cell? ⟨e.b, k, none⟩).isSome = true ∧ w.frozen? ⟨e.b, k, none⟩ = false
  | .map ks vs => MapIs w e.b (entsOf ks vs e.cs)
  | .pin t o z => w.heap[e.b]? = some o ∧ ∀ W : World, W.heap[e.b]? = some o → ∀ (m : Nat) (c : Bool), m < 256 → (Instr.lookup t (.map (some e.b)) (.int .u8 m) c).run Tryz.prog W = .ok (pinV z c (pinR e.cs m)).den W
  | .defr => w.heap[e.b]? = some (.deferred (some []))
  | .loop ld => ∃ (k : IntKind) (st : Int) (cs : List CV) (tmps : Array Value) (fn : Nat), e.cs = .i k st :: cs ∧ w.heap[e.b]? = some (.loop ⟨stL st, pdL st, fn, tmps, ld.ps.toArray, ld.as_, ld.bd, ld.db⟩) ∧ tmps.size = ld.n ∧ ∀ t x, look (unf ld.sh cs) t = some x → tmps[t]? = some x.den
theorem Blk.void_sat {e : Blk} (h : e.void) (w : World) : e.sat w := by
  obtain ⟨b, u, cs, T⟩ := e
  obtain ⟨rfl, rfl⟩ : T = .row ∧ cs = [] := h
  intro k v hk
  simp at hk
/-- It names known blocks. -/
def CV.ok (L : Hp) : CV → Prop
  | .p j g _ => ∃ e : Blk, L[j]? = some e ∧ e.b = g ∧ e.u = 0
  | .q j g u _ => ∃ e : Blk, L[j]? = some e ∧ e.b = g ∧ e.u = u
  | .s j g _ _ _ => ∃ e : Blk, L[j]? = some e ∧ e.b = g ∧ e.u = 0
  | .gs j g o z l k x => ∃ e : Blk, L[j]? = some e ∧ e.b = g ∧ e.u = 0 ∧ (e.void ∨ ∃ N, e.T = .grow N ∧ o + (k + x) * z ≤ N) ∧ l ≤ k
  | .f _ fs cs => ∀ x ∈ fs ++ cs, ∃ e : Blk, L[x.1]? = some e ∧ e.b = x.2.1 ∧ e.u = 0
  | .m j g => ∃ e : Blk, L[j]? = some e ∧ e.b = g
  | .y j g => ∃ e : Blk, L[j]? = some e ∧ e.b = g
  | .v x => x.oneCell' = true
  | _ => True
def EV.ok (L : Hp) : EV → Prop
  | .c x => x.ok L
  | .a l => ∀ x ∈ l, x.ok L
def SV.ok (L : Hp) : SV → Prop
  | .e x => x.ok L
  | .t l => ∀ x ∈ l, x.ok L
/-- The blocks stay where they are. -/
def Ext (L L' : Hp) : Prop := ∀ (j : Nat) (e : Blk), L[j]? = some e → ∃ e' : Blk, L'[j]? = some e' ∧ e'.b = e.b ∧ e'.u = e.u ∧ (e'.void ∨ e'.T = e.T ∧ (e.void → e'.void))
theorem Ext.refl (L : Hp) : Ext L L := fun _ e h => ⟨e, h, rfl, rfl, Or.inr ⟨rfl, id⟩⟩
theorem Ext.trans {A B C : Hp} (h : Ext A B) (k : Ext B C) : Ext A C := fun j e he => by
  obtain ⟨e1, h1, h2, h3, h4⟩ := h j e he
  obtain ⟨e2, k1, k2, k3, k4⟩ := k j e1 h1
  refine ⟨e2, k1, k2.trans h2, k3.trans h3, ?_⟩
  rcases k4 with k4 | ⟨k4, k5⟩
  · exact Or.inl k4
  · rcases h4 with h4 | ⟨h4, h5⟩
    · exact Or.inl (k5 h4)
    · exact Or.inr ⟨k4.trans h4, fun q => k5 (h5 q)⟩
theorem CV.ok.ext {L L' : Hp} {x : CV} (h : x.ok L) (k : Ext L L') : x.ok L' := by
  cases x with
  | p j b o => obtain ⟨e, h1, rfl, h3⟩ := h; obtain ⟨e', k1, k2, k3, _⟩ := k _ _ h1; exact ⟨e', k1, k2, k3.trans h3⟩
  | q j b u o => obtain ⟨e, h1, rfl, rfl⟩ := h; obtain ⟨e', k1, k2, k3, _⟩ := k _ _ h1; exact ⟨e', k1, k2, k3⟩
  | s j b o l c => obtain ⟨e, h1, rfl, h3⟩ := h; obtain ⟨e', k1, k2, k3, _⟩ := k _ _ h1; exact ⟨e', k1, k2, k3.trans h3⟩
  | gs j b o z l m x =>
    obtain ⟨e, h1, rfl, h3, h4, h5⟩ := h
    obtain ⟨e', k1, k2, k3, k4⟩ := k _ _ h1
    refine ⟨e', k1, k2, k3.trans h3, ?_, h5⟩
    rcases k4 with k4 | ⟨k4, k5⟩
    · exact Or.inl k4
    · rcases h4 with h4 | ⟨N, h4, h6⟩
      · exact Or.inl (k5 h4)
      · exact Or.inr ⟨N, k4.trans h4, h6⟩
  | f g fs cs =>
    intro x hx
    obtain ⟨e, h1, h2, h3⟩ := h x hx
    obtain ⟨e', k1, k2, k3, _⟩ := k _ _ h1
    exact ⟨e', k1, k2.trans h2, k3.trans h3⟩
  | m j b => obtain ⟨e, h1, rfl⟩ := h; obtain ⟨e', k1, k2, k3, _⟩ := k _ _ h1; exact ⟨e', k1, k2⟩
  | y j b => obtain ⟨e, h1, rfl⟩ := h; obtain ⟨e', k1, k2, k3, _⟩ := k _ _ h1; exact ⟨e', k1, k2⟩
  | v x => exact h
  | _ => trivial
theorem EV.ok.ext {L L' : Hp} {x : EV} (h : x.ok L) (k : Ext L L') : x.ok L' := by
  cases x with
  | c x => exact CV.ok.ext h k
  | a l => exact fun x hx => (h x hx).ext k
theorem SV.ok.ext {L L' : Hp} {x : SV} (h : x.ok L) (k : Ext L L') : x.ok L' := by
  cases x with
  | e x => exact EV.ok.ext h k
  | t l => exact fun x hx => (h x hx).ext k
theorem ok_ofCV (L : Hp) {x : Value} (h : x.oneCell' = true) : (ofCV x).ok L := by cases x <;> first | trivial | exact h
theorem ok_cvC (L : Hp) {x : Value} (h : x.oneCell' = true) : (cvC x).ok L := by
  unfold cvC; split
  · trivial
  · trivial
  · exact ok_ofCV L h
/-- A value whose parts are cells. -/
def wfE : Value → Bool
  | .agg cs => cs.toList.all Value.oneCell'
  | .tuple _ => false
  | _ => true
def wfV : Value → Bool
  | .tuple vs => vs.toList.all wfE
  | x => wfE x
theorem ok_ofEV (L : Hp) {x : Value} (h : wfE x = true) : (ofEV x).ok L := by
  cases x
  case agg cs => intro y hy; obtain ⟨z, hz, rfl⟩ := List.mem_map.1 hy; exact ok_ofCV L (List.all_eq_true.1 h z hz)
  case tuple => simp [wfE] at h
  all_goals first | trivial | rfl
theorem ok_ofSV (L : Hp) {x : Value} (h : wfV x = true) : (ofSV x).ok L := by
  cases x
  case tuple cs => intro y hy; obtain ⟨z, hz, rfl⟩ := List.mem_map.1 hy; exact ok_ofEV L (List.all_eq_true.1 h z hz)
  case agg cs => exact ok_ofEV L (x := .agg cs) h
  all_goals first | trivial | rfl

/-- Two known blocks are not one, unless nothing is known of one of them. -/
def Apart (L : Hp) : Prop := ∀ (i j : Nat) (e f : Blk), L[i]? = some e → L[j]? = some f → i ≠ j → e.b = f.b → e.void ∨ f.void
theorem Apart.of {L : Hp} (h : (L.map Blk.b).Nodup) : Apart L := fun i j e f hi hj hij hb => by
  obtain ⟨l1, e1⟩ := List.getElem?_eq_some_iff.1 hi
  obtain ⟨l2, e2⟩ := List.getElem?_eq_some_iff.1 hj
  refine absurd ((List.getElem_inj (xs := L.map Blk.b) (h₀ := by simpa using l1) (h₁ := by simpa using l2) h).1 ?_) hij
  simp [e1, e2, hb]
theorem Apart.nil : Apart [] := fun i j e f h => by simp at h
/-- The state of the heap: known blocks; what else may have been written (S) since the world w0. -/
structure Hs where
  L : Hp
  S : Nat → Prop
  w0 : World
structure St (σ : Hs) (w : World) : Prop where
  sat : ∀ e ∈ σ.L, e.sat w
  ok : ∀ e ∈ σ.L, ∀ x ∈ e.cs, x.ok σ.L
  nd : Apart σ.L
  lt : ∀ e ∈ σ.L, e.b < w.heap.size
  fp : Fp (fun k => σ.S k ∨ ∃ e ∈ σ.L, e.b = k) σ.w0 w

/-- A frame's size, and its deferred calls. -/
structure Nz where
  n : Nat
  ds : List Deferred
structure FrOk (n : Nz) (a : Act) (L : Hp) (F : Fr) : Prop where
  size : a.tmps.size = n.n
  defers : a.defers = n.ds
  at_ : ∀ t x, look F t = some x → a.tmps[t]? = some x.den ∧ x.ok L
theorem FrOk.ext {n : Nz} {a : Act} {L L' : Hp} {F : Fr} (h : FrOk n a L F) (k : Ext L L') : FrOk n a L' F :=
  ⟨h.size, h.defers, fun t x hx => ⟨(h.at_ t x hx).1, (h.at_ t x hx).2.ext k⟩⟩
def putF (F : Fr) (d : Option Nat) (x : SV) : Fr :=
  match d with
  | some d => (d, x) :: F
  | none => F
def inB (n : Nat) : Option Nat → Bool
  | some d => Nat.blt d n
  | none => true
theorem FrOk.put {n : Nz} {a : Act} {L : Hp} {F : Fr} (h : FrOk n a L F) {d : Option Nat} (hd : inB n.n d = true) {x : SV} (hx : x.ok L) : FrOk n (a.put d x.den) L (putF F d x) := by
  cases d with
  | none => exact h
  | some d =>
    have hlt : d < n.n := by simpa [inB, Nat.blt_eq] using hd
    refine ⟨by simp [Act.put, h.size], h.defers, fun t y hy => ?_⟩
    simp only [putF, look_cons] at hy
    rcases hb : Nat.beq d t with _ | _
    · rw [hb] at hy
      have hne : d ≠ t := fun e => by subst e; simp at hb
      have := h.at_ t y hy
      simpa [Act.put, Array.getElem?_setIfInBounds_ne hne] using this
    · rw [hb] at hy
      obtain rfl : d = t := by simpa using hb
      obtain rfl : x = y := by simpa using hy
      exact ⟨by simp [Act.put, h.size, hlt], hx⟩

/-- An operand's value, az far az it is known. -/
def evO (F : Fr) : Operand → Option SV
  | .tmp t => look F t
  | .const (.bool true) => some (.e (.c .tt))
  | .const (.bool false) => some (.e (.c .ff))
  | .const v => bif wfV v then some (ofSV v) else none
  | .global g => some (.e (.c (.v (.pointer (some ⟨g, 0, none⟩)))))
  | .func f => some (.e (.c (.v (.func (.func f) #[] #[]))))
theorem evO_ok {n : Nz} {a : Act} {L : Hp} {F : Fr} (h : FrOk n a L F) {x : Operand} {y : SV} (hy : evO F x = some y) : a.eval x = y.den ∧ y.ok L := by
  unfold evO at hy
  split at hy
  · have := h.at_ _ y hy
    refine ⟨?_, this.2⟩
    simp [Act.eval, Array.getD_eq_getD_getElem?, this.1]
  · obtain rfl := Option.some.inj hy; exact ⟨rfl, trivial⟩
  · obtain rfl := Option.some.inj hy; exact ⟨rfl, trivial⟩
  · rename_i v _ _
    rcases hw : wfV v with _ | _
    · rw [hw] at hy; cases hy
    rw [hw] at hy
    obtain rfl := Option.some.inj hy
    exact ⟨(den_ofSV v).symm, ok_ofSV L hw⟩
  · obtain rfl := Option.some.inj hy; exact ⟨rfl, rfl⟩
  · obtain rfl := Option.some.inj hy; exact ⟨rfl, rfl⟩
end
end Go.Proofs.YthmokdfigjffjaaGreatDoor

namespace Go.Proofs.YthmokdfigjffjaaGreatDoor
set_option linter.unusedVariables false
set_option linter.unusedSimpArgs false
open Go.RowKit
noncomputable section

inductive TD where
  | int (k : IntKind)
  | bool
  | str
  | ptr (e : Nat)
  | slice (e : Nat)
  | map (k e : Nat)
  | struct (c : Bool) (fs : List (Nat × Nat × Nat × Nat))
  | array (n e : Nat)
  | func
  | iface
  | other
structure TR where
  d : TD
  size : Nat
  zero : List CV
def aggN (P : Program) (t : TypeId) : Nat :=
  match P.underlying t with
  | none => 0
  | some (.struct _) => 2
  | some (.array _ _) => 2
  | some _ => 1
def vd (P : Program) (t : TypeId) : TD :=
  match P.underlying t with
  | some (.int k) => .int k
  | some .bool => .bool
  | some .string => .str
  | some (.pointer e) => .ptr e
  | some (.slice e) => .slice e
  | some (.map k e) => .map k e
  | some (.struct fs) => .struct (!P.stoodInHeld t && !P.eqGuardType P.depth t && fs.toList.all (fun f => f.name != "_")) (fs.toList.map fun f => (f.offset, (match P.info? f.type with | some i => i.size | none => 0), aggN P f.type, f.type))
  | some (.array n e) => .array n e
  | some (.func _ _ _) => .func
  | some (.interface _) => .iface
  | _ => .other
/-- (Of a type of many cells the first value is not told.) -/
def vr (P : Program) (t : TypeId) : Option TR :=
  match P.info? t with
  | some i => bif Nat.ble i.size 1024 then (match i.zero with
    | some z => bif z.cells.toList.all Value.oneCell' && Nat.beq z.cells.size i.size then some ⟨vd P t, i.size, z.cells.toList.map cvC⟩ else none
    | none => none) else some ⟨vd P t, i.size, []⟩
  | none => none
abbrev Tbx := List (Nat × TR)
def tbl (L : Tbx) (t : Nat) : Option TR := List.rec none (fun x _ ih => bif Nat.beq x.1 t then some x.2 else ih) L
theorem tbl_nil (t : Nat) : tbl [] t = none := rfl
theorem tbl_cons (u : Nat) (x : TR) (r : Tbx) (t : Nat) : tbl ((u, x) :: r) t = bif Nat.beq u t then some x else tbl r t := rfl
def TbOk (P : Program) (tb : Tbx) : Prop := tb.map (fun x => vr P x.1) = tb.map (fun x => some x.2)
theorem tbl_ok {P : Program} {tb : Tbx} (h : TbOk P tb) {t : Nat} {r : TR} (hr : tbl tb t = some r) : vr P t = some r := by
  unfold TbOk at h
  induction tb with
  | nil => simp [tbl_nil] at hr
  | cons x xs ih =>
    obtain ⟨u, y⟩ := x
    simp only [List.map_cons, List.cons.injEq] at h
    simp only [tbl_cons] at hr
    rcases hb : Nat.beq u t with _ | _
    · rw [hb] at hr; exact ih h.2 hr
    · rw [hb] at hr
      obtain rfl : u = t := by simpa using hb
      obtain rfl : y = r := by simpa using hr
      exact h.1
theorem vr_info {P : Program} {t : TypeId} {r : TR} (h : vr P t = some r) : ∃ i, P.info? t = some i ∧ i.size = r.size ∧ vd P t = r.d ∧ (∀ L : Hp, ∀ x ∈ r.zero, x.ok L) ∧ (Nat.beq r.zero.length r.size = true → ∃ z, i.zero = some z ∧ z.cells.toList = r.zero.map CV.den) := by
  unfold vr at h
  rcases hi : P.info? t with _ | i
  · rw [hi] at h; cases h
  rw [hi] at h
  simp only at h
  rcases hb : Nat.ble i.size 1024 with _ | _
  · rw [hb] at h
    obtain rfl := Option.some.inj h
    refine ⟨i, rfl, rfl, rfl, (fun L x hx => by cases hx), fun q => ?_⟩
    have q : 0 = i.size := by simpa using q
    rw [← q] at hb
    cases hb
  rw [hb] at h
  simp only [cond_true] at h
  rcases hz : i.zero with _ | z
  · simp [hz] at h
  rcases ho0 : z.cells.toList.all Value.oneCell' && Nat.beq z.cells.size i.size with _ | _
  · simp only [hz] at h; rw [ho0] at h; cases h
  simp only [hz, ho0, cond_true, Option.some.injEq] at h
  subst h
  simp only [Bool.and_eq_true] at ho0
  obtain ⟨ho, hlen⟩ := ho0
  refine ⟨i, rfl, rfl, rfl, fun L x hx => ?_, fun _ => ⟨z, hz, ?_⟩⟩
  · obtain ⟨y, hy, rfl⟩ := List.mem_map.1 hx
    exact ok_cvC L (List.all_eq_true.1 ho y hy)
  · show _ = (z.cells.toList.map cvC).map CV.den
    rw [List.map_map, map_same (f := CV.den ∘ cvC) den_cvC]
theorem run_sizeOf {P : Program} {t : TypeId} {r : TR} (h : vr P t = some r) (w : World) : (sizeOf t).run P w = .ok r.size w := by
  obtain ⟨i, hi, hs, _⟩ := vr_info h
  simp [sizeOf, typeInfo, hi, hs]
theorem und_int {P : Program} {t : TypeId} {k : IntKind} (h : vd P t = .int k) : P.underlying t = some (.int k) := by
  unfold vd at h; split at h <;> first | cases h; assumption | cases h
theorem und_bool {P : Program} {t : TypeId} (h : vd P t = .bool) : P.underlying t = some .bool := by
  unfold vd at h; split at h <;> first | cases h; assumption | cases h
theorem und_str {P : Program} {t : TypeId} (h : vd P t = .str) : P.underlying t = some .string := by
  unfold vd at h; split at h <;> first | cases h; assumption | cases h
theorem und_ptr {P : Program} {t e : TypeId} (h : vd P t = .ptr e) : P.underlying t = some (.pointer e) := by
  unfold vd at h; split at h <;> first | cases h; assumption | cases h
theorem und_slice {P : Program} {t e : TypeId} (h : vd P t = .slice e) : P.underlying t = some (.slice e) := by
  unfold vd at h; split at h <;> first | cases h; assumption | cases h
theorem und_array {P : Program} {t e : TypeId} {n : Nat} (h : vd P t = .array n e) : P.underlying t = some (.array n e) := by
  unfold vd at h; split at h <;> first | cases h; assumption | cases h
theorem und_map {P : Program} {t k e : TypeId} (h : vd P t = .map k e) : P.underlying t = some (.map k e) := by
  unfold vd at h; split at h <;> first | cases h; assumption | cases h
theorem und_struct {P : Program} {t : TypeId} {c : Bool} {fs : List (Nat × Nat × Nat × Nat)} (h : vd P t = .struct c fs) :
    ∃ a, P.underlying t = some (.struct a) ∧ fs = (a.toList.map fun f => (f.offset, (match P.info? f.type with | some i => i.size | none => 0), aggN P f.type, f.type)) ∧ c = (!P.stoodInHeld t && !P.eqGuardType P.depth t && a.toList.all (fun f => f.name != "_")) := by
  unfold vd at h
  split at h <;> first | (cases h; done) | skip
  rename_i a ha
  cases h
  exact ⟨a, ha, rfl, rfl⟩
theorem fld {P : Program} {a : Array Field} {f o s g t : Nat} (h : (a.toList.map fun f => (f.offset, (match P.info? f.type with | some i => i.size | none => 0), aggN P f.type, f.type))[f]? = some (o, s + 1, g, t)) :
    ∃ x, a[f]? = some x ∧ x.offset = o ∧ (∀ w, (sizeOf x.type).run P w = .ok (s + 1) w) ∧ aggN P x.type = g := by
  rw [List.getElem?_map] at h
  rcases hx : a.toList[f]? with _ | x
  · simp [hx] at h
  · rw [hx] at h
    simp only [Option.map_some, Option.some.injEq, Prod.mk.injEq] at h
    refine ⟨x, by simpa using hx, h.1, fun w => ?_, h.2.2.1⟩
    rcases hi : P.info? x.type with _ | i
    · rw [hi] at h; simp at h
    · rw [hi] at h; simp [sizeOf, typeInfo, hi, h.2.1]
theorem run_isAgg {P : Program} {t : TypeId} (w : World) : (aggN P t = 1 → (isAgg t).run P w = .ok false w) ∧ (aggN P t = 2 → (isAgg t).run P w = .ok true w) := by
  unfold aggN isAgg underlying
  rcases hu : P.underlying t with _ | d
  · simp
  · constructor
    · intro h
      cases d <;> simp_all
    · intro h
      cases d <;> simp_all
def TD.agg : TD → Bool
  | .struct _ _ => true
  | .array _ _ => true
  | _ => false
/-- A description that tells whether the type is one of several cells. -/
def TD.sure : TD → Bool
  | .other => false
  | _ => true
theorem agg_of {P : Program} {t : TypeId} {d : TD} (h : vd P t = d) (hs : d.sure = true) : aggN P t = if d.agg then 2 else 1 := by
  subst h
  unfold vd aggN at *
  rcases hu : P.underlying t with _ | x
  · rw [hu] at hs; simp [TD.sure] at hs
  · rw [hu] at hs
    cases x <;> simp_all [TD.sure, TD.agg]
end
end Go.Proofs.YthmokdfigjffjaaGreatDoor
