/- Texts of this proof, merged: Base Num Ad EnN EnT Take EnA AdL EpN EpM EpP EpY EnB EnC. -/
import Derived.WalkKit
import Derived.WalkSpells
import Derived.WalkLawsBesides
import Derived.Deep.QuietTactic
import Derived.BigQuiet
import Derived.DeepKeys4
import Derived.Maps.Own
import Derived.WalkSmall
import Derived.StillTailTactics
import Derived.Lib.Hide
import Derived.Deep.LoopGhost
import Derived.Laws.AppendOwnNone
import Derived.Lib.QuietBelow
import Derived.Deep.RegionWith
import Derived.BigRegion
import Derived.Deep.DeepCutAuto
import Derived.Lib.ParseIntB
import Derived.Lib.ItoaNum
import Derived.Test.YtdmbjndhdldggaaDoorShelf
import Derived.Lib.AppendIntMem
import Derived.Lib.AtoiErrMem
import Derived.Lib.ItoaLen
import Derived.Shelf.Strconv.Itoa3
import Derived.Deep.RegionHeld3
import Derived.Lib.SplitLaws
import Derived.Lib.IndexBytes
import Derived.Laws.BitsAllLaws
import Derived.Laws.StructEq
namespace Go.Proofs.YtdmbjndhdldggaaDoor
set_option linter.unusedVariables false
set_option linter.unusedSimpArgs false
open Go.RowKit
open Go.ChangeMaps (setBlock)
open Go.WideMaps (KeyLaw)

/-- What may have been written: the blocks of S, and new ones. -/
structure Fp (S : Nat → Prop) (w w' : World) : Prop where
  os : w'.os = w.os
  tape : w'.tape = w.tape
  output : w'.output = w.output
  size : w.heap.size ≤ w'.heap.size
  block : ∀ k, k < w.heap.size → ¬ S k → w'.heap[k]? = w.heap[k]?

theorem Fp.refl (S : Nat → Prop) (w : World) : Fp S w w := ⟨rfl, rfl, rfl, Nat.le_refl _, fun _ _ _ => rfl⟩
theorem Fp.trans {S T : Nat → Prop} {a b c : World} (h : Fp S a b) (k : Fp T b c) (hs : ∀ i, i < a.heap.size → T i → S i) : Fp S a c :=
  ⟨k.os.trans h.os, k.tape.trans h.tape, k.output.trans h.output, Nat.le_trans h.size k.size,
   fun i hi hn => (k.block i (Nat.lt_of_lt_of_le hi h.size) (fun ht => hn (hs i hi ht))).trans (h.block i hi hn)⟩
theorem Fp.mono {S T : Nat → Prop} {a b : World} (h : Fp S a b) (hs : ∀ i, i < a.heap.size → S i → T i) : Fp T a b :=
  ⟨h.os, h.tape, h.output, h.size, fun i hi hn => h.block i hi (fun ht => hn (hs i hi ht))⟩
theorem Fp.alloc {S : Nat → Prop} {a w : World} (h : Fp S a w) (o : Obj) : Fp S a (w.alloc o) :=
  ⟨h.os, h.tape, h.output, by have := h.size; simp; omega, fun k hk hn => (Below.heap_alloc _ _ _ (Nat.lt_of_lt_of_le hk h.size)).trans (h.block k hk hn)⟩
theorem Fp.drew {S : Nat → Prop} {a w : World} (h : Fp S a w) : Fp S a w.drew := ⟨h.os, h.tape, h.output, h.size, h.block⟩
theorem Fp.drewN {S : Nat → Prop} {a w : World} (h : Fp S a w) (n : Nat) : Fp S a (w.drewN n) := ⟨h.os, h.tape, h.output, h.size, h.block⟩
theorem Fp.setCell {S : Nat → Prop} {a w : World} (h : Fp S a w) {p : Addr} (hp : a.heap.size ≤ p.block ∨ S p.block) (u : Value) : Fp S a (w.setCell p u) :=
  ⟨h.os, h.tape, h.output, by simpa [World.setCell] using h.size, fun k hk hn => by
    have : k ≠ p.block := by
      rintro rfl
      rcases hp with hp | hp
      · omega
      · exact hn hp
    rw [Below.heap_setCell _ _ _ _ this]; exact h.block k hk hn⟩
theorem Fp.setBlock {S : Nat → Prop} {a w : World} (h : Fp S a w) {b : Nat} (hp : a.heap.size ≤ b ∨ S b) (o : Obj) : Fp S a (setBlock w b o) :=
  ⟨h.os, h.tape, h.output, by simpa [ChangeMaps.setBlock] using h.size, fun k hk hn => by
    have : k ≠ b := by
      rintro rfl
      rcases hp with hp | hp
      · omega
      · exact hn hp
    simp only [ChangeMaps.setBlock, Array.getElem?_setIfInBounds]
    rw [if_neg (by omega)]; exact h.block k hk hn⟩
theorem Fp.of_below {w w' : World} (h : Below w.heap.size w w') : Fp (fun _ => False) w w' := ⟨h.os, h.tape, h.output, h.size, fun k hk _ => h.block k hk⟩
theorem Fp.below {S : Nat → Prop} {B : Nat} {w w' : World} (h : Fp S w w') (hB : B ≤ w.heap.size) (hs : ∀ k, k < B → ¬ S k) : Below B w w' :=
  ⟨h.os, h.tape, h.output, h.size, fun k hk => h.block k (by omega) (hs k hk)⟩
theorem Fp.cell {S : Nat → Prop} {w w' : World} (h : Fp S w w') {p : Addr} (hp : p.block < w.heap.size) (hs : ¬ S p.block) : w'.cell? p = w.cell? p := World.cell?_of_block (w := w) (h.block _ hp hs)
theorem Fp.frozen {S : Nat → Prop} {w w' : World} (h : Fp S w w') {p : Addr} (hp : p.block < w.heap.size) (hs : ¬ S p.block) : w'.frozen? p = w.frozen? p := World.frozen?_of_block (w := w) (h.block _ hp hs)

theorem Fp.bcell {W w1 : World} (hb : Fp (fun _ => False) W w1) : (∀ b o, b < W.heap.size → w1.cell? ⟨b, o, none⟩ = W.cell? ⟨b, o, none⟩) ∧ (∀ b o, b < W.heap.size → w1.frozen? ⟨b, o, none⟩ = W.frozen? ⟨b, o, none⟩) ∧ W.heap.size ≤ w1.heap.size :=
  ⟨fun b o h => hb.cell (p := ⟨b, o, none⟩) h id, fun b o h => hb.frozen (p := ⟨b, o, none⟩) h id, hb.size⟩

theorem cell_lt {w : World} {p : Addr} {v : Value} (h : w.cell? p = some v) : p.block < w.heap.size := by
  unfold World.cell? at h
  rcases hb : w.heap[p.block]? with _ | o
  · simp [hb] at h
  · exact (Array.getElem?_eq_some_iff.1 hb).1

/-- 'go_still' and 'go_still_tail', the world spelled 'w.drew'. -/
theorem wp_still_tail {P : Program} {a : Act} {w : World} {id : Nat} {Q : Exit → Act → World → Prop} {l : List Oper} (n : Nat) (hm : P.follows .mixedOrders = true) (hB : Region.lexTailB .any l.toArray n = true)
    (h : wpStill P l.toArray w.drew (fun a' => wpList P l.toArray Q (l.drop n) a' w.drew) (l.take n) a) : (Code.region id l.toArray true).wp P Q a w := wp_region_still_tail n hm hB h
theorem wp_still_lit {P : Program} {a : Act} {w : World} {id : Nat} {Q : Exit → Act → World → Prop} {l : List Oper} (hm : P.follows .mixedOrders = true) (hB : Region.lexB .any l.toArray = true)
    (h : wpStill P l.toArray w.drew (fun a' => Q .normal a' w.drew) l a) : (Code.region id l.toArray true).wp P Q a w := wp_region_still_lit hm hB h

/-- A cell that is there, and may be written. -/
def Wr (w : World) (b o : Nat) (v : Value) : Prop := w.cell? ⟨b, o, none⟩ = some v ∧ w.frozen? ⟨b, o, none⟩ = false

/-- A map's block, as a list of keys and elements. -/
def MapIs (w : World) (b : Nat) (m : List (Value × Value)) : Prop := ∃ es clk, w.heap[b]? = some (.map es clk) ∧ es.toList.map (fun e => (e.key, e.val)) = m

theorem MapIs.lt {w : World} {b : Nat} {m : List (Value × Value)} (h : MapIs w b m) : b < w.heap.size := by
  obtain ⟨es, clk, h, _⟩ := h; exact (Array.getElem?_eq_some_iff.1 h).1
theorem MapIs.of_block {w w' : World} {b : Nat} {m : List (Value × Value)} (h : MapIs w b m) (he : w'.heap[b]? = w.heap[b]?) : MapIs w' b m := by
  obtain ⟨es, clk, h, hm⟩ := h; exact ⟨es, clk, he.trans h, hm⟩
theorem MapIs.unique {w : World} {b : Nat} {m m' : List (Value × Value)} (h : MapIs w b m) (h' : MapIs w b m') : m = m' := by
  obtain ⟨es, clk, h1, rfl⟩ := h
  obtain ⟨es', clk', h1', rfl⟩ := h'
  rw [h1] at h1'
  cases h1'
  rfl
theorem heap_new (w : World) (o : Obj) (n : Nat) (hn : n = w.heap.size) : (w.alloc o).heap[n]? = some o := by subst hn; exact (MapKept.heap_alloc w o).1
theorem MapIs.made (w : World) : MapIs (w.alloc (.map #[] 0)) w.heap.size [] := ⟨#[], 0, (MapKept.heap_alloc w _).1, rfl⟩

section
variable {P : Program} {k : TypeId} {w : World} {t e b : Nat} {m : List (Value × Value)} {x : Value}

theorem keys_ok {es : Array MapEntry} (hm : es.toList.map (fun e => (e.key, e.val)) = m) (hk : ∀ p ∈ m, ∃ l, keyOf P k p.1 = some l) : ∀ e ∈ es.toList, ∃ l, keyOf P k e.key = some l :=
  fun e he => hk (e.key, e.val) (by rw [← hm]; exact List.mem_map.2 ⟨e, he, rfl⟩)

theorem look_miss (K : KeyLaw P k) (ht : P.underlying t = some (.map k e)) (h : MapIs w b m) (hk : ∀ p ∈ m, ∃ l, keyOf P k p.1 = some l) (hx : ∃ l, keyOf P k x = some l)
    (hno : ∀ p ∈ m, p.1 ≠ x) {z : Value} (hz : (zeroValue e).run P w = .ok z w) (c : Bool) :
    (Instr.lookup t (.map (some b)) x c).run P w = .ok (if c then .tuple #[z, .bool false] else z) w := by
  obtain ⟨es, clk, hb, hm⟩ := h
  obtain ⟨lx, hx⟩ := hx
  rcases K.find w hx es.toList (keys_ok hm hk) with ⟨h1, _⟩ | ⟨j, e0, _, h2, h3⟩
  · simp [Instr.lookup, run_underlying ht, MapKept.run_getObj_map hb, K.check w _ hx, h1, hz, Result.andThen]
  · exact absurd h3 (hno (e0.key, e0.val) (by rw [← hm]; exact List.mem_map.2 ⟨e0, List.mem_of_getElem? h2, rfl⟩))

theorem eq_of_nodup {es : List MapEntry} (hn : (es.map (fun e => e.key)).Nodup) {a c : MapEntry} (ha : a ∈ es) (hc : c ∈ es) (h : a.key = c.key) : a = c := by
  induction es with
  | nil => cases ha
  | cons y ys ih =>
    simp only [List.map_cons, List.nodup_cons] at hn
    rcases List.mem_cons.1 ha with rfl | ha'
    · rcases List.mem_cons.1 hc with rfl | hc'
      · rfl
      · exact absurd (List.mem_map.2 ⟨c, hc', h.symm⟩) hn.1
    · rcases List.mem_cons.1 hc with rfl | hc'
      · exact absurd (List.mem_map.2 ⟨a, ha', h⟩) hn.1
      · exact ih hn.2 ha' hc'

theorem map_keys {es : Array MapEntry} (hm : es.toList.map (fun e => (e.key, e.val)) = m) : es.toList.map (fun e => e.key) = m.map Prod.fst := by
  rw [← hm, List.map_map]; rfl

theorem look_hit (K : KeyLaw P k) (ht : P.underlying t = some (.map k e)) (h : MapIs w b m) (hk : ∀ p ∈ m, ∃ l, keyOf P k p.1 = some l) (hnd : (m.map Prod.fst).Nodup)
    {v : Value} (hin : (x, v) ∈ m) (c : Bool) :
    (Instr.lookup t (.map (some b)) x c).run P w = .ok (if c then .tuple #[v, .bool true] else v) w := by
  obtain ⟨lx, hx⟩ : ∃ l, keyOf P k x = some l := hk _ hin
  obtain ⟨es, clk, hb, hm⟩ := h
  rw [← map_keys hm] at hnd
  rw [← hm] at hin
  obtain ⟨e1, he1, heq⟩ := List.mem_map.1 hin
  simp only [Prod.mk.injEq] at heq
  rcases K.find w hx es.toList (keys_ok hm hk) with ⟨_, h2⟩ | ⟨j, e0, h1, h2, h3⟩
  · exact absurd heq.1 (h2 e1 he1)
  · have : e0 = e1 := eq_of_nodup hnd (List.mem_of_getElem? h2) he1 (h3.trans heq.1.symm)
    subst this
    rw [← heq.2]
    simp [Instr.lookup, run_underlying ht, MapKept.run_getObj_map hb, K.check w _ hx, h1, Result.andThen]

theorem look_miss0 (K : KeyLaw P k) (ht : P.underlying t = some (.map k e)) (h : MapIs w b m) (hk : ∀ p ∈ m, ∃ l, keyOf P k p.1 = some l) (hx : ∃ l, keyOf P k x = some l)
    (hno : ∀ p ∈ m, p.1 ≠ x) {z : Value} (hz : (zeroValue e).run P w = .ok z w) : (Instr.lookup t (.map (some b)) x false).run P w = .ok z w := look_miss K ht h hk hx hno hz false
theorem look_hit0 (K : KeyLaw P k) (ht : P.underlying t = some (.map k e)) (h : MapIs w b m) (hk : ∀ p ∈ m, ∃ l, keyOf P k p.1 = some l) (hnd : (m.map Prod.fst).Nodup)
    {v : Value} (hin : (x, v) ∈ m) : (Instr.lookup t (.map (some b)) x false).run P w = .ok v w := look_hit K ht h hk hnd hin false

theorem update_new (K : KeyLaw P k) (ht : P.underlying t = some (.map k e)) (h : MapIs w b m) (hk : ∀ p ∈ m, ∃ l, keyOf P k p.1 = some l) (hx : ∃ l, keyOf P k x = some l)
    (hno : ∀ p ∈ m, p.1 ≠ x) (v : Value) :
    ∃ o, (Instr.mapUpdate t (.map (some b)) x v).run P w = .ok () (setBlock w b o) ∧ MapIs (setBlock w b o) b (m ++ [(x, v)]) := by
  have hlt := h.lt
  obtain ⟨es, clk, hb, hm⟩ := h
  obtain ⟨lx, hx⟩ := hx
  rcases K.find w hx es.toList (keys_ok hm hk) with ⟨h1, _⟩ | ⟨j, e0, _, h2, h3⟩
  · refine ⟨.map (es.push ⟨x, v, clk⟩) (clk + 1), ?_, es.push ⟨x, v, clk⟩, clk + 1, ?_, ?_⟩
    · simp [Instr.mapUpdate, run_underlying ht, MapKept.run_getObj_map hb, K.check w false hx, h1, MapKept.run_setObj_map _ hb, Result.andThen, setBlock]
    · simp [setBlock, hlt]
    · simp [hm]
  · exact absurd h3 (hno (e0.key, e0.val) (by rw [← hm]; exact List.mem_map.2 ⟨e0, List.mem_of_getElem? h2, rfl⟩))

theorem delete_hit (K : KeyLaw P k) (ht : P.underlying t = some (.map k e)) (h : MapIs w b m) (hk : ∀ p ∈ m, ∃ l, keyOf P k p.1 = some l) (hnd : (m.map Prod.fst).Nodup)
    {v : Value} (hin : (x, v) ∈ m) (ty : TypeId) :
    ∃ o m', (Builtin.delete_ #[t, k] ty #[.map (some b), x]).run P w = .ok (.tuple #[]) (setBlock w b o) ∧ MapIs (setBlock w b o) b m' ∧ ∃ m1 m2, m = m1 ++ (x, v) :: m2 ∧ m' = m1 ++ m2 := by
  have hlt := h.lt
  obtain ⟨lx, hx⟩ : ∃ l, keyOf P k x = some l := hk _ hin
  obtain ⟨es, clk, hb, hm⟩ := h
  have hnd' := hnd
  rw [← map_keys hm] at hnd'
  have hin' := hin
  rw [← hm] at hin'
  obtain ⟨e1, he1, heq⟩ := List.mem_map.1 hin'
  simp only [Prod.mk.injEq] at heq
  rcases K.find w hx es.toList (keys_ok hm hk) with ⟨_, h2⟩ | ⟨j, e0, h1, h2, h3⟩
  · exact absurd heq.1 (h2 e1 he1)
  · have : e0 = e1 := eq_of_nodup hnd' (List.mem_of_getElem? h2) he1 (h3.trans heq.1.symm)
    subst this
    have hjl : j < es.toList.length := (List.getElem?_eq_some_iff.1 h2).1
    have hj : es.toList[j] = e0 := (List.getElem?_eq_some_iff.1 h2).2
    have hjs : j < es.size := by simpa using hjl
    have hsub : (es.eraseIdxIfInBounds j).toList = es.toList.eraseIdx j := by
      unfold Array.eraseIdxIfInBounds
      rw [dif_pos hjs]
      simp
    have hsp : es.toList = es.toList.take j ++ e0 :: es.toList.drop (j + 1) := by
      rw [← hj, List.getElem_cons_drop, List.take_append_drop]
    refine ⟨.map (es.eraseIdxIfInBounds j) clk, (es.eraseIdxIfInBounds j).toList.map (fun e => (e.key, e.val)), ?_, ⟨_, clk, by simp [setBlock, hlt], rfl⟩,
      (es.toList.take j).map (fun e => (e.key, e.val)), (es.toList.drop (j + 1)).map (fun e => (e.key, e.val)), ?_, ?_⟩
    · simp [Builtin.delete_, run_underlying ht, MapKept.run_getObj_map hb, K.check w _ hx, h1, MapKept.run_setObj_map _ hb, Result.andThen, setBlock]
    · rw [← hm]
      conv => lhs; rw [hsp]
      simp [heq.1, heq.2]
    · rw [hsub, List.eraseIdx_eq_take_drop_succ, List.map_append]

theorem map_len (ht : P.underlying t = some (.map k e)) (h : MapIs w b m) (ty : TypeId) : (Builtin.len_ #[t] ty #[.map (some b)]).run P w = .ok (.int .i64 m.length) w := by
  obtain ⟨es, clk, hb, hm⟩ := h
  rw [← hm]
  simp [Builtin.len_, run_underlying ht, MapKept.run_getObj_map hb, Result.andThen, goInt]

end

/-- A block of plain cells, none of them a string's. -/
def Plain (w : World) (b : Nat) : Prop := (w.shape? b).isSome = true ∧ ∀ o, w.frozen? ⟨b, o, none⟩ = false

theorem shape_of_cell {w : World} {b o : Nat} {v : Value} (h : w.cell? ⟨b, o, none⟩ = some v) : (w.shape? b).isSome = true := by
  unfold World.cell? at h
  unfold World.shape?
  rcases hb : w.heap[b]? with _ | x
  · simp [hb] at h
  · cases x <;> simp [hb] at h ⊢

theorem Plain.of_cell {w : World} {b o : Nat} {v : Value} (h : w.cell? ⟨b, o, none⟩ = some v) (hz : ∀ o, w.frozen? ⟨b, o, none⟩ = false) : Plain w b := ⟨shape_of_cell h, hz⟩

theorem Plain.lt {w : World} {b : Nat} (h : Plain w b) : b < w.heap.size := by
  obtain ⟨x, hx⟩ := Option.isSome_iff_exists.1 h.1
  unfold World.shape? at hx
  rcases hb : w.heap[b]? with _ | y
  · simp [hb] at hx
  · exact (Array.getElem?_eq_some_iff.1 hb).1
theorem Plain.of_block {w w' : World} {b : Nat} (h : Plain w b) (e : w'.heap[b]? = w.heap[b]?) : Plain w' b :=
  ⟨by unfold World.shape?; rw [e]; exact h.1, fun o => (World.frozen?_of_block (a := ⟨b, o, none⟩) e).trans (h.2 o)⟩

theorem run_sameAddr {P : Program} {w : World} {a b : Addr} (sa : a.spot = none) (sb : b.spot = none) (ha : Plain w a.block) (hb : Plain w b.block) : (sameAddr a b).run P w = .ok (a == b) w := by
  obtain ⟨ab, ao, as⟩ := a
  obtain ⟨bb, bo, bs⟩ := b
  obtain rfl : as = none := sa
  obtain rfl : bs = none := sb
  by_cases h : ab = bb
  · subst h
    simp [sameAddr]
  · have hne : ((⟨ab, ao, none⟩ : Addr) == ⟨bb, bo, none⟩) = false := by simp [h]
    obtain ⟨⟨ta, na⟩, hsa⟩ := Option.isSome_iff_exists.1 ha.1
    obtain ⟨⟨tb, nb⟩, hsb⟩ := Option.isSome_iff_exists.1 hb.1
    have fa : ∀ o, w.frozen? ⟨ab, o, none⟩ = false := ha.2
    have fb : ∀ o, w.frozen? ⟨bb, o, none⟩ = false := hb.2
    have e1 : w.shape? ab = some (ta, na) := hsa
    have e2 : w.shape? bb = some (tb, nb) := hsb
    simp [sameAddr, h, hne, frozen, fa, Sem.run, noView, viewAt, shape, e1, e2, mayBeOne, stringish, fb]

theorem run_equalIn_ptr (d : Nat) {P : Program} {w : World} {t e : TypeId} {a b : Addr} (ht : P.underlying t = some (.pointer e)) (hs : P.cellsOf e ≠ 0) (sa : a.spot = none) (sb : b.spot = none) (ha : Plain w a.block) (hb : Plain w b.block) :
    (Op.equalIn (d + 1) t (.pointer (some a)) (.pointer (some b))).run P w = .ok (a == b) w := by
  unfold Program.cellsOf at hs
  rcases hi : P.info? e with _ | i
  · simp [hi] at hs
  · simp [hi] at hs
    simp [Op.equalIn, run_underlying ht, sizeOf, typeInfo, program, Sem.run, hi, hs, run_sameAddr sa sb ha hb]

theorem run_equal_ptr {P : Program} {w : World} {t e : TypeId} {a b : Addr} (ht : P.underlying t = some (.pointer e)) (hs : P.cellsOf e ≠ 0) (sa : a.spot = none) (sb : b.spot = none) (ha : Plain w a.block) (hb : Plain w b.block) :
    (Op.equal t (.pointer (some a)) (.pointer (some b))).run P w = .ok (a == b) w := run_equalIn_ptr 9999 ht hs sa sb ha hb

theorem run_eql_ptr {P : Program} {w : World} {t e : TypeId} {a b : Addr} (ht : P.underlying t = some (.pointer e)) (hs : P.cellsOf e ≠ 0) (sa : a.spot = none) (sb : b.spot = none) (ha : Plain w a.block) (hb : Plain w b.block) :
    (binOp .eql t (.pointer (some a)) (.pointer (some b))).run P w = .ok (.bool (a == b)) w := by
  simp only [binOp]
  simp [run_equal_ptr ht hs sa sb ha hb]
theorem run_neq_ptr {P : Program} {w : World} {t e : TypeId} {a b : Addr} (ht : P.underlying t = some (.pointer e)) (hs : P.cellsOf e ≠ 0) (sa : a.spot = none) (sb : b.spot = none) (ha : Plain w a.block) (hb : Plain w b.block) :
    (binOp .neq t (.pointer (some a)) (.pointer (some b))).run P w = .ok (.bool (!(a == b))) w := by
  simp only [binOp]
  simp [run_equal_ptr ht hs sa sb ha hb]

theorem Fp.grown {S : Nat → Prop} {a w w' : World} {row : Option Nat} (h : Fp S a w) (hg : w.grownBy w' row) (hr : ∀ k, row = some k → a.heap.size ≤ k ∨ S k) : Fp S a w' :=
  ⟨hg.os.trans h.os, hg.tape.trans h.tape, hg.output.trans h.output, Nat.le_trans h.size hg.size, fun k hk hn => (hg.block k (Nat.lt_of_lt_of_le hk h.size) (fun e => by
    rcases hr k e.symm with h1 | h1
    · omega
    · exact hn h1)).trans (h.block k hk hn)⟩

/-- Where what was appended lies: in the old block, or in a new one. -/
theorem append_where {P : Program} {w : World} (base t ty e : Nat) (i : TypeInfo) (z : Value) (ht : P.underlying t = some (.slice e)) (hi : P.info? e = some i) (hz : i.zero = some z)
    (v : Value) (n : Nat) (xs : List Value) (hown : w.ownsRow base e i.size v n xs)
    (a : Addr) (m c : Nat) (news : List Value) (hl : news.length = m * i.size) (hnews : ∀ j u, news[j]? = some u → w.cell? (a.add j) = some u) (h1 : ∀ u ∈ news, u.oneCell' = true)
    (h63 : n + m ≤ maxLen) (hbytes : (n + m) * i.bytes ≤ 140737488355328) {v' : Value} {w' : World} (hr : (Builtin.append_ #[t, t] ty #[v, .slice (some a) m c]).run P w = .ok v' w') :
    v'.ownBlock = v.ownBlock ∨ v'.ownBlock = some w.heap.size := by
  have hsmall : n + m ≤ 9223372036854775807 := by simp only [maxLen] at h63; omega
  have hc := hown
  obtain ⟨ho, h2⟩ := hown
  rcases h2 with ⟨rfl, rfl⟩ | ⟨g, cap, cur, rfl, hbg, hg, hnc, hcm, hcs, htake⟩
  · by_cases hm : m = 0
    · subst hm
      have hn : news = [] := List.eq_nil_of_length_eq_zero (by simpa using hl)
      subst hn
      simp [Builtin.append_, run_underlying ht, sizeOf, typeInfo, hi, Builtin.lenOf, Builtin.firstCells, loadCells, loadCellsFrom] at hr
      exact Or.inl (by rw [← hr.1])
    · rw [run_append_nil (P := P) w t ty e i z ht hi hz a m c news hl hnews (by omega) (by omega) (by have hb := hbytes; simp only [Nat.zero_add] at hb; omega)] at hr
      injection hr with h1 _
      exact Or.inr (by rw [← h1]; rfl)
  · by_cases hroom : n + m ≤ cap
    · rw [run_append_room (P := P) w t ty e i ht hi g n cap cur hg a m c news hl hnews h1 hroom (by rw [hl, hcs, ← Nat.add_mul]; exact Nat.mul_le_mul_right _ hroom)] at hr
      injection hr with h1 _
      exact Or.inl (by rw [← h1]; rfl)
    · rw [run_append_grow (P := P) w t ty e i z ht hi hz ⟨g, 0, none⟩ n cap xs ho (hc.cells (g := g) rfl) a m c news hl hnews (by omega) (by omega) (growslice_fits (by omega) hbytes)] at hr
      injection hr with h1 _
      exact Or.inr (by rw [← h1]; rfl)

theorem wp_append_at {P : Program} {w : World} {ops : Array Oper} {rest : List Oper} {o : Oper} {a : Act} {Q : Exit → Act → World → Prop} (hgd : o.guard = none) (s x : Operand) (t : TypeId)
    (ho : o.op = .call { callee := .builtin .append, args := #[s, x], argTypes := #[t, t] })
    (base : Nat) (e : TypeId) (i : TypeInfo) (z : Value) (ht : P.underlying t = some (.slice e)) (hi : P.info? e = some i) (hz : i.zero = some z)
    (hzs : z.cells.size = i.size) (hsz : 0 < i.size) (v : Value) (n : Nat) (xs : List Value) (hs : a.eval s = v) (hown : w.ownsRow base e i.size v n xs)
    (ad : Addr) (m c : Nat) (news : List Value) (hx : a.eval x = .slice (some ad) m c) (hl : news.length = m * i.size) (hnews : ∀ j u, news[j]? = some u → w.cell? (ad.add j) = some u) (h1 : ∀ u ∈ news, u.oneCell' = true)
    (h63 : n + m ≤ maxLen) (hbytes : (n + m) * i.bytes ≤ 140737488355328) (hbase : base ≤ w.heap.size)
    (h : ∀ v' w', w'.ownsRow base e i.size v' (n + m) (xs ++ news) → w.grownBy w' v.ownBlock → (v' = .slice none 0 0 ↔ v = .slice none 0 0 ∧ m = 0) → (v'.ownBlock = v.ownBlock ∨ v'.ownBlock = some w.heap.size) → wpList P ops Q rest (a.put o.dst v') w') : wpList P ops Q (o :: rest) a w := by
  refine wpList_plain hgd fun K hK => ?_
  obtain ⟨v', w', hr, h2, h3, h4⟩ := run_append_own (P := P) w base t o.type e i z i.size i.bytes ht hi hz rfl rfl hzs hsz v n xs hown ad m c news hl hnews h1 h63 hbytes hbase
  have h5 := append_where base t o.type e i z ht hi hz v n xs hown ad m c news hl hnews h1 h63 hbytes hr
  unfold Oper.wp execOp
  simp only [ho, resolve, invoke, builtin, Sem.run_bind, Sem.run_pure, Result.andThen_ok, List.map_toArray, List.map_cons, List.map_nil, hs, hx, hr]
  exact hK _ _ (h v' w' h2 h3 h4 h5)

/-- 'append(s, x)' of one element that lies in a block of its own, to a slice of the call's own. -/
theorem wp_append1 {P : Program} {w : World} {ops : Array Oper} {rest : List Oper} {o : Oper} {a : Act} {Q : Exit → Act → World → Prop} (hgd : o.guard = none) (s x : Operand) (t : TypeId)
    (ho : o.op = .call { callee := .builtin .append, args := #[s, x], argTypes := #[t, t] })
    (base : Nat) (e : TypeId) (z : Value) (size : Nat) (ht : P.underlying t = some (.slice e)) (hi : ∃ i, P.info? e = some i ∧ i.zero = some z ∧ i.size = size ∧ i.bytes ≤ 65536)
    (hzs : z.cells.size = size) (hsz : 0 < size) (v : Value) (n : Nat) (xs : List Value) (hs : a.eval s = v) (hown : w.ownsRow base e size v n xs)
    (g : Nat) (news : List Value) (hx : a.eval x = .slice (some ⟨g, 0, none⟩) 1 1) (hl : news.length = size) (hnews : w.heap[g]? = some (.cells news.toArray e (0, 0))) (h1 : ∀ u ∈ news, u.oneCell' = true)
    (hn : n + 1 ≤ 1048576) (hbase : base ≤ w.heap.size)
    (h : ∀ v' w', w'.ownsRow base e size v' (n + 1) (xs ++ news) → w.grownBy w' v.ownBlock → v' ≠ .slice none 0 0 → (v'.ownBlock = v.ownBlock ∨ v'.ownBlock = some w.heap.size) → wpList P ops Q rest (a.put o.dst v') w') : wpList P ops Q (o :: rest) a w := by
  obtain ⟨i, hi, hz, rfl, hb⟩ := hi
  refine wp_append_at hgd s x t ho base e i z ht hi hz hzs hsz v n xs hs hown ⟨g, 0, none⟩ 1 1 news hx (by omega) ?_ h1 (by unfold maxLen; omega) ?_ hbase ?_
  · intro j u hj
    have e : (⟨g, 0, none⟩ : Addr).add j = ⟨g, j, none⟩ := by unfold Addr.add; split <;> simp_all
    rw [e]
    simp [World.cell?, hnews, hj]
  · have := Nat.mul_le_mul hn hb; omega
  · intro v' w' h2 h3 h4 h5
    exact h v' w' h2 h3 (fun e => by have := h4.1 e; omega) h5

theorem ownsRow_of_block {w w' : World} {B : Nat} {e : TypeId} {size : Nat} {v : Value} {n : Nat} {xs : List Value} (h : w.ownsRow B e size v n xs) (hb : ∀ g, v.ownBlock = some g → w'.heap[g]? = w.heap[g]?) : w'.ownsRow B e size v n xs := by
  obtain ⟨h1, h2⟩ := h
  refine ⟨h1, ?_⟩
  rcases h2 with h2 | ⟨g, cap, cur, hv, hg, hh, r⟩
  · exact Or.inl h2
  · exact Or.inr ⟨g, cap, cur, hv, hg, by rw [hb g (by rw [hv]; rfl)]; exact hh, r⟩
theorem ownsRow_mono {w : World} {B B' : Nat} {e : TypeId} {size : Nat} {v : Value} {n : Nat} {xs : List Value} (h : w.ownsRow B e size v n xs) (hB : B' ≤ B) : w.ownsRow B' e size v n xs := by
  obtain ⟨h1, h2⟩ := h
  refine ⟨h1, ?_⟩
  rcases h2 with h2 | ⟨g, cap, cur, hv, hg, hh, r⟩
  · exact Or.inl h2
  · exact Or.inr ⟨g, cap, cur, hv, by omega, hh, r⟩
theorem heap_set (w : World) (g i : Nat) (cs : Array Value) (t : TypeId) (v : Value) (hg : w.heap[g]? = some (.cells cs t (0, 0))) : (w.setCell ⟨g, i, none⟩ v).heap[g]? = some (.cells (cs.setIfInBounds i v) t (0, 0)) := by
  simp [World.setCell, Array.getElem?_modify, hg]

/-- 'append(s, x...)' of a slice of the call's own, or nil. -/
theorem wp_appendR {P : Program} {w : World} {ops : Array Oper} {rest : List Oper} {o : Oper} {a : Act} {Q : Exit → Act → World → Prop} (hgd : o.guard = none) (s x : Operand) (t : TypeId)
    (ho : o.op = .call { callee := .builtin .append, args := #[s, x], argTypes := #[t, t] })
    (base : Nat) (e : TypeId) (z : Value) (size : Nat) (ht : P.underlying t = some (.slice e)) (hi : ∃ i, P.info? e = some i ∧ i.zero = some z ∧ i.size = size ∧ i.bytes ≤ 65536)
    (hzs : z.cells.size = size) (hsz : 0 < size) (v : Value) (n : Nat) (xs : List Value) (hs : a.eval s = v) (hown : w.ownsRow base e size v n xs)
    (u : Value) (m B2 : Nat) (ys : List Value) (hx : a.eval x = u) (hown2 : w.ownsRow B2 e size u m ys) (h1 : ∀ u ∈ ys, u.oneCell' = true)
    (hn : n + m ≤ 1048576) (hbase : base ≤ w.heap.size)
    (h : ∀ v' w', w'.ownsRow base e size v' (n + m) (xs ++ ys) → w.grownBy w' v.ownBlock → (v' = .slice none 0 0 ↔ v = .slice none 0 0 ∧ m = 0) → (v'.ownBlock = v.ownBlock ∨ v'.ownBlock = some w.heap.size) → wpList P ops Q rest (a.put o.dst v') w') : wpList P ops Q (o :: rest) a w := by
  obtain ⟨i, hi, hz, rfl, hb⟩ := hi
  have hc := hown2
  obtain ⟨hl, h2⟩ := hown2
  rcases h2 with ⟨rfl, rfl⟩ | ⟨g, cap, cur, rfl, hg, hh, hcap, hcap2, hcs, htk⟩
  · have hy : ys = [] := List.eq_nil_of_length_eq_zero (by omega)
    subst hy
    refine wpList_append_own_none hgd s x t ho base e i i.size ht hi v n xs hs hown hx ?_
    refine h v w (by simpa using hown) ⟨rfl, rfl, rfl, Nat.le_refl _, fun _ _ _ => rfl⟩ (by simp) (Or.inl rfl)
  · refine wp_append_at hgd s x t ho base e i z ht hi hz hzs hsz v n xs hs hown ⟨g, 0, none⟩ m cap ys hx hl (fun j u hj => World.ownsRow.cells hc rfl j u hj) h1 (by unfold maxLen; omega) ?_ hbase h
    have := Nat.mul_le_mul hn hb; omega

abbrev NoW (w w' : World) : Prop := Fp (fun _ => False) w w'
def Ret1 (v : Value) (w : World) (e : Ending) (w' : World) : Prop := e = .returned v ∧ NoW w w'

theorem NoW.below {w w' : World} (h : NoW w w') : Below w.heap.size w w' := Fp.below h (Nat.le_refl _) (fun _ _ => id)
/-- A contract that writes nothing, in a region that draws its order. -/
theorem low_call {P : Program} {f : FuncId} {args : Array Value} {v : Value} (w : World) (h : ∀ W, NoW w W → Calls P f args W (Ret1 v W)) (d : Nat) (os : Array Obj) :
    Calls P f args (Sort.grow (redrawn w d) os) fun e w'' => e = .returned v ∧ ∃ p : Regrown, w'' = Sort.grow (redrawn w p.d) p.os :=
  Calls.regrown_of ((h _ (Fp.of_below (below_regrown w d os))).mono fun _ _ ⟨he, hb⟩ => ⟨he, hb.below⟩)
theorem low_of {w w' : World} (h : ∃ p : Regrown, w' = Sort.grow (redrawn w p.d) p.os) : NoW w w' := by
  obtain ⟨p, rfl⟩ := h
  exact Fp.of_below (below_regrown w p.d p.os)
end Go.Proofs.YtdmbjndhdldggaaDoor

namespace Go.Proofs.YtdmbjndhdldggaaDoor
set_option linter.unusedVariables false
set_option linter.unusedSimpArgs false
open Go.Lib

/-- The number that digits say. -/
def val (l : List UInt8) : Nat := l.foldl (fun a c => a * 10 + (c.toNat - 48)) 0
theorem val_snoc (l : List UInt8) (c : UInt8) : val (l ++ [c]) = val l * 10 + (c.toNat - 48) := by simp [val, List.foldl_append]
theorem dig_toNat (n : Nat) (h : n < 10) : (UInt8.ofNat (48 + n)).toNat = 48 + n := by
  rw [UInt8.toNat_ofNat']; omega

theorem dec_small {u : Nat} (h : u < 10) : decDigits u = [UInt8.ofNat (48 + u)] := by rw [decDigits, dif_pos h]
theorem dec_big {u : Nat} (h : ¬ u < 10) : decDigits u = decDigits (u / 10) ++ [UInt8.ofNat (48 + u % 10)] := by rw [decDigits, dif_neg h]
theorem dec_ne (u : Nat) : decDigits u ≠ [] := by
  by_cases h : u < 10
  · rw [dec_small h]; simp
  · rw [dec_big h]; simp

theorem val_dec : ∀ (k u : Nat), u ≤ k → val (decDigits u) = u
  | 0, u, h => by
    obtain rfl : u = 0 := by omega
    rw [dec_small (by omega)]; rfl
  | k + 1, u, h => by
    by_cases hu : u < 10
    · rw [dec_small hu]
      have := dig_toNat u hu
      simp only [val, List.foldl_cons, List.foldl_nil, this]
      omega
    · rw [dec_big hu, val_snoc, val_dec k (u / 10) (by omega), dig_toNat _ (by omega)]
      omega
theorem val_of_dec (u : Nat) : val (decDigits u) = u := val_dec u u (Nat.le_refl _)
theorem dec_inj {a b : Nat} (h : decDigits a = decDigits b) : a = b := by rw [← val_of_dec a, ← val_of_dec b, h]

theorem dec_digit : ∀ (k u : Nat), u ≤ k → ∀ c, c ∈ decDigits u → 48 ≤ c.toNat ∧ c.toNat ≤ 57
  | 0, u, h, c, hc => by
    obtain rfl : u = 0 := by omega
    rw [dec_small (by omega)] at hc
    simp at hc; subst hc; decide
  | k + 1, u, h, c, hc => by
    by_cases hu : u < 10
    · rw [dec_small hu] at hc
      obtain rfl := List.mem_singleton.1 hc
      have := dig_toNat u hu
      omega
    · rw [dec_big hu] at hc
      rcases List.mem_append.1 hc with hc | hc
      · exact dec_digit k (u / 10) (by omega) c hc
      · obtain rfl := List.mem_singleton.1 hc
        have := dig_toNat (u % 10) (by omega)
        omega
theorem dec_digits (u : Nat) : ∀ c, c ∈ decDigits u → 48 ≤ c.toNat ∧ c.toNat ≤ 57 := dec_digit u u (Nat.le_refl _)

/-- How many digits: at most k if the number is less than 10 ^ k. -/
theorem dec_len : ∀ (k u : Nat), 1 ≤ k → u < 10 ^ k → (decDigits u).length ≤ k
  | 0, _, h, _ => by omega
  | k + 1, u, _, h => by
    by_cases hu : u < 10
    · rw [dec_small hu]; simp
    · rw [dec_big hu, List.length_append]
      have h10 : u / 10 < 10 ^ k := by rw [Nat.pow_succ] at h; omega
      have hk : 1 ≤ k := by
        rcases k with _ | k
        · simp at h10; omega
        · omega
      have := dec_len k (u / 10) hk h10
      simp; omega

theorem foldl_ge (l : List UInt8) : ∀ a, a ≤ l.foldl (fun a c => a * 10 + (c.toNat - 48)) a := by
  induction l with
  | nil => intro a; exact Nat.le_refl _
  | cons c l ih => intro a; rw [List.foldl_cons]; exact Nat.le_trans (by omega) (ih _)

/-- The library's reading of digits that say no more than M. -/
theorem parse_val (M : Nat) (hM : M ≤ 18446744073709551615) : ∀ (l : List UInt8) (acc : Nat), (∀ c, c ∈ l → 48 ≤ c.toNat ∧ c.toNat ≤ 57) → l.foldl (fun a c => a * 10 + (c.toNat - 48)) acc ≤ M →
    parseUintM M acc l = .ok (l.foldl (fun a c => a * 10 + (c.toNat - 48)) acc)
  | [], acc, _, _ => rfl
  | c :: l, acc, hd, h => by
    rw [List.foldl_cons] at h
    have hg := foldl_ge l (acc * 10 + (c.toNat - 48))
    have hc := hd c (by simp)
    rw [parseUintM, if_pos hc, if_neg (by omega), if_neg (by omega), parse_val M hM l _ (fun x hx => hd x (by simp [hx])) h, List.foldl_cons]

theorem parse_le (M : Nat) : ∀ (l : List UInt8) (acc n : Nat), acc ≤ M → parseUintM M acc l = .ok n → n ≤ M ∧ n = l.foldl (fun a c => a * 10 + (c.toNat - 48)) acc
  | [], acc, n, ha, h => by
    simp [parseUintM] at h; subst h; exact ⟨ha, rfl⟩
  | c :: l, acc, n, ha, h => by
    rw [parseUintM] at h
    split at h
    · split at h
      · cases h
      · split at h
        · cases h
        · have := parse_le M l (acc * 10 + (c.toNat - 48)) n (by omega) h
          exact this
    · cases h

/-- A number as it is written, at most M. -/
def num (M : Nat) (l : List UInt8) : Option Nat := if l = decDigits (val l) ∧ val l ≤ M then some (val l) else none
theorem num_some {M n : Nat} {l : List UInt8} : num M l = some n ↔ l = decDigits n ∧ n ≤ M := by
  unfold num
  constructor
  · intro h
    split at h
    · rename_i hc
      cases h
      exact hc
    · cases h
  · rintro ⟨rfl, h⟩
    rw [val_of_dec, if_pos ⟨rfl, h⟩]
theorem num_none {M : Nat} {l : List UInt8} : num M l = none ↔ ∀ n, n ≤ M → l ≠ decDigits n := by
  constructor
  · intro h n hn e
    rw [num_some.2 ⟨e, hn⟩] at h; cases h
  · intro h
    rcases hn : num M l with _ | n
    · rfl
    · obtain ⟨e, hl⟩ := num_some.1 hn
      exact absurd e (h n hl)

/-- What the library reads of a number that may be. -/
theorem parse_num {B n : Nat} {l : List UInt8} (hB : 2 ^ B - 1 ≤ 18446744073709551615) (h : num (2 ^ B - 1) l = some n) : parseUintB B l = .ok n := by
  obtain ⟨rfl, hn⟩ := num_some.1 h
  unfold parseUintB
  rw [if_neg (dec_ne n)]
  have hv : (decDigits n).foldl (fun a c => a * 10 + (c.toNat - 48)) 0 = n := val_of_dec n
  rw [parse_val _ hB _ 0 (dec_digits n) (by rw [hv]; exact hn), hv]
/-- .. and of one that may not be: if it is read, then it is written otherwise. -/
theorem parse_no {B n : Nat} {l : List UInt8} (h : num (2 ^ B - 1) l = none) (hp : parseUintB B l = .ok n) : decDigits n ≠ l ∧ n ≤ 2 ^ B - 1 := by
  unfold parseUintB at hp
  split at hp
  · cases hp
  · obtain ⟨h1, _⟩ := parse_le _ l 0 n (Nat.zero_le _) hp
    exact ⟨fun e => num_none.1 h n h1 e.symm, h1⟩

/-- A text, taken apart at a byte. -/
def pieces (c : UInt8) : List UInt8 → List (List UInt8)
  | [] => [[]]
  | b :: l => if b = c then [] :: pieces c l else match pieces c l with | [] => [[b]] | p :: ps => (b :: p) :: ps
theorem pieces_ne (c : UInt8) : ∀ l, pieces c l ≠ []
  | [] => by simp [pieces]
  | b :: l => by
    rw [pieces]
    split
    · simp
    · split <;> simp
theorem pieces_no {c : UInt8} : ∀ {l : List UInt8}, c ∉ l → pieces c l = [l]
  | [], _ => rfl
  | b :: l, h => by
    simp only [List.mem_cons, not_or] at h
    rw [pieces, if_neg (fun e => h.1 e.symm), pieces_no h.2]
theorem pieces_append {c : UInt8} : ∀ (l m : List UInt8), pieces c (l ++ c :: m) = pieces c l ++ pieces c m
  | [], m => by simp [pieces]
  | b :: l, m => by
    rw [List.cons_append, pieces, pieces, pieces_append l m]
    split
    · simp
    · have := pieces_ne c l
      rcases hp : pieces c l with _ | ⟨p, ps⟩
      · exact absurd hp this
      · simp
theorem pieces_mem {c : UInt8} : ∀ {l p : List UInt8}, p ∈ pieces c l → c ∉ p
  | [], p, h => by simp [pieces] at h; subst h; simp
  | b :: l, p, h => by
    rw [pieces] at h
    split at h
    · rcases List.mem_cons.1 h with rfl | h
      · simp
      · exact pieces_mem h
    · rename_i hb
      rcases hq : pieces c l with _ | ⟨q, qs⟩
      · exact absurd hq (pieces_ne c l)
      · rw [hq] at h
        rcases List.mem_cons.1 h with rfl | h
        · have := pieces_mem (l := l) (p := q) (by rw [hq]; simp)
          simp only [List.mem_cons, not_or]
          exact ⟨fun e => hb e.symm, this⟩
        · exact pieces_mem (l := l) (by rw [hq]; simp [h])
theorem pieces_len (c : UInt8) : ∀ l, (pieces c l).length = l.count c + 1
  | [] => rfl
  | b :: l => by
    rw [pieces]
    have := pieces_len c l
    split
    · rename_i hb; subst hb; simp [this]
    · rename_i hb
      rcases hq : pieces c l with _ | ⟨q, qs⟩
      · exact absurd hq (pieces_ne c l)
      · rw [hq] at this
        simp only [List.length_cons] at this ⊢
        rw [List.count_cons_of_ne (by simpa using hb)]
        omega

/-- What stands ahead of the last byte of a kind, and behind it. -/
def cutLast (c : UInt8) : List UInt8 → Option (List UInt8 × List UInt8)
  | [] => none
  | b :: l => match cutLast c l with | some (x, y) => some (b :: x, y) | none => if b = c then some ([], l) else none
theorem cutLast_none {c : UInt8} : ∀ {l : List UInt8}, cutLast c l = none ↔ c ∉ l
  | [] => by simp [cutLast]
  | b :: l => by
    have ih := cutLast_none (c := c) (l := l)
    rw [cutLast]
    rcases hq : cutLast c l with _ | ⟨x, y⟩
    · have h1 := ih.1 hq
      by_cases hb : b = c
      · simp [hb]
      · simp [hb, h1, Ne.symm hb]
    · have h1 : c ∈ l := by
        apply Classical.byContradiction
        intro hn; rw [ih.2 hn] at hq; cases hq
      simp [h1]
theorem cutLast_some {c : UInt8} : ∀ {l a b : List UInt8}, cutLast c l = some (a, b) ↔ l = a ++ c :: b ∧ c ∉ b
  | [], a, b => by simp [cutLast]
  | d :: l, a, b => by
    rw [cutLast]
    rcases hq : cutLast c l with _ | ⟨x, y⟩
    · have h1 := cutLast_none.1 hq
      by_cases hd : d = c
      · subst hd
        simp only [if_true, Option.some.injEq, Prod.mk.injEq]
        constructor
        · rintro ⟨rfl, rfl⟩; exact ⟨rfl, h1⟩
        · rintro ⟨h2, h3⟩
          cases a with
          | nil => simp at h2; exact ⟨rfl, h2⟩
          | cons z zs => simp at h2; exact absurd (by rw [h2.2]; simp) h1
      · simp only [hd, if_false]
        constructor
        · intro h; cases h
        · rintro ⟨h2, h3⟩
          cases a with
          | nil => simp at h2; exact absurd h2.1 hd
          | cons z zs => simp at h2; exact absurd (by rw [h2.2]; simp) h1
    · obtain ⟨h1, h2⟩ := cutLast_some.1 hq
      simp only [Option.some.injEq, Prod.mk.injEq]
      constructor
      · rintro ⟨rfl, rfl⟩; exact ⟨by rw [h1]; rfl, h2⟩
      · rintro ⟨h3, h4⟩
        cases a with
        | nil => simp at h3; exact absurd (by rw [← h3.2, h1]; simp) h4
        | cons z zs =>
          simp at h3
          have := (cutLast_some (c := c) (l := l)).2 ⟨h3.2, h4⟩
          rw [hq] at this
          simp at this
          exact ⟨by rw [h3.1, this.1], this.2⟩
end Go.Proofs.YtdmbjndhdldggaaDoor

namespace Go.Proofs.YtdmbjndhdldggaaDoor
set_option linter.unusedVariables false
set_option linter.unusedSimpArgs false
open Go.Lib

theorem dec_no {u : Nat} {c : UInt8} (h : c.toNat < 48) : c ∉ decDigits u := fun hm => by have := dec_digits u c hm; omega
theorem dec_no58 {u : Nat} : (58 : UInt8) ∉ decDigits u := fun hm => by have := dec_digits u 58 hm; simp at this
theorem dec_no46 {u : Nat} : (46 : UInt8) ∉ decDigits u := dec_no (by decide)
theorem dec_no47 {u : Nat} : (47 : UInt8) ∉ decDigits u := dec_no (by decide)
theorem dec_no32 {u : Nat} : (32 : UInt8) ∉ decDigits u := dec_no (by decide)

/-- An address as a text. -/
def addrT (a : Nat) : List UInt8 := decDigits (a / 16777216) ++ 46 :: (decDigits (a / 65536 % 256) ++ 46 :: (decDigits (a / 256 % 256) ++ 46 :: decDigits (a % 256)))
def addr4 (a b c d : Nat) : Nat := ((a * 256 + b) * 256 + c) * 256 + d
theorem addr4_lt {a b c d : Nat} (ha : a ≤ 255) (hb : b ≤ 255) (hc : c ≤ 255) (hd : d ≤ 255) : addr4 a b c d < 4294967296 := by unfold addr4; omega
theorem addr4_parts {a b c d : Nat} (hb : b ≤ 255) (hc : c ≤ 255) (hd : d ≤ 255) :
    addr4 a b c d / 16777216 = a ∧ addr4 a b c d / 65536 % 256 = b ∧ addr4 a b c d / 256 % 256 = c ∧ addr4 a b c d % 256 = d := by
  unfold addr4; omega
theorem addr4_of {n : Nat} : addr4 (n / 16777216) (n / 65536 % 256) (n / 256 % 256) (n % 256) = n := by unfold addr4; omega
theorem addrT4 {a b c d : Nat} (hb : b ≤ 255) (hc : c ≤ 255) (hd : d ≤ 255) :
    addrT (addr4 a b c d) = decDigits a ++ 46 :: (decDigits b ++ 46 :: (decDigits c ++ 46 :: decDigits d)) := by
  obtain ⟨h1, h2, h3, h4⟩ := addr4_parts (a := a) hb hc hd
  unfold addrT
  rw [h1, h2, h3, h4]

/-- The address that a text tells. -/
def addrOf (l : List UInt8) : Option Nat :=
  match pieces 46 l with
  | [a, b, c, d] => match num 255 a, num 255 b, num 255 c, num 255 d with
    | some a, some b, some c, some d => some (addr4 a b c d)
    | _, _, _, _ => none
  | _ => none

theorem pieces_join {c : UInt8} : ∀ (l : List UInt8) (p : List UInt8) (ps : List (List UInt8)), pieces c l = p :: ps → l = p ++ (ps.flatMap fun q => c :: q)
  | [], p, ps, h => by simp [pieces] at h; obtain ⟨rfl, rfl⟩ := h; rfl
  | b :: l, p, ps, h => by
    rw [pieces] at h
    split at h
    · rename_i hb
      simp at h
      obtain ⟨rfl, rfl⟩ := h
      rcases hq : pieces c l with _ | ⟨q, qs⟩
      · exact absurd hq (pieces_ne c l)
      · have := pieces_join l q qs hq
        simp [hb, ← this]
    · rcases hq : pieces c l with _ | ⟨q, qs⟩
      · exact absurd hq (pieces_ne c l)
      · rw [hq] at h
        simp at h
        obtain ⟨rfl, rfl⟩ := h
        have := pieces_join l q qs hq
        rw [List.cons_append, ← this]

theorem addrOf_some {l : List UInt8} {n : Nat} : addrOf l = some n ↔ l = addrT n ∧ n < 4294967296 := by
  constructor
  · intro h
    unfold addrOf at h
    split at h
    · rename_i a b c d hp
      split at h
      · rename_i na nb nc nd ha hb hc hd
        cases h
        obtain ⟨ea, ha2⟩ := num_some.1 ha
        obtain ⟨eb, hb2⟩ := num_some.1 hb
        obtain ⟨ec, hc2⟩ := num_some.1 hc
        obtain ⟨ed, hd2⟩ := num_some.1 hd
        refine ⟨?_, addr4_lt ha2 hb2 hc2 hd2⟩
        rw [addrT4 hb2 hc2 hd2, pieces_join l _ _ hp, ← ea, ← eb, ← ec, ← ed]
        simp
      · cases h
    · cases h
  · rintro ⟨rfl, h⟩
    unfold addrOf addrT
    rw [pieces_append, pieces_append, pieces_append, pieces_no dec_no46, pieces_no dec_no46, pieces_no dec_no46, pieces_no dec_no46]
    simp only [List.cons_append, List.nil_append]
    rw [num_some.2 ⟨rfl, by omega⟩, num_some.2 ⟨rfl, by omega⟩, num_some.2 ⟨rfl, by omega⟩, num_some.2 ⟨rfl, by omega⟩]
    simp only [addr4_of]
theorem addrT_inj {a b : Nat} (ha : a < 4294967296) (hb : b < 4294967296) (h : addrT a = addrT b) : a = b := by
  have h1 := addrOf_some.2 ⟨rfl, ha⟩
  rw [h, addrOf_some.2 ⟨rfl, hb⟩] at h1
  exact (Option.some.inj h1).symm
theorem addrT_no {a : Nat} {c : UInt8} (h46 : c ≠ 46) (hd : ∀ u, c ∉ decDigits u) : c ∉ addrT a := by
  unfold addrT
  simp [h46, hd]
theorem addrT_len {a : Nat} (h : a < 4294967296) : (addrT a).length ≤ 15 := by
  have h1 := dec_len 3 (a / 16777216) (by omega) (by omega)
  have h2 := dec_len 3 (a / 65536 % 256) (by omega) (by omega)
  have h3 := dec_len 3 (a / 256 % 256) (by omega) (by omega)
  have h4 := dec_len 3 (a % 256) (by omega) (by omega)
  unfold addrT
  simp only [List.length_append, List.length_cons]
  omega

/-- As the document takes it apart: from behind. -/
def addrR (l : List UInt8) : Option Nat :=
  match cutLast 46 l with
  | none => none
  | some (l, p3) => match num 255 p3 with
    | none => none
    | some d => match cutLast 46 l with
      | none => none
      | some (l, p2) => match num 255 p2 with
        | none => none
        | some c => match cutLast 46 l with
          | none => none
          | some (l, p1) => match num 255 p1 with
            | none => none
            | some b => match num 255 l with
              | none => none
              | some a => some (addr4 a b c d)
theorem addrR_some {l : List UInt8} {n : Nat} : addrR l = some n ↔ l = addrT n ∧ n < 4294967296 := by
  constructor
  · intro h
    unfold addrR at h
    rcases h3 : cutLast 46 l with _ | ⟨l3, p3⟩
    · simp [h3] at h
    rcases hd : num 255 p3 with _ | d
    · simp [h3, hd] at h
    rcases h2 : cutLast 46 l3 with _ | ⟨l2, p2⟩
    · simp [h3, hd, h2] at h
    rcases hc : num 255 p2 with _ | c
    · simp [h3, hd, h2, hc] at h
    rcases h1 : cutLast 46 l2 with _ | ⟨l1, p1⟩
    · simp [h3, hd, h2, hc, h1] at h
    rcases hb : num 255 p1 with _ | b
    · simp [h3, hd, h2, hc, h1, hb] at h
    rcases ha : num 255 l1 with _ | a
    · simp [h3, hd, h2, hc, h1, hb, ha] at h
    simp only [h3, hd, h2, hc, h1, hb, ha, Option.some.injEq] at h
    subst h
    obtain ⟨e3, _⟩ := cutLast_some.1 h3
    obtain ⟨e2, _⟩ := cutLast_some.1 h2
    obtain ⟨e1, _⟩ := cutLast_some.1 h1
    obtain ⟨ea, ha2⟩ := num_some.1 ha
    obtain ⟨eb, hb2⟩ := num_some.1 hb
    obtain ⟨ec, hc2⟩ := num_some.1 hc
    obtain ⟨ed, hd2⟩ := num_some.1 hd
    refine ⟨?_, addr4_lt ha2 hb2 hc2 hd2⟩
    rw [addrT4 hb2 hc2 hd2, e3, e2, e1, ea, eb, ec, ed]
    simp
  · rintro ⟨rfl, h⟩
    have e : addrT n = ((decDigits (n / 16777216) ++ 46 :: decDigits (n / 65536 % 256)) ++ 46 :: decDigits (n / 256 % 256)) ++ 46 :: decDigits (n % 256) := by simp [addrT]
    unfold addrR
    rw [e, cutLast_some.2 ⟨rfl, dec_no46⟩]
    simp only []
    rw [num_some.2 ⟨rfl, by omega⟩]
    simp only []
    rw [cutLast_some.2 ⟨rfl, dec_no46⟩]
    simp only []
    rw [num_some.2 ⟨rfl, by omega⟩]
    simp only []
    rw [cutLast_some.2 ⟨rfl, dec_no46⟩]
    simp only []
    rw [num_some.2 ⟨rfl, by omega⟩, num_some.2 ⟨rfl, by omega⟩]
    simp only [addr4_of]
theorem addrR_eq (l : List UInt8) : addrR l = addrOf l := by
  rcases h : addrOf l with _ | n
  · rcases h2 : addrR l with _ | m
    · rfl
    · rw [addrOf_some.2 (addrR_some.1 h2)] at h; cases h
  · exact addrR_some.2 (addrOf_some.1 h)

/-- What stands ahead of the first byte of a kind, and behind it. -/
def cutFirst (c : UInt8) : List UInt8 → Option (List UInt8 × List UInt8)
  | [] => none
  | b :: l => if b = c then some ([], l) else match cutFirst c l with | some (x, y) => some (b :: x, y) | none => none
theorem cutFirst_none {c : UInt8} : ∀ {l : List UInt8}, cutFirst c l = none ↔ c ∉ l
  | [] => by simp [cutFirst]
  | b :: l => by
    have ih := cutFirst_none (c := c) (l := l)
    rw [cutFirst]
    by_cases hb : b = c
    · simp [hb]
    · rcases hq : cutFirst c l with _ | ⟨x, y⟩
      · simp [hb, ih.1 hq, Ne.symm hb]
      · have : c ∈ l := by
          apply Classical.byContradiction
          intro hn; rw [ih.2 hn] at hq; cases hq
        simp [hb, this]
theorem cutFirst_some {c : UInt8} : ∀ {l a b : List UInt8}, cutFirst c l = some (a, b) ↔ l = a ++ c :: b ∧ c ∉ a
  | [], a, b => by simp [cutFirst]
  | d :: l, a, b => by
    rw [cutFirst]
    by_cases hd : d = c
    · subst hd
      simp only [if_true, Option.some.injEq, Prod.mk.injEq]
      constructor
      · rintro ⟨rfl, rfl⟩; exact ⟨rfl, by simp⟩
      · rintro ⟨h1, h2⟩
        cases a with
        | nil => simp at h1; exact ⟨rfl, h1⟩
        | cons z zs => simp at h1; exact absurd (by rw [← h1.1]; simp) h2
    · simp only [hd, if_false]
      rcases hq : cutFirst c l with _ | ⟨x, y⟩
      · have h1 := cutFirst_none.1 hq
        constructor
        · intro h; cases h
        · rintro ⟨h2, h3⟩
          cases a with
          | nil => simp at h2; exact absurd h2.1 hd
          | cons z zs => simp at h2; exact absurd (by rw [h2.2]; simp) h1
      · obtain ⟨h1, h2⟩ := cutFirst_some.1 hq
        simp only [Option.some.injEq, Prod.mk.injEq]
        constructor
        · rintro ⟨rfl, rfl⟩; exact ⟨by rw [h1]; rfl, by simp [h2, Ne.symm hd]⟩
        · rintro ⟨h3, h4⟩
          cases a with
          | nil => simp at h3; exact absurd h3.1 hd
          | cons z zs =>
            simp only [List.mem_cons, not_or] at h4
            simp at h3
            have := (cutFirst_some (c := c) (l := l)).2 ⟨h3.2, h4.2⟩
            rw [hq] at this
            simp at this
            exact ⟨by rw [h3.1, this.1], this.2⟩

/-- An address, a byte, and a number at most M. -/
def withT (c : UInt8) (a n : Nat) : List UInt8 := addrT a ++ c :: decDigits n
/-- .. read, the byte being the first of its kind. -/
def withOf (c : UInt8) (M : Nat) (l : List UInt8) : Option (Nat × Nat) :=
  match cutFirst c l with
  | none => none
  | some (x, y) => match addrOf x, num M y with
    | some a, some n => some (a, n)
    | _, _ => none
/-- .. the last. -/
def withR (c : UInt8) (M : Nat) (l : List UInt8) : Option (Nat × Nat) :=
  match cutLast c l with
  | none => none
  | some (x, y) => match addrOf x, num M y with
    | some a, some n => some (a, n)
    | _, _ => none
theorem withOf_some {c : UInt8} (h46 : c ≠ 46) (hd : ∀ u, c ∉ decDigits u) {M : Nat} {l : List UInt8} {a n : Nat} : withOf c M l = some (a, n) ↔ l = withT c a n ∧ a < 4294967296 ∧ n ≤ M := by
  constructor
  · intro h
    unfold withOf at h
    rcases hq : cutFirst c l with _ | ⟨x, y⟩
    · simp [hq] at h
    rcases ha : addrOf x with _ | a'
    · simp [hq, ha] at h
    rcases hn : num M y with _ | n'
    · simp [hq, ha, hn] at h
    simp only [hq, ha, hn, Option.some.injEq, Prod.mk.injEq] at h
    obtain ⟨rfl, rfl⟩ := h
    obtain ⟨ea, ha2⟩ := addrOf_some.1 ha
    obtain ⟨en, hn2⟩ := num_some.1 hn
    refine ⟨?_, ha2, hn2⟩
    unfold withT
    rw [(cutFirst_some.1 hq).1, ea, en]
  · rintro ⟨rfl, ha, hn⟩
    unfold withOf withT
    rw [cutFirst_some.2 ⟨rfl, addrT_no h46 hd⟩]
    simp only []
    rw [addrOf_some.2 ⟨rfl, ha⟩, num_some.2 ⟨rfl, hn⟩]
theorem withR_some {c : UInt8} (hd : ∀ u, c ∉ decDigits u) {M : Nat} {l : List UInt8} {a n : Nat} : withR c M l = some (a, n) ↔ l = withT c a n ∧ a < 4294967296 ∧ n ≤ M := by
  constructor
  · intro h
    unfold withR at h
    rcases hq : cutLast c l with _ | ⟨x, y⟩
    · simp [hq] at h
    rcases ha : addrOf x with _ | a'
    · simp [hq, ha] at h
    rcases hn : num M y with _ | n'
    · simp [hq, ha, hn] at h
    simp only [hq, ha, hn, Option.some.injEq, Prod.mk.injEq] at h
    obtain ⟨rfl, rfl⟩ := h
    obtain ⟨ea, ha2⟩ := addrOf_some.1 ha
    obtain ⟨en, hn2⟩ := num_some.1 hn
    refine ⟨?_, ha2, hn2⟩
    unfold withT
    rw [(cutLast_some.1 hq).1, ea, en]
  · rintro ⟨rfl, ha, hn⟩
    unfold withR withT
    rw [cutLast_some.2 ⟨rfl, hd _⟩]
    simp only []
    rw [addrOf_some.2 ⟨rfl, ha⟩, num_some.2 ⟨rfl, hn⟩]
theorem withR_eq {c : UInt8} (h46 : c ≠ 46) (hd : ∀ u, c ∉ decDigits u) (M : Nat) (l : List UInt8) : withR c M l = withOf c M l := by
  rcases h : withOf c M l with _ | ⟨a, n⟩
  · rcases h2 : withR c M l with _ | ⟨a, n⟩
    · rfl
    · rw [(withOf_some h46 hd).2 ((withR_some hd).1 h2)] at h; cases h
  · exact (withR_some hd).2 ((withOf_some h46 hd).1 h)
end Go.Proofs.YtdmbjndhdldggaaDoor

namespace Go.Proofs.YtdmbjndhdldggaaDoor
set_option linter.unusedVariables false
set_option linter.unusedSimpArgs false
open Go.RowKit Go.Lib Go.Sort

/-- How long a state lasts. -/
def lastN (f s : Nat) : Int := (([[0, 0, 0, 0, 0, 0, 0, 0], [0, 120, 300, 0, 0, 0, 0, 0], [0, 60, 60, 0, 0, 0, 0, 0], [0, 240, 240, 7440, 240, 240, 240, 240]] : List (List Int)).getD f []).getD s 0
/-- A protocol's word. -/
def wordOf (k : Nat) : List UInt8 := if k = 1 then [105, 99, 109, 112] else if k = 6 then [116, 99, 112] else if k = 17 then [117, 100, 112] else []
def isWord (k : Nat) : Bool := decide (k = 1 ∨ k = 6 ∨ k = 17)
/-- What the library's and the program's variables hold. -/
structure Tb (w : World) : Prop where
  pow : TabIs Tryd.prog w "internal/strconv.uint64pow10" .u64 pow10Tab
  lasts : ∀ f s, f < 4 → s < 8 → w.cell? ⟨1, f * 8 + s, none⟩ = some (.int .i64 (lastN f s))
  words : ∃ bm o, w.cell? ⟨0, 0, none⟩ = some (.map (some bm)) ∧ w.heap[bm]? = some o ∧ ∀ W : World, W.heap[bm]? = some o → ∀ k : Nat, k < 256 →
    (Instr.lookup 107 (.map (some bm)) (.int .u8 k) true).run Tryd.prog W = .ok (.tuple #[.string ⟨(wordOf k).toArray⟩, .bool (isWord k)]) W ∧
    (Instr.lookup 107 (.map (some bm)) (.int .u8 k) false).run Tryd.prog W = .ok (.string ⟨(wordOf k).toArray⟩) W
theorem Tb.low {w w' : World} (h : Tb w) (hf : NoW w w') : Tb w' := by
  obtain ⟨hp, hl, bm, o, h1, h2, h3⟩ := h
  refine ⟨tabBelow_of_tabIs hp _ hf.below, fun f s a b => (hf.cell (cell_lt (hl f s a b)) id).trans (hl f s a b), bm, o, (hf.cell (cell_lt h1) id).trans h1, ?_, h3⟩
  exact (hf.block _ (Array.getElem?_eq_some_iff.1 h2).1 id).trans h2
theorem noW_grow (w : World) (k : Nat) (os : Array Obj) : NoW w (grow (w.drewN k) os) := Fp.of_below (below_grow _ w (Nat.le_refl _) k os)
theorem noW_bytes (w : World) (e : TypeId) (s : ByteArray) : NoW w (bytesWorld w e s) := Fp.of_below (bytesWorld_below w e s)

/-- A text, as a list of bytes. -/
abbrev str (l : List UInt8) : Value := .string ⟨l.toArray⟩
theorem str_of (s : ByteArray) : ∃ l : List UInt8, s = ⟨l.toArray⟩ ∧ l.length = s.size := ⟨s.data.toList, by cases s; simp, by cases s; simp [ByteArray.size]⟩

theorem holds_zero0 (w : World) (T : TypeId) (nd : Nat) (hs : nd ≤ 24) : Holds (fun (b : UInt8) => Value.int .u8 (b.toNat : Int)) (w.alloc (.cells zeros24 T)) w.heap.size 0 (Array.replicate nd (0 : UInt8)) := fun j hj => by
  have hj' : j < nd := by simpa using hj
  refine ⟨?_, World.frozen?_alloc_new _ _ _ _⟩
  rw [World.cell?_alloc_new, zeros24_at _ (by omega), getElem!_pos _ j hj]
  simp

set_option maxHeartbeats 1000000 in
set_option maxRecDepth 100000 in
theorem fmt_in (u : Nat) (hu64 : u < 18446744073709551616) (w : World) (ht : Tb w) :
    Calls Tryd.prog 131 #[.int .u64 u, .int .i64 10] w (Ret1 (str (decDigits u)) w) := by
  have htab := ht.pow
  by_cases hs : u < 100
  · go_enter Tryd.func131, Tryd.ntmps131
    go_wp2_with fail
    refine (Tryd.internal_strconv_small u hs _).mono ?_
    rintro e w' ⟨rfl, rfl⟩
    go_wp2_with fail
    go_ret
    exact ⟨rfl, Fp.refl _ _⟩
  · have hu1 : 1 ≤ u := by omega
    have hnd20 : nDigits u ≤ 20 := nDigits_le20 u hu64
    have hb4 : nDigits u ≤ 24 := by omega
    have hal : Tryd.prog.arrayLen 150 = 24 := by kernel_rfl
    have hsl1 : ∀ W, (Instr.sliceAt 150 (.pointer (some ⟨w.heap.size, 0, none⟩)) none (some (.int .i64 (nDigits u : Int))) none).run Tryd.prog W = .ok (.slice (some ⟨w.heap.size, 0, none⟩) (nDigits u) 24) W := fun W => by
      rw [run_sliceAt_array_h W 150 ⟨w.heap.size, 0, none⟩ Tryd.underlying150 .i64 (nDigits u : Int) (by omega) (by rw [hal]; omega)]
      go_simp
    have hH0 := holds_zero0 w 150 (nDigits u) hb4
    have hfmt := Tryd.internal_strconv_formatBase10 w.heap.size 0 24 u (Array.replicate (nDigits u) 0) (w.alloc (.cells zeros24 150)) hH0 (by rw [Array.size_replicate]; exact lt_pow_nDigits u) hu64 (by rw [Array.size_replicate]; omega)
    rw [Array.size_replicate] at hfmt
    have HH0 := Lib.hid hH0
    have Hfmt := Lib.hid hfmt
    clear hH0 hal hfmt ht
    go_enter Tryd.func131, Tryd.ntmps131
    go_wp2_with fail
    refine (Tryd.internal_strconv_numDigits u hu1 hu64 _ (tabIs_alloc htab _)).mono ?_
    rintro e w' ⟨rfl, rfl⟩
    go_wp2_with fail
    refine Hfmt.out.mono ?_
    rintro e w' ⟨rfl, k, v', dk, rfl, hF⟩
    have hcv : (convert 121 9 (.slice (some ⟨w.heap.size, 0, none⟩) (nDigits u) 24)).run Tryd.prog ((putRow (fun (b : UInt8) => Value.int .u8 (b.toNat : Int)) (w.alloc (.cells zeros24 150)) w.heap.size 0 dk).drewN k) = .ok (.string ⟨(decDigits u).toArray⟩) ((putRow (fun (b : UInt8) => Value.int .u8 (b.toNat : Int)) (w.alloc (.cells zeros24 150)) w.heap.size 0 dk).drewN k) := by
      have h := run_convert_bytes_back (P := Tryd.prog) ((putRow (fun (b : UInt8) => Value.int .u8 (b.toNat : Int)) (w.alloc (.cells zeros24 150)) w.heap.size 0 dk).drewN k) 121 9 5 ⟨w.heap.size, 0, none⟩ 24 (decDigits u) Tryd.underlying121 Tryd.underlying5 Tryd.underlying9 (fun j hj => by
        rw [row_is_numeral hF j hj, add_plain, World.cell?_drewN]
        exact cell?_putRow (fun (b : UInt8) => Value.int .u8 (b.toNat : Int)) _ w.heap.size 0 _ dk HH0.out (by rw [hF.size, Array.size_replicate]) j (by rw [hF.size]; rw [decDigits_length] at hj; exact hj))
      rw [decDigits_length] at h
      exact h
    go_wp2
    go_ret
    refine ⟨rfl, ?_⟩
    rw [alloc_eq_grow]
    obtain ⟨os', _, e⟩ := putRow_grow_new (fun (b : UInt8) => Value.int .u8 (b.toNat : Int)) w #[.cells zeros24 150] w.heap.size 0 dk (Nat.le_refl _)
    rw [e]
    exact noW_grow w k os'

theorem fmt_any (u : Nat) (hu64 : u < 18446744073709551616) (w : World) (ht : Tb w) :
    Calls Tryd.prog 116 #[.int .u64 u, .int .i64 10] w (Ret1 (str (decDigits u)) w) := by
  go_enter Tryd.func116, Tryd.ntmps116
  go_wp2_with fail
  refine (fmt_in u hu64 w ht).mono ?_
  rintro e w' ⟨rfl, hp⟩
  go_wp2_with fail
  go_ret
  exact ⟨rfl, hp⟩
end Go.Proofs.YtdmbjndhdldggaaDoor

namespace Go.Proofs.YtdmbjndhdldggaaDoor
set_option linter.unusedVariables false
set_option linter.unusedSimpArgs false
open Go.RowKit Go.Lib Go.Sort

def pt (a : Nat) : List (List UInt8) := [decDigits (a / 16777216), decDigits (a / 65536 % 256), decDigits (a / 256 % 256), decDigits (a % 256)]
theorem infoStr : ∃ i, Tryd.prog.info? 9 = some i ∧ i.zero = some (.string ByteArray.empty) ∧ i.size = 1 ∧ i.bytes ≤ 65536 := by
  have h : ((Tryd.prog.info? 9).map fun i => (i.zero, i.size, decide (i.bytes ≤ 65536))) = some (some (.string ByteArray.empty), 1, true) := by kernel_rfl
  rcases hi : Tryd.prog.info? 9 with _ | i
  · simp [hi] at h
  · simp [hi] at h
    exact ⟨i, rfl, h.1, h.2.1, h.2.2⟩
theorem itoa_any (n : Nat) (hn : n < 9223372036854775807) (w : World) (ht : Tb w) : Calls Tryd.prog 59 #[.int .i64 n] w (Ret1 (str (decDigits n)) w) := by
  refine (Tryd.strconv_Itoa n (by omega) (by omega) w ht.pow).mono ?_
  rintro e w' ⟨rfl, k, os, rfl⟩
  exact ⟨by rw [itoa_nonneg], noW_grow w k os⟩
theorem and255 (x : Nat) (hx : x < 4294967296) : bits .and .u32 (x : Int) 255 = ((x % 256 : Nat) : Int) := by
  have h := u32_and_nat x 255 hx (by omega)
  rw [nat_mask8] at h
  exact h

theorem join_pt (a : Nat) : Lib.join (((pt a).map fun p => (⟨p.toArray⟩ : ByteArray)).map (·.data.toList)) (⟨#[46]⟩ : ByteArray).data.toList = addrT a := by
  simp [pt, Lib.join, List.intercalate, addrT]
theorem add_eq0 (b i : Nat) : (⟨b, 0, none⟩ : Addr).add i = ⟨b, i, none⟩ := by unfold Addr.add; split <;> simp_all

set_option maxHeartbeats 2000000 in
theorem ad_text (a : Nat) (ha : a < 4294967296) (w : World) (ht : Tb w) :
    Calls Tryd.prog 76 #[.int .u32 a] w (Ret1 (str (addrT a)) w) := by
  have Ht := Lib.hid ht
  clear ht
  have m0 := and255 (a / 16777216) (by omega)
  have m1 := and255 (a / 65536) (by omega)
  have m2 := and255 (a / 256) (by omega)
  have m3 := and255 a ha
  go_enter Tryd.func76, Tryd.ntmps76
  go_wp2_with fail
  go_loopg [3, 4] 5 (fun g v i wx => ∃ (k : Nat) (v' : Value), v' = v ∧ k ≤ 4 ∧ g = 5 - k ∧ i = .int .i64 (24 - 8 * (k : Int)) ∧ wx.ownsRow w.heap.size 9 1 v' k (((pt a).map str).take k) ∧ NoW w wx)
  case atStart => exact ⟨0, _, rfl, by omega, rfl, rfl, World.ownsRow_nil _ _ _ 1, Fp.refl _ _⟩
  case round =>
    obtain ⟨k, v, rfl, hk, hg, rfl, hown, hf⟩ := hrel
    have Hg := Lib.hid hg
    have Hf := Lib.hid hf
    have Hown := Lib.hid hown
    have hsz := hf.size
    clear hg hf hown
    by_cases hlt : k < 4
    · obtain ⟨n, hn⟩ : ∃ n : Nat, (pt a)[k]? = some (decDigits n) ∧ n < 256 ∧ bits .and .u32 ((a : Int) / 2 ^ (24 - 8 * k)) 255 = (n : Int) := by
        have : k = 0 ∨ k = 1 ∨ k = 2 ∨ k = 3 := by omega
        rcases this with rfl | rfl | rfl | rfl
        · exact ⟨a / 16777216, rfl, by omega, by rw [show (a : Int) / 2 ^ (24 - 8 * 0) = ((a / 16777216 : Nat) : Int) by simp, m0, Nat.mod_eq_of_lt (by omega)]⟩
        · exact ⟨a / 65536 % 256, rfl, by omega, by rw [show (a : Int) / 2 ^ (24 - 8 * 1) = ((a / 65536 : Nat) : Int) by simp, m1]⟩
        · exact ⟨a / 256 % 256, rfl, by omega, by rw [show (a : Int) / 2 ^ (24 - 8 * 2) = ((a / 256 : Nat) : Int) by simp, m2]⟩
        · exact ⟨a % 256, rfl, by omega, by rw [show (a : Int) / 2 ^ (24 - 8 * 3) = ((a : Nat) : Int) by simp, m3]⟩
      obtain ⟨hp, hn256, hbit⟩ := hn
      have Hp := Lib.hid hp
      clear hp
      clear m0 m1 m2 m3
      go_wp2_with fail
      refine (itoa_any n (by omega) _ (Ht.out.low Hf.out)).mono ?_
      rintro e w2 ⟨rfl, hp2⟩
      have hown2 : w2.ownsRow w.heap.size 9 1 v k (((pt a).map str).take k) := ownsRow_of_block Hown.out fun g e => hp2.block g (World.ownsRow.lt Hown.out g e).2 id
      have Hf2 := Lib.hid (Hf.out.trans hp2 (fun _ _ h => h))
      have Hown2 := Lib.hid hown2
      have hsz2 := Hf2.out.size
      clear hp2 hown2 Hf Hown
      go_wp2_with (at_builtin; refine wp_append1 rfl _ _ 93 rfl w.heap.size 9 (.string ByteArray.empty) 1 Tryd.underlying93 infoStr rfl (by decide) v k _ rfl (World.ownsRow.alloc Hown2.out _) w2.heap.size [str (decDigits n)] rfl rfl (heap_new _ _ _ rfl) ?_ ?_ ?_ ?_)
      · intro u hu; simp at hu; rw [hu]; rfl
      · omega
      · simp; omega
      intro v2 w3 hown3 hgr3 _ _
      have hf3 : NoW w w3 := Fp.grown (Hf2.out.alloc _) hgr3 (fun q e => Or.inl (World.ownsRow.lt Hown2.out q e).1)
      have htk : ((pt a).map str).take (k + 1) = ((pt a).map str).take k ++ [str (decDigits n)] := by
        rw [List.take_add_one, List.getElem?_map, Hp.out]; rfl
      rw [← htk] at hown3
      have Hown3 := Lib.hid hown3
      have Hf3 := Lib.hid hf3
      clear hown3 hgr3 htk hf3 Hown2 Hf2 hbit
      go_wp2_with fail
      go_roundg (4 - k)
      case measure => have := Hg.out; omega
      case rel => exact ⟨k + 1, _, rfl, by omega, by omega, by go_num, Hown3.out, Hf3.out⟩
    · obtain rfl : k = 4 := by omega
      obtain ⟨gv, cap, hv, hcap, hlt2, hcell⟩ : ∃ (gv cap : Nat), v = .slice (some ⟨gv, 0, none⟩) 4 cap ∧ 4 ≤ cap ∧ gv < wr.heap.size ∧ ∀ j u, (((pt a).map str).take 4)[j]? = some u → wr.cell? ⟨gv, j, none⟩ = some u := by
        have hc := Hown.out
        obtain ⟨_, h2⟩ := Hown.out
        rcases h2 with ⟨_, h0⟩ | ⟨g, cap, cur, rfl, hg2, hh, hcap, hcap2, hcs, htk⟩
        · omega
        · refine ⟨g, cap, rfl, hcap, (Array.getElem?_eq_some_iff.1 hh).1, fun j u hj => ?_⟩
          have := World.ownsRow.cells hc (g := g) rfl j u hj
          rwa [add_eq0] at this
      subst hv
      have Hcell := Lib.hid hcell
      clear hcell Hown m0 m1 m2 m3
      go_wp2_with fail
      have hj := Tryd.strings_Join gv 0 cap ((pt a).map fun p => (⟨p.toArray⟩ : ByteArray)) ⟨#[46]⟩ wr (fun j x hx => by
        have h1 : (((pt a).map str).take 4)[j]? = some (.string x) := by
          rw [List.take_of_length_le (by simp [pt]), List.getElem?_map]
          rw [List.getElem?_map] at hx
          rcases hp : (pt a)[j]? with _ | p
          · simp [hp] at hx
          · simp only [hp, Option.map_some, Option.some.injEq] at hx ⊢
            rw [← hx]
        rw [Nat.zero_add]
        exact Hcell.out j _ h1) hlt2 (by simp [pt]) (by simpa [pt] using hcap) (by
          have := addrT_len ha
          rw [join_pt]; omega)
      refine (show Calls _ _ _ _ _ from hj).mono ?_
      rintro e w2 ⟨rfl, hb2⟩
      have Hw := Lib.hid (Hf.out.trans (Fp.of_below hb2) (fun _ _ h => h))
      clear hb2 hj
      rw [join_pt]
      go_wp2_with fail
      go_ret
      exact ⟨rfl, Hw.out⟩
end Go.Proofs.YtdmbjndhdldggaaDoor

namespace Go.Proofs.YtdmbjndhdldggaaDoor
set_option linter.unusedVariables false
set_option linter.unusedSimpArgs false
section
variable {P : Program} {ops : Array Oper} {Q : Exit → Act → World → Prop} {md : Region.Mode} {S : World → Prop}
theorem take_at (i : Nat) (d : Option Tmp) {oi : Oper} {v : Value} {fuel : Nat} {listed : Array Bool} {a : Act} {w : World} (hi : ops[i]? = some oi) (hd : oi.dst = d)
    (hs : Region.noSelect ops = true) (hf : Region.free md ops listed i = true) (hr : (Region.ready md ops listed).contains i = true)
    (hQ : ∀ c a w, Q (.panic c) (a.put d v) w → Q (.panic c) a w) (hw : Region.wanted oi (yielded ops a.tmps) = true)
    (hy : ∀ w, S w → (execOp a.eval oi).run P w = .ok (.value v) w) (hS : S w)
    (h : wpAnyH P md ops Q S fuel (listed.setIfInBounds i true) (a.put d v) w) : wpAnyH P md ops Q S (fuel + 1) listed a w := by
  subst hd
  exact wpAnyH_take hi hs hf hr hQ (Or.inl ⟨hw, hy⟩) hS h
theorem drop_at (i : Nat) (d : Option Tmp) {oi : Oper} {fuel : Nat} {listed : Array Bool} {a : Act} {w : World} (hi : ops[i]? = some oi) (hd : oi.dst = d)
    (hs : Region.noSelect ops = true) (hf : Region.free md ops listed i = true) (hr : (Region.ready md ops listed).contains i = true)
    (hQ : ∀ c a w, Q (.panic c) (a.put d undef) w → Q (.panic c) a w) (hw : Region.wanted oi (yielded ops a.tmps) = false) (hS : S w)
    (h : wpAnyH P md ops Q S fuel (listed.setIfInBounds i true) (a.put d undef) w) : wpAnyH P md ops Q S (fuel + 1) listed a w := by
  subst hd
  exact wpAnyH_take hi hs hf hr hQ (Or.inr ⟨hw, rfl⟩) hS h
/-- The one operation that may come up: a call. -/
theorem only_at (i : Nat) (d : Option Tmp) {o : Oper} {fuel : Nat} {listed : Array Bool} {a : Act} {w : World} (hr : Region.ready md ops listed = [i]) (ho : ops[i]? = some o) (hd : o.dst = d) (hw : Region.wanted o (yielded ops a.tmps) = true)
    (h : ∀ K' : Act → World → Prop, Shut (∀ a w, S w → (S w → wpAnyH P md ops Q S fuel (listed.setIfInBounds i true) a w) → K' a w) → Oper.wp P { o with dst := d } a w K' Q) : wpAnyH P md ops Q S (fuel + 1) listed a w := by
  subst hd
  exact wpAnyH_ready hr (by simp) (AllReadyH.cons ho (fun K hK => by rw [if_pos hw]; exact h K hK) AllReadyH.nil)
end
end Go.Proofs.YtdmbjndhdldggaaDoor

namespace Go.Proofs.YtdmbjndhdldggaaDoor
set_option linter.unusedVariables false
set_option linter.unusedSimpArgs false
open Go.RowKit Go.Lib Go.Sort

set_option maxHeartbeats 2000000 in
theorem point_text (a : Nat) (ha : a < 4294967296) (p : Nat) (hp : p < 65536) (w : World) (ht : Tb w) :
    Calls Tryd.prog 60 #[.agg #[.int .u32 a, .int .u16 p]] w (Ret1 (str (withT 58 a p)) w) := by
  have hl1 := addrT_len ha
  have hl2 := dec_len 5 p (by omega) (by omega)
  have hadd1 : ∀ W, (Op.stringOp .add ⟨(addrT a).toArray⟩ ⟨#[58]⟩).run Tryd.prog W = .ok (str (addrT a ++ [58])) W := fun W => run_string_add_lists W (addrT a) [58] (by omega) (by simp)
  have hadd2 : ∀ W, (Op.stringOp .add ⟨(addrT a ++ [58]).toArray⟩ ⟨(decDigits p).toArray⟩).run Tryd.prog W = .ok (str (addrT a ++ [58] ++ decDigits p)) W := fun W => run_string_add_lists W (addrT a ++ [58]) (decDigits p) (by simp; omega) (by omega)
  have hw16 : IntKind.i64.wrap (p : Int) = p := IntWalk.i64_in _ (by omega)
  go_enter Tryd.func60, Tryd.ntmps60
  go_wp2_with fail
  have h0 : (w.alloc (.cells #[.int .u32 a, .int .u16 p] 26)).cell? ⟨w.heap.size, 0, none⟩ = some (.int .u32 a) := by simp
  have h1 : (w.alloc (.cells #[.int .u32 a, .int .u16 p] 26)).cell? ⟨w.heap.size, 1, none⟩ = some (.int .u16 p) := by simp
  have hn0 : NoW w (w.alloc (.cells #[.int .u32 a, .int .u16 p] 26)) := (Fp.refl _ _).alloc _
  generalize w.alloc (.cells #[.int .u32 a, .int .u16 p] 26) = w0 at *
  generalize w.heap.size = g at *
  have Hl : withT 58 a p = addrT a ++ 58 :: decDigits p := rfl
  have HL := Lib.hid Hl
  clear Hl
  have ht0 := ht.low hn0
  have hT := fun W (h : NoW w0 W) => ad_text a ha W (ht0.low h)
  have hI := fun W (h : NoW w0 W) => itoa_any p (by omega) W (ht0.low h)
  have lg : g < w0.heap.size := cell_lt h0
  have hkk : ∀ wx, NoW w0 wx → wx.cell? ⟨g, 0, none⟩ = some (.int .u32 a) ∧ wx.cell? ⟨g, 1, none⟩ = some (.int .u16 p) :=
    fun wx hn => ⟨(hn.cell (p := ⟨g, 0, none⟩) lg id).trans h0, (hn.cell (p := ⟨g, 1, none⟩) lg id).trans h1⟩
  have Hkk := Lib.hid hkk
  have HT := Lib.hid hT
  have HI := Lib.hid hI
  have Hn0 := Lib.hid hn0
  clear hkk h0 h1 hT hI ht0 ht hn0 ha
  go_region_held3 (fun wx => wx.cell? ⟨g, 0, none⟩ = some (.int .u32 a) ∧ wx.cell? ⟨g, 1, none⟩ = some (.int .u16 p)) (first | exact Hkk.out _ hn | exact Hkk.out _ (Fp.drew (Fp.refl _ _)))
    (first | (go_at_call 76; refine (HT.out _ (by first | exact hn | exact Fp.drew (Fp.refl _ _))).mono ?_; rintro e w1 ⟨rfl, hq⟩; have hm : NoW w0 w1 := Fp.trans (by first | exact hn | exact Fp.drew (Fp.refl _ _)) hq (fun _ _ h => h); clear hq; (try clear hn); have hn := hm; clear hm) | (go_at_call 59; refine (HI.out _ (by first | exact hn | exact Fp.drew (Fp.refl _ _))).mono ?_; rintro e w1 ⟨rfl, hq⟩; have hm : NoW w0 w1 := Fp.trans (by first | exact hn | exact Fp.drew (Fp.refl _ _)) hq (fun _ _ h => h); clear hq; (try clear hn); have hn := hm; clear hm))
  all_goals go_wp2_with fail
  all_goals go_ret
  all_goals exact ⟨by rw [HL.out]; rfl, Hn0.out.trans hn (fun _ _ h => h)⟩

set_option maxHeartbeats 1000000 in
theorem less_ok (a p b q : Nat) (w : World) :
    Calls Tryd.prog 66 #[.agg #[.int .u32 a, .int .u16 p], .agg #[.int .u32 b, .int .u16 q]] w (Ret1 (.bool (decide (a < b ∨ a = b ∧ p < q))) w) := by
  by_cases h : a = b
  · subst h
    have e : decide (a < a ∨ a = a ∧ p < q) = decide (p < q) := by simp
    rw [e]
    clear e
    go_enter Tryd.func66, Tryd.ntmps66
    go_wp2_with fail
    go_ret
    exact ⟨rfl, ((Fp.refl _ _).alloc _).alloc _⟩
  · have e : decide (a < b ∨ a = b ∧ p < q) = decide (a < b) := by simp [h]
    rw [e]
    have h2 : ((a : Int) == (b : Int)) = false := by simp; omega
    clear e h
    go_enter Tryd.func66, Tryd.ntmps66
    go_wp2_with fail
    go_ret
    exact ⟨rfl, ((Fp.refl _ _).alloc _).alloc _⟩
end Go.Proofs.YtdmbjndhdldggaaDoor

namespace Go.Proofs.YtdmbjndhdldggaaDoor
set_option linter.unusedVariables false
set_option linter.unusedSimpArgs false
open Go.Lib

theorem ib_cut (c : UInt8) : ∀ l : List UInt8, (indexByte l c = -1 ∧ cutFirst c l = none) ∨ ∃ i : Nat, indexByte l c = i ∧ cutFirst c l = some (l.take i, l.drop (i + 1))
  | [] => .inl ⟨rfl, rfl⟩
  | b :: l => by
    by_cases hb : b = c
    · subst hb
      exact .inr ⟨0, by simp [indexByte], by simp [cutFirst]⟩
    · have hb2 : (b == c) = false := by simpa using hb
      rcases ib_cut c l with ⟨h1, h2⟩ | ⟨i, h1, h2⟩
      · exact .inl ⟨by simp [indexByte, hb2, h1], by simp [cutFirst, hb, h2]⟩
      · refine .inr ⟨i + 1, ?_, by simp [cutFirst, hb, h2]⟩
        have : ((i : Int) == -1) = false := by simp
        simp [indexByte, hb2, h1, this]

theorem lib_cut (l : List UInt8) (c : UInt8) : cut l [c] = match cutFirst c l with | some (a, b) => (a, b, true) | none => (l, [], false) := by
  unfold cut
  rw [index_one]
  rcases ib_cut c l with ⟨h1, h2⟩ | ⟨i, h1, h2⟩
  · rw [h1, h2]; rfl
  · rw [h1, h2, if_pos (by omega)]
    simp

theorem pieces_cut {c : UInt8} {l a b : List UInt8} (h : cutFirst c l = some (a, b)) : pieces c l = a :: pieces c b := by
  obtain ⟨rfl, h2⟩ := cutFirst_some.1 h
  rw [pieces_append, pieces_no h2]; rfl

theorem lib_split (c : UInt8) : ∀ (k : Nat) (l : List UInt8), l.count c = k → splitK [c] 0 k l = pieces c l
  | 0, l, h => by
    have : c ∉ l := List.count_eq_zero.1 h
    rw [pieces_no this]; rfl
  | k + 1, l, h => by
    rw [splitK, index_one]
    rcases ib_cut c l with ⟨_, h2⟩ | ⟨i, h1, h2⟩
    · have := cutFirst_none.1 h2
      rw [List.count_eq_zero.2 this] at h; omega
    · have hn : ((i : Int) == -1) = false := by simp
      rw [h1, hn]
      have h3 := cutFirst_some.1 h2
      have hc : (l.drop (i + 1)).count c = k := by
        have e := congrArg (List.count c) h3.1
        rw [List.count_append, List.count_cons_self, List.count_eq_zero.2 h3.2] at e
        omega
      rw [pieces_cut h2]
      simp only [Bool.false_eq_true, if_false, Int.toNat_natCast, Nat.add_zero, List.length_singleton]
      rw [lib_split c k _ hc]

theorem byte_str (s : ByteArray) : s = ⟨s.data.toList.toArray⟩ := by cases s; simp

/-- The pieces that strings.Split lays. -/
theorem split_list (c : UInt8) (l : List UInt8) : splitB ⟨#[c]⟩ 0 (countB ⟨l.toArray⟩ ⟨#[c]⟩) ⟨l.toArray⟩ = (pieces c l).map (fun p => ⟨p.toArray⟩) := by
  have h := splitB_data ⟨#[c]⟩ 0 (countB ⟨l.toArray⟩ ⟨#[c]⟩) ⟨l.toArray⟩
  have hk : countB ⟨l.toArray⟩ ⟨#[c]⟩ = l.count c := by
    show Lib.count l [c] = _
    exact count_one c l
  rw [hk] at h ⊢
  have h2 : (splitB ⟨#[c]⟩ 0 (l.count c) ⟨l.toArray⟩).map (·.data.toList) = pieces c l := by rw [h]; exact lib_split c _ l rfl
  rw [← h2, List.map_map]
  conv => lhs; rw [← List.map_id (splitB ⟨#[c]⟩ 0 (l.count c) ⟨l.toArray⟩)]
  exact List.map_congr_left fun s _ => byte_str s
theorem count_list (c : UInt8) (l : List UInt8) : countB ⟨l.toArray⟩ ⟨#[c]⟩ + 1 = (pieces c l).length := by
  rw [pieces_len]
  show Lib.count l [c] + 1 = _
  rw [count_one]
theorem pieces_le {c : UInt8} : ∀ {l p : List UInt8}, p ∈ pieces c l → p.length ≤ l.length
  | [], p, h => by simp [pieces] at h; subst h; exact Nat.le_refl _
  | b :: l, p, h => by
    rw [pieces] at h
    split at h
    · rcases List.mem_cons.1 h with rfl | h
      · simp
      · have := pieces_le h; simp; omega
    · rcases hq : pieces c l with _ | ⟨q, qs⟩
      · exact absurd hq (pieces_ne c l)
      · rw [hq] at h
        rcases List.mem_cons.1 h with rfl | h
        · have := pieces_le (l := l) (p := q) (by rw [hq]; simp)
          simp; omega
        · have := pieces_le (l := l) (p := p) (by rw [hq]; simp [h])
          simp; omega
end Go.Proofs.YtdmbjndhdldggaaDoor

namespace Go.Proofs.YtdmbjndhdldggaaDoor
set_option linter.unusedVariables false
set_option linter.unusedSimpArgs false
open Go.RowKit Go.Lib Go.Sort
structure TbP (w : World) : Prop where
  base : Tb w
  mx : ∃ m, w.cell? ⟨5, 0, none⟩ = some (.int .i64 m)
  es : ∃ ev, w.cell? ⟨2, 0, none⟩ = some ev ∧ (ev = .nilIface ∨ ∃ te pe, ev = .iface te pe)
  er : ∃ ev, w.cell? ⟨3, 0, none⟩ = some ev ∧ (ev = .nilIface ∨ ∃ te pe, ev = .iface te pe)
theorem TbP.low {w w' : World} (h : TbP w) (hf : NoW w w') : TbP w' := by
  obtain ⟨hb, ⟨m, hm⟩, ⟨ev, h1, h2⟩, ⟨ev', h3, h4⟩⟩ := h
  exact ⟨hb.low hf, ⟨m, (hf.cell (cell_lt hm) id).trans hm⟩, ⟨ev, (hf.cell (cell_lt h1) id).trans h1, h2⟩, ⟨ev', (hf.cell (cell_lt h3) id).trans h3, h4⟩⟩
end Go.Proofs.YtdmbjndhdldggaaDoor

namespace Go.Proofs.YtdmbjndhdldggaaDoor
set_option linter.unusedVariables false
set_option linter.unusedSimpArgs false
open Go.RowKit Go.Lib Go.Sort

/-- What 'number' answers. -/
def numV (k : IntKind) : Option Nat → Value
  | some n => .tuple #[.int k n, .bool true]
  | none => .tuple #[.int k 0, .bool false]

theorem parse8 (l : List UInt8) (hl : l.length ≤ 281474976710656) (w : World) (ht : TbP w) :
    Calls Tryd.prog 115 #[str l, .int .i64 10, .int .i64 8] w fun e w' => NoW w w' ∧ ((∃ n, parseUintB 8 l = .ok n ∧ e = .returned (.tuple #[.int .u64 n, .nilIface])) ∨ ((∀ n, parseUintB 8 l ≠ .ok n) ∧ ∃ (x : Int) (N : Nat), e = .returned (.tuple #[.int .u64 x, .iface 146 (.pointer (some ⟨N, 0, none⟩))]))) := by
  obtain ⟨ev, h1, h2⟩ := ht.es
  obtain ⟨ev', h3, h4⟩ := ht.er
  have hsz : (⟨l.toArray⟩ : ByteArray).size ≤ 281474976710656 := by simpa [ByteArray.size] using hl
  rcases hp : parseUintB 8 l with n | _ | _
  · refine (Tryd.strconv_ParseUint_10_at8_ok ⟨l.toArray⟩ (by omega) n hp w).mono ?_
    rintro e w' ⟨rfl, hw⟩
    refine ⟨?_, .inl ⟨n, rfl, rfl⟩⟩
    rcases hw with rfl | rfl
    · exact Fp.refl _ _
    · exact noW_bytes _ _ _
  · refine (Tryd.strconv_ParseUint_10_at8_syntax ⟨l.toArray⟩ hsz hp ev w h1 h2).mono ?_
    rintro e w' ⟨N, rfl, _, _, hb⟩
    exact ⟨Fp.of_below hb, .inr ⟨(fun n h => by cases h), 0, N, rfl⟩⟩
  · refine (Tryd.strconv_ParseUint_10_at8_range ⟨l.toArray⟩ hsz hp ev' w h3 h4).mono ?_
    rintro e w' ⟨N, rfl, _, _, hb⟩
    exact ⟨Fp.of_below hb, .inr ⟨(fun n h => by cases h), 255, N, rfl⟩⟩

theorem parse16 (l : List UInt8) (hl : l.length ≤ 281474976710656) (w : World) (ht : TbP w) :
    Calls Tryd.prog 115 #[str l, .int .i64 10, .int .i64 16] w fun e w' => NoW w w' ∧ ((∃ n, parseUintB 16 l = .ok n ∧ e = .returned (.tuple #[.int .u64 n, .nilIface])) ∨ ((∀ n, parseUintB 16 l ≠ .ok n) ∧ ∃ (x : Int) (N : Nat), e = .returned (.tuple #[.int .u64 x, .iface 146 (.pointer (some ⟨N, 0, none⟩))]))) := by
  obtain ⟨ev, h1, h2⟩ := ht.es
  obtain ⟨ev', h3, h4⟩ := ht.er
  have hsz : (⟨l.toArray⟩ : ByteArray).size ≤ 281474976710656 := by simpa [ByteArray.size] using hl
  rcases hp : parseUintB 16 l with n | _ | _
  · refine (Tryd.strconv_ParseUint_10_at16_ok ⟨l.toArray⟩ (by omega) n hp w).mono ?_
    rintro e w' ⟨rfl, hw⟩
    refine ⟨?_, .inl ⟨n, rfl, rfl⟩⟩
    rcases hw with rfl | rfl
    · exact Fp.refl _ _
    · exact noW_bytes _ _ _
  · refine (Tryd.strconv_ParseUint_10_at16_syntax ⟨l.toArray⟩ hsz hp ev w h1 h2).mono ?_
    rintro e w' ⟨N, rfl, _, _, hb⟩
    exact ⟨Fp.of_below hb, .inr ⟨(fun n h => by cases h), 0, N, rfl⟩⟩
  · refine (Tryd.strconv_ParseUint_10_at16_range ⟨l.toArray⟩ hsz hp ev' w h3 h4).mono ?_
    rintro e w' ⟨N, rfl, _, _, hb⟩
    exact ⟨Fp.of_below hb, .inr ⟨(fun n h => by cases h), 65535, N, rfl⟩⟩

set_option maxHeartbeats 1000000 in
theorem number8 (l : List UInt8) (hl : l.length ≤ 281474976710656) (w : World) (ht : TbP w) :
    Calls Tryd.prog 114 #[str l, .int .i64 8] w (Ret1 (numV .u8 (num 255 l)) w) := by
  go_enter Tryd.func114, Tryd.ntmps114
  go_wp2_with fail
  refine (parse8 l hl w ht).mono ?_
  rintro e w1 ⟨hp1, ⟨n, hpn, rfl⟩ | ⟨hpn, x, N, rfl⟩⟩
  · have ht1 := ht.low hp1
    have Ht1 := Lib.hid ht1
    have Hp1 := Lib.hid hp1
    have hn : n ≤ 255 := by
      unfold parseUintB at hpn
      split at hpn
      · cases hpn
      · exact (parse_le _ l 0 n (Nat.zero_le _) hpn).1
    have Hpn := Lib.hid hpn
    clear ht1 hp1 hpn ht
    go_wp2_with fail
    refine (fmt_any n (by omega) _ Ht1.out.base).mono ?_
    rintro e w2 ⟨rfl, hp2⟩
    have Hp2 := Lib.hid (Hp1.out.trans hp2 (fun _ _ h => h))
    clear hp2 Ht1 Hp1
    rcases hnum : num 255 l with _ | m
    · have hne := (parse_no (B := 8) hnum Hpn.out).1
      have hb : (decDigits n == l) = false := beq_eq_false_iff_ne.2 hne
      have Hnum := Lib.hid hnum
      clear hne hnum
      go_wp2_with fail
      refine bodyPost_ret (v := .tuple #[.int .u8 0, .bool false]) (by simp [results, Tryd.results114, go_sem]) rfl ⟨by rw [Hnum.out]; rfl, Hp2.out⟩
    · obtain ⟨rfl, hm⟩ := num_some.1 hnum
      have := parse_num (B := 8) (by decide) hnum
      rw [Hpn.out] at this
      cases this
      have hw8 : IntKind.u8.wrap (n : Int) = n := IntWalk.u8_in _ (by omega)
      have Hnum := Lib.hid hnum
      clear hnum
      go_wp2_with fail
      refine bodyPost_ret (v := .tuple #[.int .u8 n, .bool true]) (by simp [results, Tryd.results114, go_sem]) rfl ⟨by rw [Hnum.out]; rfl, Hp2.out⟩
  · have hnum : num 255 l = none := by
      rcases h : num 255 l with _ | n
      · rfl
      · exact absurd (parse_num (B := 8) (by decide) h) (hpn n)
    have Hnum := Lib.hid hnum
    clear hnum hpn ht
    go_wp2_with fail
    refine bodyPost_ret (v := .tuple #[.int .u8 0, .bool false]) (by simp [results, Tryd.results114, go_sem]) rfl ⟨by rw [Hnum.out]; rfl, hp1⟩

set_option maxHeartbeats 1000000 in
theorem number16 (l : List UInt8) (hl : l.length ≤ 281474976710656) (w : World) (ht : TbP w) :
    Calls Tryd.prog 96 #[str l, .int .i64 16] w (Ret1 (numV .u16 (num 65535 l)) w) := by
  go_enter Tryd.func96, Tryd.ntmps96
  go_wp2_with fail
  refine (parse16 l hl w ht).mono ?_
  rintro e w1 ⟨hp1, ⟨n, hpn, rfl⟩ | ⟨hpn, x, N, rfl⟩⟩
  · have ht1 := ht.low hp1
    have Ht1 := Lib.hid ht1
    have Hp1 := Lib.hid hp1
    have hn : n ≤ 65535 := by
      unfold parseUintB at hpn
      split at hpn
      · cases hpn
      · exact (parse_le _ l 0 n (Nat.zero_le _) hpn).1
    have Hpn := Lib.hid hpn
    clear ht1 hp1 hpn ht
    go_wp2_with fail
    refine (fmt_any n (by omega) _ Ht1.out.base).mono ?_
    rintro e w2 ⟨rfl, hp2⟩
    have Hp2 := Lib.hid (Hp1.out.trans hp2 (fun _ _ h => h))
    clear hp2 Ht1 Hp1
    rcases hnum : num 65535 l with _ | m
    · have hne := (parse_no (B := 16) hnum Hpn.out).1
      have hb : (decDigits n == l) = false := beq_eq_false_iff_ne.2 hne
      have Hnum := Lib.hid hnum
      clear hne hnum
      go_wp2_with fail
      refine bodyPost_ret (v := .tuple #[.int .u16 0, .bool false]) (by simp [results, Tryd.results96, go_sem]) rfl ⟨by rw [Hnum.out]; rfl, Hp2.out⟩
    · obtain ⟨rfl, hm⟩ := num_some.1 hnum
      have := parse_num (B := 16) (by decide) hnum
      rw [Hpn.out] at this
      cases this
      have hw16 : IntKind.u16.wrap (n : Int) = n := IntWalk.u16_in _ (by omega)
      have Hnum := Lib.hid hnum
      clear hnum
      go_wp2_with fail
      refine bodyPost_ret (v := .tuple #[.int .u16 n, .bool true]) (by simp [results, Tryd.results96, go_sem]) rfl ⟨by rw [Hnum.out]; rfl, Hp2.out⟩
  · have hnum : num 65535 l = none := by
      rcases h : num 65535 l with _ | n
      · rfl
      · exact absurd (parse_num (B := 16) (by decide) h) (hpn n)
    have Hnum := Lib.hid hnum
    clear hnum hpn ht
    go_wp2_with fail
    refine bodyPost_ret (v := .tuple #[.int .u16 0, .bool false]) (by simp [results, Tryd.results96, go_sem]) rfl ⟨by rw [Hnum.out]; rfl, hp1⟩
end Go.Proofs.YtdmbjndhdldggaaDoor

namespace Go.Proofs.YtdmbjndhdldggaaDoor
set_option linter.unusedVariables false
set_option linter.unusedSimpArgs false
open Go.RowKit Go.Lib Go.Sort

/-- What Parse answers. -/
def adV : Option Nat → Value
  | some n => .tuple #[.int .u32 n, .int .i64 0]
  | none => .tuple #[.int .u32 0, .int .i64 3]

/-- The parts that are read so far. -/
def parts : List (List UInt8) → Option Nat
  | [] => some 0
  | p :: ps => match num 255 p, parts ps with | some n, some m => some (n * 256 ^ ps.length + m) | _, _ => none

/-- Parts, from the front on. -/
def fold4 (ps : List (List UInt8)) : Option Nat := ps.foldl (fun o p => match o, num 255 p with | some a, some n => some (a * 256 + n) | _, _ => none) (some 0)
theorem fold4_snoc (ps : List (List UInt8)) (p : List UInt8) : fold4 (ps ++ [p]) = match fold4 ps, num 255 p with | some a, some n => some (a * 256 + n) | _, _ => none := by
  unfold fold4; rw [List.foldl_append]; rfl
theorem fold4_addr (l : List UInt8) : (if (pieces 46 l).length = 4 then fold4 (pieces 46 l) else none) = addrOf l := by
  unfold addrOf
  split
  · rename_i h
    rcases hp : pieces 46 l with _ | ⟨a, _ | ⟨b, _ | ⟨c, _ | ⟨d, _ | ⟨e, r⟩⟩⟩⟩⟩
    all_goals (rw [hp] at h; simp at h)
    rcases ha : num 255 a with _ | na <;> rcases hb : num 255 b with _ | nb <;> rcases hc : num 255 c with _ | nc <;> rcases hd : num 255 d with _ | nd <;> simp [fold4, ha, hb, hc, hd, addr4]
  · rename_i h
    rcases hp : pieces 46 l with _ | ⟨a, _ | ⟨b, _ | ⟨c, _ | ⟨d, _ | ⟨e, r⟩⟩⟩⟩⟩
    all_goals first | (rw [hp] at h; simp at h; done) | rfl
theorem fold4_none (ps : List (List UInt8)) (p : List UInt8) (qs : List (List UInt8)) (h : num 255 p = none) : fold4 (ps ++ p :: qs) = none := by
  unfold fold4
  rw [List.foldl_append, List.foldl_cons, h]
  have : ∀ (qs : List (List UInt8)), qs.foldl (fun o p => match o, num 255 p with | some a, some n => some (a * 256 + n) | _, _ => none) (none : Option Nat) = none := by
    intro qs
    induction qs with
    | nil => rfl
    | cons q qs ih => rw [List.foldl_cons]; exact ih
  generalize List.foldl _ (some 0) ps = o
  cases o <;> exact this qs
theorem fold4_lt : ∀ (k : Nat) (ps : List (List UInt8)) (a : Nat), ps.length = k → fold4 ps = some a → a < 256 ^ k
  | 0, ps, a, hl, h => by
    obtain rfl : ps = [] := List.eq_nil_of_length_eq_zero hl
    simp [fold4] at h; subst h; decide
  | k + 1, ps, a, hl, h => by
    have hne : ps ≠ [] := fun e => by rw [e] at hl; simp at hl
    rw [← List.dropLast_concat_getLast hne, fold4_snoc] at h
    rcases h1 : fold4 ps.dropLast with _ | b
    · simp [h1] at h
    · rcases h2 : num 255 (ps.getLast hne) with _ | n
      · simp [h1, h2] at h
      · simp only [h1, h2, Option.some.injEq] at h
        have h3 := fold4_lt k ps.dropLast b (by simp [hl]) h1
        have h4 := (num_some.1 h2).2
        rw [Nat.pow_succ]
        omega

set_option maxHeartbeats 2000000 in
theorem ad_parse (l : List UInt8) (hl : l.length ≤ 4294967000) (w : World) (ht : TbP w) :
    Calls Tryd.prog 95 #[str l] w (Ret1 (adV (addrOf l)) w) := by
  obtain ⟨mm, hmx⟩ := ht.mx
  have hsz : (⟨l.toArray⟩ : ByteArray).size = l.length := by simp [ByteArray.size]
  have Ht := Lib.hid ht
  have hcnt := count_list 46 l
  have hfa := fold4_addr l
  have Hfa := Lib.hid hfa
  clear ht hfa
  obtain ⟨ps, hps⟩ : ∃ ps, ps = pieces 46 l := ⟨_, rfl⟩
  have hsplit := split_list 46 l
  rw [← hps] at hcnt hsplit
  rw [← hps] at Hfa
  have hlen : ∀ p, p ∈ ps → p.length ≤ 4294967000 := by
    intro p hp
    have hj : (pieces 46 l) = ps := hps.symm
    have : p.length ≤ l.length := by
      rw [hps] at hp
      exact pieces_le hp
    omega
  have Hlen := Lib.hid hlen
  go_enter Tryd.func95, Tryd.ntmps95
  go_wp2_with fail
  refine (Tryd.strings_Split ⟨l.toArray⟩ ⟨#[46]⟩ mm w (by rw [hsz]; omega) hmx (by decide)).mono ?_
  rintro e w1 ⟨rfl, rfl⟩
  rw [hcnt, hsplit]
  have hcell : ∀ k (h : k < ps.length), (w.alloc (.cells ((ps.map (fun p => (⟨p.toArray⟩ : ByteArray))).map Value.string).toArray 9)).cell? ⟨w.heap.size, k, none⟩ = some (str ps[k]) := by
    intro k h
    have hb := heap_alloc_new w (.cells ((ps.map (fun p => (⟨p.toArray⟩ : ByteArray))).map Value.string).toArray 9)
    unfold World.cell?
    rw [hb]
    simp [h]
  have hn1 : NoW w (w.alloc (.cells ((ps.map (fun p => (⟨p.toArray⟩ : ByteArray))).map Value.string).toArray 9)) := (Fp.refl _ _).alloc _
  generalize w.alloc (.cells ((ps.map (fun p => (⟨p.toArray⟩ : ByteArray))).map Value.string).toArray 9) = w1 at *
  have Hn1 := Lib.hid hn1
  have Hcell := Lib.hid hcell
  have hps4 : ps.length ≤ 4294967295 := by
    have := pieces_len 46 l
    have := List.count_le_length (a := (46 : UInt8)) (l := l)
    rw [hps]; omega
  clear hn1 hcell hcnt hsplit hlen hmx hps
  by_cases h4 : ps.length = 4
  · have h4' : ((ps.length : Int) != 4) = false := by simp [h4]
    rw [if_pos h4] at Hfa
    have H4 := Lib.hid h4
    clear h4
    go_wp2_with fail
    go_loopg [5, 17] 5 (fun g a i wx => ∃ (k b : Nat), k ≤ 4 ∧ g = 5 - k ∧ i = .int .i64 k ∧ a = .int .u32 b ∧ fold4 (ps.take k) = some b ∧ NoW w1 wx)
    case atStart => exact ⟨0, 0, by omega, rfl, rfl, rfl, rfl, Fp.refl _ _⟩
    case round =>
      obtain ⟨k, b, hk, hg, rfl, rfl, hb, hf⟩ := hrel
      have Hg := Lib.hid hg
      have Hb := Lib.hid hb
      have Hf := Lib.hid hf
      clear hg hb hf
      by_cases hlt : k < 4
      · have hkl : k < ps.length := by have := H4.out; omega
        have hc0 := Hcell.out k hkl
        have hc1 := (Hf.out.cell (p := ⟨w.heap.size, k, none⟩) (cell_lt hc0) id).trans hc0
        have hpl := Hlen.out ps[k] (List.getElem_mem hkl)
        have htk : ps.take (k + 1) = ps.take k ++ [ps[k]] := List.take_succ_eq_append_getElem hkl
        have hdr : ps = ps.take k ++ ps[k] :: ps.drop (k + 1) := by rw [List.getElem_cons_drop, List.take_append_drop]
        have Htk := Lib.hid htk
        have Hdr := Lib.hid hdr
        generalize ps[k] = p at *
        clear hc0 htk hdr
        have hbl := fold4_lt k (ps.take k) b (by rw [List.length_take]; omega) Hb.out
        have hbl2 : b < 16777216 := Nat.lt_of_lt_of_le hbl (Nat.le_trans (Nat.pow_le_pow_right (by omega) (show k ≤ 3 by omega)) (by decide))
        clear hbl
        go_wp2_with fail
        refine (number8 p (by omega) _ (Ht.out.low (Hn1.out.trans Hf.out (fun _ _ h => h)))).mono ?_
        rintro e w2 ⟨rfl, hp2⟩
        have Hf2 := Lib.hid (Hf.out.trans hp2 (fun _ _ h => h))
        clear hp2 hc1
        rcases hnum : num 255 p with _ | n
        · have hfn := fold4_none (ps.take k) p (ps.drop (k + 1)) hnum
          rw [← Hdr.out] at hfn
          have Hfn := Lib.hid hfn
          clear hnum hfn
          unfold numV
          go_wp2_with fail
          refine bodyPost_ret (v := .tuple #[.int .u32 0, .int .i64 3]) (by simp [results, Tryd.results95, go_sem]) rfl ⟨by rw [← Hfa.out, Hfn.out]; rfl, Hn1.out.trans Hf2.out (fun _ _ h => h)⟩
        · have hn255 := (num_some.1 hnum).2
          have Hnum := Lib.hid hnum
          clear hnum
          unfold numV
          go_wp2_with fail
          have hor : bits .or .u32 ((b : Int) * 256) (n : Int) = ((b * 256 + n : Nat) : Int) := by
            have h1 := u32_or_nat (b * 256) n (by omega) (by omega)
            rw [nat_join 8 (b * 256) n (by omega) (by omega)] at h1
            rw [← h1]; simp
          go_roundg (4 - k)
          case measure => have := Hg.out; omega
          case rel =>
            refine ⟨k + 1, b * 256 + n, by omega, by omega, by go_num, by rw [hor], ?_, Hf2.out⟩
            rw [Htk.out, fold4_snoc, Hb.out, Hnum.out]
      · obtain rfl : k = 4 := by omega
        have hb4 := Hb.out
        rw [List.take_of_length_le (by have := H4.out; omega), Hfa.out] at hb4
        have Hb4 := Lib.hid hb4
        clear hb4
        have h4a : ps.length ≤ 4 := by have := H4.out; omega
        go_wp2_with fail
        refine bodyPost_ret (v := .tuple #[.int .u32 b, .int .i64 0]) (by simp [results, Tryd.results95, go_sem]) rfl ⟨by rw [Hb4.out]; rfl, Hn1.out.trans Hf.out (fun _ _ h => h)⟩
  · have h4' : ((ps.length : Int) != 4) = true := by simp; omega
    rw [if_neg h4] at Hfa
    clear h4
    go_wp2_with fail
    refine bodyPost_ret (v := .tuple #[.int .u32 0, .int .i64 3]) (by simp [results, Tryd.results95, go_sem]) rfl ⟨by rw [← Hfa.out]; rfl, Hn1.out⟩
end Go.Proofs.YtdmbjndhdldggaaDoor

namespace Go.Proofs.YtdmbjndhdldggaaDoor
set_option linter.unusedVariables false
set_option linter.unusedSimpArgs false
open Go.RowKit Go.Lib Go.Sort

def ptV : Option (Nat × Nat) → Value
  | some (a, n) => .tuple #[.agg #[.int .u32 a, .int .u16 n], .int .i64 0]
  | none => .tuple #[.agg #[.int .u32 0, .int .u16 0], .int .i64 3]

theorem num_nil (M : Nat) : num M [] = none := num_none.2 fun n _ e => dec_ne n e.symm
theorem cut_spec (c : UInt8) (M : Nat) (l : List UInt8) : ∃ x y t, Lib.cut l [c] = (x, y, t) ∧ x.length ≤ l.length ∧ y.length ≤ l.length ∧
    withOf c M l = match addrOf x, num M y with | some a, some n => some (a, n) | _, _ => none := by
  rw [lib_cut]
  rcases h : cutFirst c l with _ | ⟨x, y⟩
  · refine ⟨l, [], false, rfl, Nat.le_refl _, by simp, ?_⟩
    unfold withOf
    rw [h, num_nil]
    cases addrOf l <;> rfl
  · have := (cutFirst_some.1 h).1
    refine ⟨x, y, true, rfl, by rw [this]; simp, by rw [this]; simp; omega, ?_⟩
    unfold withOf
    rw [h]
    dsimp only
    rcases addrOf x with _ | a <;> rcases num M y with _ | n <;> rfl

theorem cut_any (c : UInt8) (l : List UInt8) (hl : l.length ≤ 4294967000) (w : World) (ht : TbP w) {x y : List UInt8} {t : Bool} (h : Lib.cut l [c] = (x, y, t)) :
    Calls Tryd.prog 84 #[str l, .string ⟨#[c]⟩] w (Ret1 (.tuple #[str x, str y, .bool t]) w) := by
  obtain ⟨mm, hmx⟩ := ht.mx
  have hsz : (⟨l.toArray⟩ : ByteArray).size = l.length := by simp [ByteArray.size]
  refine (Tryd.strings_Cut ⟨l.toArray⟩ ⟨#[c]⟩ mm w (by rw [hsz]; omega) hmx).mono ?_
  rintro e w' ⟨rfl, n, rfl⟩
  have e1 : Lib.cut (⟨l.toArray⟩ : ByteArray).data.toList (⟨#[c]⟩ : ByteArray).data.toList = (x, y, t) := h
  rw [e1]
  exact ⟨rfl, (Fp.refl _ _).drewN n⟩

set_option maxHeartbeats 2000000 in
theorem ad_point (l : List UInt8) (hl : l.length ≤ 4294967000) (w : World) (ht : TbP w) :
    Calls Tryd.prog 81 #[str l] w (Ret1 (ptV (withOf 58 65535 l)) w) := by
  obtain ⟨x, y, t, hcut, hx, hy, hwith⟩ := cut_spec 58 65535 l
  have hcut2 := fun W hW => cut_any 58 l hl W hW hcut
  have Hcut := Lib.hid hcut2
  have Ht := Lib.hid ht
  have Hwith := Lib.hid hwith
  clear hcut hcut2 ht hwith
  go_enter Tryd.func81, Tryd.ntmps81
  go_wp2_with fail
  have hn0 : NoW w (w.alloc (.cells #[.int .u32 0, .int .u16 0] 26)) := (Fp.refl _ _).alloc _
  have hb0 := heap_alloc_new w (.cells #[.int .u32 0, .int .u16 0] 26)
  refine (Hcut.out _ (Ht.out.low hn0)).mono ?_
  rintro e w1 ⟨rfl, hp1⟩
  have hn1 := hn0.trans hp1 (fun _ _ h => h)
  have hb1 := (hp1.block _ (by simp) id).trans hb0
  have Hn1 := Lib.hid hn1
  have Hb1 := Lib.hid hb1
  clear hp1 hn1 hb1 hn0 hb0
  go_wp2_with fail
  refine (ad_parse x (by omega) _ (Ht.out.low Hn1.out)).mono ?_
  rintro e w2 ⟨rfl, hp2⟩
  have hn2 := Hn1.out.trans hp2 (fun _ _ h => h)
  have hb2 := (hp2.block _ (Array.getElem?_eq_some_iff.1 Hb1.out).1 id).trans Hb1.out
  have Hn2 := Lib.hid hn2
  have Hb2 := Lib.hid hb2
  clear hp2 hn2 hb2 Hn1 Hb1
  obtain ⟨oa, hoa⟩ : ∃ oa, oa = addrOf x := ⟨_, rfl⟩
  rw [← hoa] at Hwith ⊢
  clear hoa
  obtain ⟨on, hon⟩ : ∃ on, on = num 65535 y := ⟨_, rfl⟩
  have hny := fun W hW => number16 y (by omega) W hW
  rw [← hon] at Hwith hny
  have Hny := Lib.hid hny
  have hn65 : ∀ n, on = some n → n ≤ 65535 := fun n e => (num_some.1 (hon.symm.trans e)).2
  clear hon hny
  rcases oa with _ | a
  all_goals
    unfold adV
    go_wp2_with fail
    refine (Hny.out _ (Ht.out.low Hn2.out)).mono ?_
    rintro e w3 ⟨rfl, hp3⟩
    have hn3 := Hn2.out.trans hp3 (fun _ _ h => h)
    have hb3 := (hp3.block _ (Array.getElem?_eq_some_iff.1 Hb2.out).1 id).trans Hb2.out
    have Hn3 := Lib.hid hn3
    have c0 : w3.cell? ⟨w.heap.size, 0, none⟩ = some (.int .u32 0) := by simp [World.cell?, hb3]
    have c1 : w3.cell? ⟨w.heap.size, 1, none⟩ = some (.int .u16 0) := by simp [World.cell?, hb3]
    have z0 : w3.frozen? ⟨w.heap.size, 0, none⟩ = false := by simp [World.frozen?, hb3]
    have z1 : w3.frozen? ⟨w.heap.size, 1, none⟩ = false := by simp [World.frozen?, hb3]
    clear hp3 hn3 hb3
    rcases on with _ | n
    all_goals
      unfold numV
      have Hn65 := Lib.hid hn65
      clear hn65
      go_wp2_with fail
  · refine bodyPost_ret (v := .tuple #[.agg #[.int .u32 0, .int .u16 0], .int .i64 3]) (by simp only [results, Tryd.results81]; go_simp) rfl ⟨by rw [Hwith.out]; rfl, ?_⟩
    have := Hn3.out
    (repeat (first | exact Fp.refl _ _ | refine Fp.drew ?_ | refine Fp.drewN ?_ _ | refine Fp.alloc ?_ _ | (refine Fp.setCell ?_ (Or.inl (by simp)) _) | (refine Fp.setCell ?_ (Or.inl (by simp; omega)) _) | refine Fp.trans ?_ (by assumption) (fun _ _ h => h)))
  · refine bodyPost_ret (v := .tuple #[.agg #[.int .u32 0, .int .u16 0], .int .i64 3]) (by simp only [results, Tryd.results81]; go_simp) rfl ⟨by rw [Hwith.out]; rfl, ?_⟩
    have := Hn3.out
    (repeat (first | exact Fp.refl _ _ | refine Fp.drew ?_ | refine Fp.drewN ?_ _ | refine Fp.alloc ?_ _ | (refine Fp.setCell ?_ (Or.inl (by simp)) _) | (refine Fp.setCell ?_ (Or.inl (by simp; omega)) _) | refine Fp.trans ?_ (by assumption) (fun _ _ h => h)))
  · refine bodyPost_ret (v := .tuple #[.agg #[.int .u32 0, .int .u16 0], .int .i64 3]) (by simp only [results, Tryd.results81]; go_simp) rfl ⟨by rw [Hwith.out]; rfl, ?_⟩
    have := Hn3.out
    (repeat (first | exact Fp.refl _ _ | refine Fp.drew ?_ | refine Fp.drewN ?_ _ | refine Fp.alloc ?_ _ | (refine Fp.setCell ?_ (Or.inl (by simp)) _) | (refine Fp.setCell ?_ (Or.inl (by simp; omega)) _) | refine Fp.trans ?_ (by assumption) (fun _ _ h => h)))
  · refine bodyPost_ret (v := .tuple #[.agg #[.int .u32 a, .int .u16 n], .int .i64 0]) (by simp only [results, Tryd.results81]; go_simp) rfl ⟨by rw [Hwith.out]; rfl, ?_⟩
    have := Hn3.out
    (repeat (first | exact Fp.refl _ _ | refine Fp.drew ?_ | refine Fp.drewN ?_ _ | refine Fp.alloc ?_ _ | (refine Fp.setCell ?_ (Or.inl (by simp)) _) | (refine Fp.setCell ?_ (Or.inl (by simp; omega)) _) | refine Fp.trans ?_ (by assumption) (fun _ _ h => h)))
end Go.Proofs.YtdmbjndhdldggaaDoor

namespace Go.Proofs.YtdmbjndhdldggaaDoor
set_option linter.unusedVariables false
set_option linter.unusedSimpArgs false
open Go.RowKit Go.Lib Go.Sort
theorem box2 (w : World) (A B : Obj) : ((w.alloc A).alloc B).heap[w.heap.size]? = some A ∧ ((w.alloc A).alloc B).heap[w.heap.size + 1]? = some B := by
  refine ⟨?_, ?_⟩
  · exact (((Fp.refl (fun _ => False) (w.alloc A)).alloc B).block w.heap.size (by simp) id).trans (heap_alloc_new w A)
  · simpa using heap_alloc_new (w.alloc A) B

set_option maxHeartbeats 1000000 in
theorem live_ok (r a p b q r2 a2 p2 b2 q2 st dl : Int) (h : Value) (now : Int) (w : World) : Calls Tryd.prog 14 #[.agg #[.int .u8 r, .int .u32 a, .int .u16 p, .int .u32 b, .int .u16 q, .int .u8 r2, .int .u32 a2, .int .u16 p2, .int .u32 b2, .int .u16 q2, .int .i64 st, .int .i64 dl, h], .int .i64 now] w (Ret1 (.bool (decide (now < dl))) w) := by
  go_enter Tryd.func14, Tryd.ntmps14
  go_wp2_with fail
  go_ret
  exact ⟨rfl, (Fp.refl _ _).alloc _⟩

set_option maxHeartbeats 1000000 in
theorem other_t (r a p b q r2 a2 p2 b2 q2 st dl : Int) (h : Value) (w : World) : Calls Tryd.prog 40 #[.agg #[.int .u8 r, .int .u32 a, .int .u16 p, .int .u32 b, .int .u16 q, .int .u8 r2, .int .u32 a2, .int .u16 p2, .int .u32 b2, .int .u16 q2, .int .i64 st, .int .i64 dl, h], .bool true] w (Ret1 (.agg #[.int .u8 r, .int .u32 a, .int .u16 p, .int .u32 b, .int .u16 q]) w) := by
  go_enter Tryd.func40, Tryd.ntmps40
  go_wp2_with fail
  refine bodyPost_ret (v := .agg #[.int .u8 r, .int .u32 a, .int .u16 p, .int .u32 b, .int .u16 q]) (by simp only [results, Tryd.results40]; go_simp) rfl ⟨rfl, ?_⟩
  (repeat (first | exact Fp.refl _ _ | refine Fp.drew ?_ | refine Fp.drewN ?_ _ | refine Fp.alloc ?_ _ | (refine Fp.setCell ?_ (Or.inl (by simp)) _) | (refine Fp.setCell ?_ (Or.inl (by simp; omega)) _) | refine Fp.trans ?_ (by assumption) (fun _ _ h => h)))

set_option maxHeartbeats 1000000 in
theorem other_f (r a p b q r2 a2 p2 b2 q2 st dl : Int) (h : Value) (w : World) : Calls Tryd.prog 40 #[.agg #[.int .u8 r, .int .u32 a, .int .u16 p, .int .u32 b, .int .u16 q, .int .u8 r2, .int .u32 a2, .int .u16 p2, .int .u32 b2, .int .u16 q2, .int .i64 st, .int .i64 dl, h], .bool false] w (Ret1 (.agg #[.int .u8 r2, .int .u32 a2, .int .u16 p2, .int .u32 b2, .int .u16 q2]) w) := by
  go_enter Tryd.func40, Tryd.ntmps40
  go_wp2_with fail
  refine bodyPost_ret (v := .agg #[.int .u8 r2, .int .u32 a2, .int .u16 p2, .int .u32 b2, .int .u16 q2]) (by simp only [results, Tryd.results40]; go_simp) rfl ⟨rfl, ?_⟩
  (repeat (first | exact Fp.refl _ _ | refine Fp.drew ?_ | refine Fp.drewN ?_ _ | refine Fp.alloc ?_ _ | (refine Fp.setCell ?_ (Or.inl (by simp)) _) | (refine Fp.setCell ?_ (Or.inl (by simp; omega)) _) | refine Fp.trans ?_ (by assumption) (fun _ _ h => h)))

set_option maxHeartbeats 1000000 in
theorem turn_t (r a p b q r2 a2 p2 b2 q2 st dl : Int) (h : Value) (w : World) : Calls Tryd.prog 10 #[.agg #[.int .u8 r, .int .u32 a, .int .u16 p, .int .u32 b, .int .u16 q, .int .u8 r2, .int .u32 a2, .int .u16 p2, .int .u32 b2, .int .u16 q2, .int .i64 st, .int .i64 dl, h], .bool true] w (Ret1 (.agg #[.int .u32 b, .int .u16 q, .int .u32 a, .int .u16 p]) w) := by
  go_enter Tryd.func10, Tryd.ntmps10
  go_wp2_with fail
  have hn0 : NoW w ((w.alloc (.cells #[.int .u8 r, .int .u32 a, .int .u16 p, .int .u32 b, .int .u16 q, .int .u8 r2, .int .u32 a2, .int .u16 p2, .int .u32 b2, .int .u16 q2, .int .i64 st, .int .i64 dl, h] 31)).alloc (.cells #[.int .u32 0, .int .u16 0, .int .u32 0, .int .u16 0] 36)) := ((Fp.refl _ _).alloc _).alloc _
  have hb0 : ((w.alloc (.cells #[.int .u8 r, .int .u32 a, .int .u16 p, .int .u32 b, .int .u16 q, .int .u8 r2, .int .u32 a2, .int .u16 p2, .int .u32 b2, .int .u16 q2, .int .i64 st, .int .i64 dl, h] 31)).alloc (.cells #[.int .u32 0, .int .u16 0, .int .u32 0, .int .u16 0] 36)).heap[w.heap.size + 1]? = some (.cells #[.int .u32 0, .int .u16 0, .int .u32 0, .int .u16 0] 36) := by
    exact (box2 w _ _).2
  refine (other_t r a p b q r2 a2 p2 b2 q2 st dl h _).mono ?_
  rintro e v ⟨rfl, hp⟩
  have hb := (hp.block _ (Array.getElem?_eq_some_iff.1 hb0).1 id).trans hb0
  have Hn := Lib.hid (hn0.trans hp (fun _ _ h => h))
  have hgl : w.heap.size ≤ w.heap.size + 1 := by omega
  clear hp hn0 hb0
  generalize w.heap.size + 1 = g at *
  have lg : g < v.heap.size := (Array.getElem?_eq_some_iff.1 hb).1
  have c0 : v.cell? ⟨g, 0, none⟩ = some (.int .u32 0) := by simp [World.cell?, hb]
  have c1 : v.cell? ⟨g, 1, none⟩ = some (.int .u16 0) := by simp [World.cell?, hb]
  have c2 : v.cell? ⟨g, 2, none⟩ = some (.int .u32 0) := by simp [World.cell?, hb]
  have c3 : v.cell? ⟨g, 3, none⟩ = some (.int .u16 0) := by simp [World.cell?, hb]
  have z0 : v.frozen? ⟨g, 0, none⟩ = false := by simp [World.frozen?, hb]
  have z1 : v.frozen? ⟨g, 1, none⟩ = false := by simp [World.frozen?, hb]
  have z2 : v.frozen? ⟨g, 2, none⟩ = false := by simp [World.frozen?, hb]
  have z3 : v.frozen? ⟨g, 3, none⟩ = false := by simp [World.frozen?, hb]
  clear hb
  go_wp2_with fail
  refine bodyPost_ret (v := .agg #[.int .u32 b, .int .u16 q, .int .u32 a, .int .u16 p]) (by simp only [results, Tryd.results10]; go_simp) rfl ⟨rfl, ?_⟩
  repeat (first | exact Hn.out | refine Fp.alloc ?_ _ | (refine Fp.setCell ?_ (Or.inl (by assumption)) _))

set_option maxHeartbeats 1000000 in
theorem turn_f (r a p b q r2 a2 p2 b2 q2 st dl : Int) (h : Value) (w : World) : Calls Tryd.prog 10 #[.agg #[.int .u8 r, .int .u32 a, .int .u16 p, .int .u32 b, .int .u16 q, .int .u8 r2, .int .u32 a2, .int .u16 p2, .int .u32 b2, .int .u16 q2, .int .i64 st, .int .i64 dl, h], .bool false] w (Ret1 (.agg #[.int .u32 b2, .int .u16 q2, .int .u32 a2, .int .u16 p2]) w) := by
  go_enter Tryd.func10, Tryd.ntmps10
  go_wp2_with fail
  have hn0 : NoW w ((w.alloc (.cells #[.int .u8 r, .int .u32 a, .int .u16 p, .int .u32 b, .int .u16 q, .int .u8 r2, .int .u32 a2, .int .u16 p2, .int .u32 b2, .int .u16 q2, .int .i64 st, .int .i64 dl, h] 31)).alloc (.cells #[.int .u32 0, .int .u16 0, .int .u32 0, .int .u16 0] 36)) := ((Fp.refl _ _).alloc _).alloc _
  have hb0 : ((w.alloc (.cells #[.int .u8 r, .int .u32 a, .int .u16 p, .int .u32 b, .int .u16 q, .int .u8 r2, .int .u32 a2, .int .u16 p2, .int .u32 b2, .int .u16 q2, .int .i64 st, .int .i64 dl, h] 31)).alloc (.cells #[.int .u32 0, .int .u16 0, .int .u32 0, .int .u16 0] 36)).heap[w.heap.size + 1]? = some (.cells #[.int .u32 0, .int .u16 0, .int .u32 0, .int .u16 0] 36) := by
    exact (box2 w _ _).2
  refine (other_f r a p b q r2 a2 p2 b2 q2 st dl h _).mono ?_
  rintro e v ⟨rfl, hp⟩
  have hb := (hp.block _ (Array.getElem?_eq_some_iff.1 hb0).1 id).trans hb0
  have Hn := Lib.hid (hn0.trans hp (fun _ _ h => h))
  have hgl : w.heap.size ≤ w.heap.size + 1 := by omega
  clear hp hn0 hb0
  generalize w.heap.size + 1 = g at *
  have lg : g < v.heap.size := (Array.getElem?_eq_some_iff.1 hb).1
  have c0 : v.cell? ⟨g, 0, none⟩ = some (.int .u32 0) := by simp [World.cell?, hb]
  have c1 : v.cell? ⟨g, 1, none⟩ = some (.int .u16 0) := by simp [World.cell?, hb]
  have c2 : v.cell? ⟨g, 2, none⟩ = some (.int .u32 0) := by simp [World.cell?, hb]
  have c3 : v.cell? ⟨g, 3, none⟩ = some (.int .u16 0) := by simp [World.cell?, hb]
  have z0 : v.frozen? ⟨g, 0, none⟩ = false := by simp [World.frozen?, hb]
  have z1 : v.frozen? ⟨g, 1, none⟩ = false := by simp [World.frozen?, hb]
  have z2 : v.frozen? ⟨g, 2, none⟩ = false := by simp [World.frozen?, hb]
  have z3 : v.frozen? ⟨g, 3, none⟩ = false := by simp [World.frozen?, hb]
  clear hb
  go_wp2_with fail
  refine bodyPost_ret (v := .agg #[.int .u32 b2, .int .u16 q2, .int .u32 a2, .int .u16 p2]) (by simp only [results, Tryd.results10]; go_simp) rfl ⟨rfl, ?_⟩
  repeat (first | exact Hn.out | refine Fp.alloc ?_ _ | (refine Fp.setCell ?_ (Or.inl (by assumption)) _))

set_option maxHeartbeats 1000000 in
theorem inside_t (r a p b q r2 a2 p2 b2 q2 st dl : Int) (h : Value) (w : World) : Calls Tryd.prog 12 #[.agg #[.int .u8 r, .int .u32 a, .int .u16 p, .int .u32 b, .int .u16 q, .int .u8 r2, .int .u32 a2, .int .u16 p2, .int .u32 b2, .int .u16 q2, .int .i64 st, .int .i64 dl, h], .bool true] w (Ret1 (.agg #[.int .u32 a, .int .u16 p, .int .u32 b, .int .u16 q]) w) := by
  go_enter Tryd.func12, Tryd.ntmps12
  go_wp2_with fail
  have hn0 : NoW w ((w.alloc (.cells #[.int .u8 r, .int .u32 a, .int .u16 p, .int .u32 b, .int .u16 q, .int .u8 r2, .int .u32 a2, .int .u16 p2, .int .u32 b2, .int .u16 q2, .int .i64 st, .int .i64 dl, h] 31)).alloc (.cells #[.int .u32 0, .int .u16 0, .int .u32 0, .int .u16 0] 36)) := ((Fp.refl _ _).alloc _).alloc _
  have hb0 : ((w.alloc (.cells #[.int .u8 r, .int .u32 a, .int .u16 p, .int .u32 b, .int .u16 q, .int .u8 r2, .int .u32 a2, .int .u16 p2, .int .u32 b2, .int .u16 q2, .int .i64 st, .int .i64 dl, h] 31)).alloc (.cells #[.int .u32 0, .int .u16 0, .int .u32 0, .int .u16 0] 36)).heap[w.heap.size + 1]? = some (.cells #[.int .u32 0, .int .u16 0, .int .u32 0, .int .u16 0] 36) := by
    exact (box2 w _ _).2
  refine (other_t r a p b q r2 a2 p2 b2 q2 st dl h _).mono ?_
  rintro e v ⟨rfl, hp⟩
  have hb := (hp.block _ (Array.getElem?_eq_some_iff.1 hb0).1 id).trans hb0
  have Hn := Lib.hid (hn0.trans hp (fun _ _ h => h))
  have hgl : w.heap.size ≤ w.heap.size + 1 := by omega
  clear hp hn0 hb0
  generalize w.heap.size + 1 = g at *
  have lg : g < v.heap.size := (Array.getElem?_eq_some_iff.1 hb).1
  have c0 : v.cell? ⟨g, 0, none⟩ = some (.int .u32 0) := by simp [World.cell?, hb]
  have c1 : v.cell? ⟨g, 1, none⟩ = some (.int .u16 0) := by simp [World.cell?, hb]
  have c2 : v.cell? ⟨g, 2, none⟩ = some (.int .u32 0) := by simp [World.cell?, hb]
  have c3 : v.cell? ⟨g, 3, none⟩ = some (.int .u16 0) := by simp [World.cell?, hb]
  have z0 : v.frozen? ⟨g, 0, none⟩ = false := by simp [World.frozen?, hb]
  have z1 : v.frozen? ⟨g, 1, none⟩ = false := by simp [World.frozen?, hb]
  have z2 : v.frozen? ⟨g, 2, none⟩ = false := by simp [World.frozen?, hb]
  have z3 : v.frozen? ⟨g, 3, none⟩ = false := by simp [World.frozen?, hb]
  clear hb
  go_wp2_with fail
  refine bodyPost_ret (v := .agg #[.int .u32 a, .int .u16 p, .int .u32 b, .int .u16 q]) (by simp only [results, Tryd.results12]; go_simp) rfl ⟨rfl, ?_⟩
  repeat (first | exact Hn.out | refine Fp.alloc ?_ _ | (refine Fp.setCell ?_ (Or.inl (by assumption)) _))

set_option maxHeartbeats 1000000 in
theorem inside_f (r a p b q r2 a2 p2 b2 q2 st dl : Int) (h : Value) (w : World) : Calls Tryd.prog 12 #[.agg #[.int .u8 r, .int .u32 a, .int .u16 p, .int .u32 b, .int .u16 q, .int .u8 r2, .int .u32 a2, .int .u16 p2, .int .u32 b2, .int .u16 q2, .int .i64 st, .int .i64 dl, h], .bool false] w (Ret1 (.agg #[.int .u32 a2, .int .u16 p2, .int .u32 b2, .int .u16 q2]) w) := by
  go_enter Tryd.func12, Tryd.ntmps12
  go_wp2_with fail
  have hn0 : NoW w ((w.alloc (.cells #[.int .u8 r, .int .u32 a, .int .u16 p, .int .u32 b, .int .u16 q, .int .u8 r2, .int .u32 a2, .int .u16 p2, .int .u32 b2, .int .u16 q2, .int .i64 st, .int .i64 dl, h] 31)).alloc (.cells #[.int .u32 0, .int .u16 0, .int .u32 0, .int .u16 0] 36)) := ((Fp.refl _ _).alloc _).alloc _
  have hb0 : ((w.alloc (.cells #[.int .u8 r, .int .u32 a, .int .u16 p, .int .u32 b, .int .u16 q, .int .u8 r2, .int .u32 a2, .int .u16 p2, .int .u32 b2, .int .u16 q2, .int .i64 st, .int .i64 dl, h] 31)).alloc (.cells #[.int .u32 0, .int .u16 0, .int .u32 0, .int .u16 0] 36)).heap[w.heap.size + 1]? = some (.cells #[.int .u32 0, .int .u16 0, .int .u32 0, .int .u16 0] 36) := by
    exact (box2 w _ _).2
  refine (other_f r a p b q r2 a2 p2 b2 q2 st dl h _).mono ?_
  rintro e v ⟨rfl, hp⟩
  have hb := (hp.block _ (Array.getElem?_eq_some_iff.1 hb0).1 id).trans hb0
  have Hn := Lib.hid (hn0.trans hp (fun _ _ h => h))
  have hgl : w.heap.size ≤ w.heap.size + 1 := by omega
  clear hp hn0 hb0
  generalize w.heap.size + 1 = g at *
  have lg : g < v.heap.size := (Array.getElem?_eq_some_iff.1 hb).1
  have c0 : v.cell? ⟨g, 0, none⟩ = some (.int .u32 0) := by simp [World.cell?, hb]
  have c1 : v.cell? ⟨g, 1, none⟩ = some (.int .u16 0) := by simp [World.cell?, hb]
  have c2 : v.cell? ⟨g, 2, none⟩ = some (.int .u32 0) := by simp [World.cell?, hb]
  have c3 : v.cell? ⟨g, 3, none⟩ = some (.int .u16 0) := by simp [World.cell?, hb]
  have z0 : v.frozen? ⟨g, 0, none⟩ = false := by simp [World.frozen?, hb]
  have z1 : v.frozen? ⟨g, 1, none⟩ = false := by simp [World.frozen?, hb]
  have z2 : v.frozen? ⟨g, 2, none⟩ = false := by simp [World.frozen?, hb]
  have z3 : v.frozen? ⟨g, 3, none⟩ = false := by simp [World.frozen?, hb]
  clear hb
  go_wp2_with fail
  refine bodyPost_ret (v := .agg #[.int .u32 a2, .int .u16 p2, .int .u32 b2, .int .u16 q2]) (by simp only [results, Tryd.results12]; go_simp) rfl ⟨rfl, ?_⟩
  repeat (first | exact Hn.out | refine Fp.alloc ?_ _ | (refine Fp.setCell ?_ (Or.inl (by assumption)) _))

set_option maxHeartbeats 1000000 in
theorem match_orig (r a p b q r2 a2 p2 b2 q2 st dl : Int) (h : Value) (w : World) : Calls Tryd.prog 11 #[.agg #[.int .u8 r, .int .u32 a, .int .u16 p, .int .u32 b, .int .u16 q, .int .u8 r2, .int .u32 a2, .int .u16 p2, .int .u32 b2, .int .u16 q2, .int .i64 st, .int .i64 dl, h], .agg #[.int .u8 r, .int .u32 a, .int .u16 p, .int .u32 b, .int .u16 q]] w (Ret1 (.tuple #[.bool false, .bool true]) w) := by
  go_enter Tryd.func11, Tryd.ntmps11
  go_wp2_with fail
  refine bodyPost_ret (v := .tuple #[.bool false, .bool true]) (by simp [results, Tryd.results11, go_sem]) rfl ⟨rfl, ((Fp.refl _ _).alloc _).alloc _⟩

set_option maxHeartbeats 1000000 in
theorem match_reply0 (r a p b q a2 p2 b2 q2 st dl : Int) (h : Value) (w : World) (hne : (a2 == a) = false) : Calls Tryd.prog 11 #[.agg #[.int .u8 r, .int .u32 a, .int .u16 p, .int .u32 b, .int .u16 q, .int .u8 r, .int .u32 a2, .int .u16 p2, .int .u32 b2, .int .u16 q2, .int .i64 st, .int .i64 dl, h], .agg #[.int .u8 r, .int .u32 a2, .int .u16 p2, .int .u32 b2, .int .u16 q2]] w (Ret1 (.tuple #[.bool true, .bool true]) w) := by
  go_enter Tryd.func11, Tryd.ntmps11
  go_wp2_with fail
  refine bodyPost_ret (v := .tuple #[.bool true, .bool true]) (by simp [results, Tryd.results11, go_sem]) rfl ⟨rfl, ((Fp.refl _ _).alloc _).alloc _⟩

set_option maxHeartbeats 1000000 in
theorem match_reply1 (r a p b q p2 b2 q2 st dl : Int) (h : Value) (w : World) (hne : (p2 == p) = false) : Calls Tryd.prog 11 #[.agg #[.int .u8 r, .int .u32 a, .int .u16 p, .int .u32 b, .int .u16 q, .int .u8 r, .int .u32 a, .int .u16 p2, .int .u32 b2, .int .u16 q2, .int .i64 st, .int .i64 dl, h], .agg #[.int .u8 r, .int .u32 a, .int .u16 p2, .int .u32 b2, .int .u16 q2]] w (Ret1 (.tuple #[.bool true, .bool true]) w) := by
  go_enter Tryd.func11, Tryd.ntmps11
  go_wp2_with fail
  refine bodyPost_ret (v := .tuple #[.bool true, .bool true]) (by simp [results, Tryd.results11, go_sem]) rfl ⟨rfl, ((Fp.refl _ _).alloc _).alloc _⟩

set_option maxHeartbeats 1000000 in
theorem match_reply2 (r a p b q b2 q2 st dl : Int) (h : Value) (w : World) (hne : (b2 == b) = false) : Calls Tryd.prog 11 #[.agg #[.int .u8 r, .int .u32 a, .int .u16 p, .int .u32 b, .int .u16 q, .int .u8 r, .int .u32 a, .int .u16 p, .int .u32 b2, .int .u16 q2, .int .i64 st, .int .i64 dl, h], .agg #[.int .u8 r, .int .u32 a, .int .u16 p, .int .u32 b2, .int .u16 q2]] w (Ret1 (.tuple #[.bool true, .bool true]) w) := by
  go_enter Tryd.func11, Tryd.ntmps11
  go_wp2_with fail
  refine bodyPost_ret (v := .tuple #[.bool true, .bool true]) (by simp [results, Tryd.results11, go_sem]) rfl ⟨rfl, ((Fp.refl _ _).alloc _).alloc _⟩

set_option maxHeartbeats 1000000 in
theorem match_reply3 (r a p b q q2 st dl : Int) (h : Value) (w : World) (hne : (q2 == q) = false) : Calls Tryd.prog 11 #[.agg #[.int .u8 r, .int .u32 a, .int .u16 p, .int .u32 b, .int .u16 q, .int .u8 r, .int .u32 a, .int .u16 p, .int .u32 b, .int .u16 q2, .int .i64 st, .int .i64 dl, h], .agg #[.int .u8 r, .int .u32 a, .int .u16 p, .int .u32 b, .int .u16 q2]] w (Ret1 (.tuple #[.bool true, .bool true]) w) := by
  go_enter Tryd.func11, Tryd.ntmps11
  go_wp2_with fail
  refine bodyPost_ret (v := .tuple #[.bool true, .bool true]) (by simp [results, Tryd.results11, go_sem]) rfl ⟨rfl, ((Fp.refl _ _).alloc _).alloc _⟩
end Go.Proofs.YtdmbjndhdldggaaDoor

namespace Go.Proofs.YtdmbjndhdldggaaDoor
set_option linter.unusedVariables false
set_option linter.unusedSimpArgs false
open Go.RowKit Go.Lib Go.Sort

def flowN (k : Nat) : Nat := if k = 1 then 2 else if k = 6 then 3 else if k = 17 then 1 else 0
theorem flowN_lt (k : Nat) : flowN k < 4 := by unfold flowN; split <;> (try split) <;> (try split) <;> omega
/-- How long a state lasts, any numbers. -/
def toN (f : Nat) (s : Int) : Int := if 0 ≤ s ∧ s ≤ 7 then lastN f s.toNat else 0

set_option maxHeartbeats 1000000 in
set_option maxRecDepth 100000 in
theorem flow_ok (k : Nat) (w : World) : Calls Tryd.prog 16 #[.int .u8 k] w fun e w' => e = .returned (.int .i64 (flowN k : Nat)) ∧ w' = w := by
  by_cases h1 : k = 1
  · subst h1
    go_enter Tryd.func16, Tryd.ntmps16
    go_wp2_with fail
    go_ret
    exact ⟨rfl, rfl⟩
  · have e1 : ((k : Int) == 1) = false := beq_eq_false_iff_ne.2 (by omega)
    by_cases h6 : k = 6
    · subst h6
      go_enter Tryd.func16, Tryd.ntmps16
      go_wp2_with fail
      go_ret
      exact ⟨rfl, rfl⟩
    · have e6 : ((k : Int) == 6) = false := beq_eq_false_iff_ne.2 (by omega)
      by_cases h17 : k = 17
      · subst h17
        go_enter Tryd.func16, Tryd.ntmps16
        go_wp2_with fail
        go_ret
        exact ⟨rfl, rfl⟩
      · have e17 : ((k : Int) == 17) = false := beq_eq_false_iff_ne.2 (by omega)
        have hf : flowN k = 0 := by simp [flowN, h1, h6, h17]
        rw [hf]
        go_enter Tryd.func16, Tryd.ntmps16
        go_wp2_with fail
        go_ret
        exact ⟨rfl, rfl⟩

set_option maxHeartbeats 1000000 in
set_option maxRecDepth 100000 in
theorem timeout_ok (f : Nat) (hf : f < 4) (s : Int) (w : World) (ht : Tb w) : Calls Tryd.prog 46 #[.int .i64 f, .int .i64 s] w fun e w' => e = .returned (.int .i64 (toN f s)) ∧ w' = w := by
  have hlast := ht.lasts
  have Hlast := Lib.hid hlast
  clear hlast ht
  have hf0 : ¬ ((f : Int) < 0) := by omega
  have hf1 : decide ((4 : Int) ≤ (f : Int)) = false := by simp; omega
  by_cases h0 : s < 0
  · have ht : toN f s = 0 := by unfold toN; rw [if_neg (by omega)]
    rw [ht]
    have d0 : decide (s < 0) = true := by simpa using h0
    go_enter Tryd.func46, Tryd.ntmps46
    go_wp2_with fail
    go_ret
    exact ⟨rfl, rfl⟩
  · have d0 : decide (s < 0) = false := by simpa using h0
    by_cases h7 : s ≤ 7
    · have d7 : decide (7 < s) = false := by simpa using h7
      obtain ⟨n, rfl⟩ : ∃ n : Nat, s = n := ⟨s.toNat, by omega⟩
      have ht : toN f n = lastN f n := by unfold toN; rw [if_pos (by omega), Int.toNat_natCast]
      rw [ht]
      have hc : w.cell? ⟨1, f * 8 + n, none⟩ = some (.int .i64 (lastN f n)) := Hlast.out f n hf (by omega)
      have hn8 : n < 8 := by omega
      go_enter Tryd.func46, Tryd.ntmps46
      go_wp2_with fail
      go_ret
      exact ⟨rfl, rfl⟩
    · have d7 : decide (7 < s) = true := by simp; omega
      have ht : toN f s = 0 := by unfold toN; rw [if_neg (by omega)]
      rw [ht]
      go_enter Tryd.func46, Tryd.ntmps46
      go_wp2_with fail
      go_ret
      exact ⟨rfl, rfl⟩

theorem tmay_ok (f : Nat) (hf : f < 4) (s : Int) (w : World) (ht : Tb w) : Calls Tryd.prog 41 #[.int .i64 f, .int .i64 s] w fun e w' => e = .returned (.bool (decide (0 < toN f s))) ∧ w' = w := by
  have k := fun W hW => timeout_ok f hf s W hW
  have K := Lib.hid k
  have Ht := Lib.hid ht
  clear k ht
  go_enter Tryd.func41, Tryd.ntmps41
  go_wp2_with fail
  refine (K.out _ Ht.out).mono ?_
  rintro e w' ⟨rfl, rfl⟩
  go_wp2_with fail
  go_ret
  exact ⟨rfl, rfl⟩

/-- May a tuple be? -/
def tupB (k p q : Nat) : Bool := isWord k && (decide (k ≠ 1) || decide (p = 0) || decide (q = 0))
set_option maxHeartbeats 1000000 in
set_option maxRecDepth 100000 in
theorem tup_ok (k a p b q : Nat) (hk : k < 256) (w : World) (ht : Tb w) : Calls Tryd.prog 43 #[.agg #[.int .u8 k, .int .u32 a, .int .u16 p, .int .u32 b, .int .u16 q]] w (Ret1 (.bool (tupB k p q)) w) := by
  obtain ⟨bm, o, h1, h2, h3⟩ := ht.words
  have lg := cell_lt h1
  have hl := (h3 _ ((Fp.refl (fun _ => False) w).alloc (.cells #[.int .u8 k, .int .u32 a, .int .u16 p, .int .u32 b, .int .u16 q] 28) |>.block _ (Array.getElem?_eq_some_iff.1 h2).1 id |>.trans h2) k hk).1
  rcases hw : isWord k with _ | _
  · have e : tupB k p q = false := by simp [tupB, hw]
    rw [e]
    rw [hw] at hl
    have Hl := hl
    clear e h3 hw ht
    go_enter Tryd.func43, Tryd.ntmps43
    go_wp2_with fail
    go_ret
    exact ⟨rfl, (Fp.refl _ _).alloc _⟩
  · rw [hw] at hl
    clear h3 ht
    by_cases k1 : k = 1
    · have ek : ((k : Int) == 1) = true := by rw [k1]; rfl
      have ek2 : ((k : Int) != 1) = false := by rw [k1]; rfl
      by_cases p0 : p = 0
      · have ep : ((p : Int) == 0) = true := by rw [p0]; rfl
        rw [show tupB k p q = true by simp [tupB, hw, p0]]
        clear k1 p0
        go_enter Tryd.func43, Tryd.ntmps43
        go_wp2_with fail
        go_ret
        exact ⟨rfl, (Fp.refl _ _).alloc _⟩
      · have ep : ((p : Int) == 0) = false := beq_eq_false_iff_ne.2 (by omega)
        rw [show tupB k p q = decide (q = 0) by have := hw; rw [k1] at this; simp [tupB, this, p0, k1]]
        clear k1
        have eq : ((q : Int) == 0) = decide (q = 0) := by rw [Bool.eq_iff_iff]; simp
        go_enter Tryd.func43, Tryd.ntmps43
        go_wp2_with fail
        go_ret
        exact ⟨rfl, (Fp.refl _ _).alloc _⟩
    · have ek : ((k : Int) == 1) = false := beq_eq_false_iff_ne.2 (by omega)
      have ek2 : ((k : Int) != 1) = true := by simp; omega
      rw [show tupB k p q = true by simp [tupB, hw, k1]]
      go_enter Tryd.func43, Tryd.ntmps43
      go_wp2_with fail
      go_ret
      exact ⟨rfl, (Fp.refl _ _).alloc _⟩
end Go.Proofs.YtdmbjndhdldggaaDoor
