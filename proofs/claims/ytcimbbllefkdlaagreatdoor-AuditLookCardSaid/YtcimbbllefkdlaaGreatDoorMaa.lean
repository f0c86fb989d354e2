/- Texts of this proof, merged: Base ChA ChR. -/
import Derived.WalkKit
import Derived.WalkSpells
import Derived.WalkLawsBesides
import Derived.Deep.QuietTactic
import Derived.BigQuiet
import Derived.DeepKeys4
import Derived.Maps.Own
import Derived.WalkSmall
import Derived.StillTailTactics
import Derived.Lib.Hide
import Derived.Deep.LoopGhost
import Derived.Laws.AppendOwnNone
import Derived.Lib.QuietBelow
import Derived.Deep.RegionWith
import Derived.BigRegion
import Derived.Deep.DeepCutAuto
import Derived.Deep.RegionHeld3
import Derived.Test.YtcimbbllefkdlaaGreatDoorRows
namespace Go.Proofs.YtcimbbllefkdlaaGreatDoor
set_option linter.unusedVariables false
set_option linter.unusedSimpArgs false
open Go.RowKit
open Go.ChangeMaps (setBlock)
open Go.WideMaps (KeyLaw)

/-- What may have been written: the blocks of S, and new ones. -/
structure Fp (S : Nat → Prop) (w w' : World) : Prop where
  os : w'.os = w.os
  tape : w'.tape = w.tape
  output : w'.output = w.output
  size : w.heap.size ≤ w'.heap.size
  block : ∀ k, k < w.heap.size → ¬ S k → w'.heap[k]? = w.heap[k]?

theorem Fp.refl (S : Nat → Prop) (w : World) : Fp S w w := ⟨rfl, rfl, rfl, Nat.le_refl _, fun _ _ _ => rfl⟩
theorem Fp.trans {S T : Nat → Prop} {a b c : World} (h : Fp S a b) (k : Fp T b c) (hs : ∀ i, i < a.heap.size → T i → S i) : Fp S a c :=
  ⟨k.os.trans h.os, k.tape.trans h.tape, k.output.trans h.output, Nat.le_trans h.size k.size,
   fun i hi hn => (k.block i (Nat.lt_of_lt_of_le hi h.size) (fun ht => hn (hs i hi ht))).trans (h.block i hi hn)⟩
theorem Fp.mono {S T : Nat → Prop} {a b : World} (h : Fp S a b) (hs : ∀ i, i < a.heap.size → S i → T i) : Fp T a b :=
  ⟨h.os, h.tape, h.output, h.size, fun i hi hn => h.block i hi (fun ht => hn (hs i hi ht))⟩
theorem Fp.alloc {S : Nat → Prop} {a w : World} (h : Fp S a w) (o : Obj) : Fp S a (w.alloc o) :=
  ⟨h.os, h.tape, h.output, by have := h.size; simp; omega, fun k hk hn => (Below.heap_alloc _ _ _ (Nat.lt_of_lt_of_le hk h.size)).trans (h.block k hk hn)⟩
theorem Fp.drew {S : Nat → Prop} {a w : World} (h : Fp S a w) : Fp S a w.drew := ⟨h.os, h.tape, h.output, h.size, h.block⟩
theorem Fp.drewN {S : Nat → Prop} {a w : World} (h : Fp S a w) (n : Nat) : Fp S a (w.drewN n) := ⟨h.os, h.tape, h.output, h.size, h.block⟩
theorem Fp.setCell {S : Nat → Prop} {a w : World} (h : Fp S a w) {p : Addr} (hp : a.heap.size ≤ p.block ∨ S p.block) (u : Value) : Fp S a (w.setCell p u) :=
  ⟨h.os, h.tape, h.output, by simpa [World.setCell] using h.size, fun k hk hn => by
    have : k ≠ p.block := by
      rintro rfl
      rcases hp with hp | hp
      · omega
      · exact hn hp
    rw [Below.heap_setCell _ _ _ _ this]; exact h.block k hk hn⟩
theorem Fp.setBlock {S : Nat → Prop} {a w : World} (h : Fp S a w) {b : Nat} (hp : a.heap.size ≤ b ∨ S b) (o : Obj) : Fp S a (setBlock w b o) :=
  ⟨h.os, h.tape, h.output, by simpa [ChangeMaps.setBlock] using h.size, fun k hk hn => by
    have : k ≠ b := by
      rintro rfl
      rcases hp with hp | hp
      · omega
      · exact hn hp
    simp only [ChangeMaps.setBlock, Array.getElem?_setIfInBounds]
    rw [if_neg (by omega)]; exact h.block k hk hn⟩
theorem Fp.of_below {w w' : World} (h : Below w.heap.size w w') : Fp (fun _ => False) w w' := ⟨h.os, h.tape, h.output, h.size, fun k hk _ => h.block k hk⟩
theorem Fp.below {S : Nat → Prop} {B : Nat} {w w' : World} (h : Fp S w w') (hB : B ≤ w.heap.size) (hs : ∀ k, k < B → ¬ S k) : Below B w w' :=
  ⟨h.os, h.tape, h.output, h.size, fun k hk => h.block k (by omega) (hs k hk)⟩
theorem Fp.cell {S : Nat → Prop} {w w' : World} (h : Fp S w w') {p : Addr} (hp : p.block < w.heap.size) (hs : ¬ S p.block) : w'.cell? p = w.cell? p := World.cell?_of_block (w := w) (h.block _ hp hs)
theorem Fp.frozen {S : Nat → Prop} {w w' : World} (h : Fp S w w') {p : Addr} (hp : p.block < w.heap.size) (hs : ¬ S p.block) : w'.frozen? p = w.frozen? p := World.frozen?_of_block (w := w) (h.block _ hp hs)

theorem Fp.bcell {W w1 : World} (hb : Fp (fun _ => False) W w1) : (∀ b o, b < W.heap.size → w1.cell? ⟨b, o, none⟩ = W.cell? ⟨b, o, none⟩) ∧ (∀ b o, b < W.heap.size → w1.frozen? ⟨b, o, none⟩ = W.frozen? ⟨b, o, none⟩) ∧ W.heap.size ≤ w1.heap.size :=
  ⟨fun b o h => hb.cell (p := ⟨b, o, none⟩) h id, fun b o h => hb.frozen (p := ⟨b, o, none⟩) h id, hb.size⟩

theorem cell_lt {w : World} {p : Addr} {v : Value} (h : w.cell? p = some v) : p.block < w.heap.size := by
  unfold World.cell? at h
  rcases hb : w.heap[p.block]? with _ | o
  · simp [hb] at h
  · exact (Array.getElem?_eq_some_iff.1 hb).1

/-- 'go_still' and 'go_still_tail', the world spelled 'w.drew'. -/
theorem wp_still_tail {P : Program} {a : Act} {w : World} {id : Nat} {Q : Exit → Act → World → Prop} {l : List Oper} (n : Nat) (hm : P.follows .mixedOrders = true) (hB : Region.lexTailB .any l.toArray n = true)
    (h : wpStill P l.toArray w.drew (fun a' => wpList P l.toArray Q (l.drop n) a' w.drew) (l.take n) a) : (Code.region id l.toArray true).wp P Q a w := wp_region_still_tail n hm hB h
theorem wp_still_lit {P : Program} {a : Act} {w : World} {id : Nat} {Q : Exit → Act → World → Prop} {l : List Oper} (hm : P.follows .mixedOrders = true) (hB : Region.lexB .any l.toArray = true)
    (h : wpStill P l.toArray w.drew (fun a' => Q .normal a' w.drew) l a) : (Code.region id l.toArray true).wp P Q a w := wp_region_still_lit hm hB h

/-- A map's block, as a list of keys and elements. -/
def MapIs (w : World) (b : Nat) (m : List (Value × Value)) : Prop := ∃ es clk, w.heap[b]? = some (.map es clk) ∧ es.toList.map (fun e => (e.key, e.val)) = m

theorem MapIs.lt {w : World} {b : Nat} {m : List (Value × Value)} (h : MapIs w b m) : b < w.heap.size := by
  obtain ⟨es, clk, h, _⟩ := h; exact (Array.getElem?_eq_some_iff.1 h).1
theorem MapIs.of_block {w w' : World} {b : Nat} {m : List (Value × Value)} (h : MapIs w b m) (he : w'.heap[b]? = w.heap[b]?) : MapIs w' b m := by
  obtain ⟨es, clk, h, hm⟩ := h; exact ⟨es, clk, he.trans h, hm⟩
theorem heap_new (w : World) (o : Obj) (n : Nat) (hn : n = w.heap.size) : (w.alloc o).heap[n]? = some o := by subst hn; exact (MapKept.heap_alloc w o).1
theorem MapIs.made (w : World) : MapIs (w.alloc (.map #[] 0)) w.heap.size [] := ⟨#[], 0, (MapKept.heap_alloc w _).1, rfl⟩

section
variable {P : Program} {k : TypeId} {w : World} {t e b : Nat} {m : List (Value × Value)} {x : Value}

theorem keys_ok {es : Array MapEntry} (hm : es.toList.map (fun e => (e.key, e.val)) = m) (hk : ∀ p ∈ m, ∃ l, keyOf P k p.1 = some l) : ∀ e ∈ es.toList, ∃ l, keyOf P k e.key = some l :=
  fun e he => hk (e.key, e.val) (by rw [← hm]; exact List.mem_map.2 ⟨e, he, rfl⟩)

theorem eq_of_nodup {es : List MapEntry} (hn : (es.map (fun e => e.key)).Nodup) {a c : MapEntry} (ha : a ∈ es) (hc : c ∈ es) (h : a.key = c.key) : a = c := by
  induction es with
  | nil => cases ha
  | cons y ys ih =>
    simp only [List.map_cons, List.nodup_cons] at hn
    rcases List.mem_cons.1 ha with rfl | ha'
    · rcases List.mem_cons.1 hc with rfl | hc'
      · rfl
      · exact absurd (List.mem_map.2 ⟨c, hc', h.symm⟩) hn.1
    · rcases List.mem_cons.1 hc with rfl | hc'
      · exact absurd (List.mem_map.2 ⟨a, ha', h⟩) hn.1
      · exact ih hn.2 ha' hc'

theorem map_keys {es : Array MapEntry} (hm : es.toList.map (fun e => (e.key, e.val)) = m) : es.toList.map (fun e => e.key) = m.map Prod.fst := by
  rw [← hm, List.map_map]; rfl

theorem look_hit (K : KeyLaw P k) (ht : P.underlying t = some (.map k e)) (h : MapIs w b m) (hk : ∀ p ∈ m, ∃ l, keyOf P k p.1 = some l) (hnd : (m.map Prod.fst).Nodup)
    {v : Value} (hin : (x, v) ∈ m) (c : Bool) :
    (Instr.lookup t (.map (some b)) x c).run P w = .ok (if c then .tuple #[v, .bool true] else v) w := by
  obtain ⟨lx, hx⟩ : ∃ l, keyOf P k x = some l := hk _ hin
  obtain ⟨es, clk, hb, hm⟩ := h
  rw [← map_keys hm] at hnd
  rw [← hm] at hin
  obtain ⟨e1, he1, heq⟩ := List.mem_map.1 hin
  simp only [Prod.mk.injEq] at heq
  rcases K.find w hx es.toList (keys_ok hm hk) with ⟨_, h2⟩ | ⟨j, e0, h1, h2, h3⟩
  · exact absurd heq.1 (h2 e1 he1)
  · have : e0 = e1 := eq_of_nodup hnd (List.mem_of_getElem? h2) he1 (h3.trans heq.1.symm)
    subst this
    rw [← heq.2]
    simp [Instr.lookup, run_underlying ht, MapKept.run_getObj_map hb, K.check w _ hx, h1, Result.andThen]

theorem look_hit0 (K : KeyLaw P k) (ht : P.underlying t = some (.map k e)) (h : MapIs w b m) (hk : ∀ p ∈ m, ∃ l, keyOf P k p.1 = some l) (hnd : (m.map Prod.fst).Nodup)
    {v : Value} (hin : (x, v) ∈ m) : (Instr.lookup t (.map (some b)) x false).run P w = .ok v w := look_hit K ht h hk hnd hin false

end

/-- A block of plain cells, none of them a string's. -/
def Plain (w : World) (b : Nat) : Prop := (w.shape? b).isSome = true ∧ ∀ o, w.frozen? ⟨b, o, none⟩ = false

theorem shape_of_cell {w : World} {b o : Nat} {v : Value} (h : w.cell? ⟨b, o, none⟩ = some v) : (w.shape? b).isSome = true := by
  unfold World.cell? at h
  unfold World.shape?
  rcases hb : w.heap[b]? with _ | x
  · simp [hb] at h
  · cases x <;> simp [hb] at h ⊢

theorem Plain.of_cell {w : World} {b o : Nat} {v : Value} (h : w.cell? ⟨b, o, none⟩ = some v) (hz : ∀ o, w.frozen? ⟨b, o, none⟩ = false) : Plain w b := ⟨shape_of_cell h, hz⟩

theorem Plain.lt {w : World} {b : Nat} (h : Plain w b) : b < w.heap.size := by
  obtain ⟨x, hx⟩ := Option.isSome_iff_exists.1 h.1
  unfold World.shape? at hx
  rcases hb : w.heap[b]? with _ | y
  · simp [hb] at hx
  · exact (Array.getElem?_eq_some_iff.1 hb).1
theorem Plain.of_block {w w' : World} {b : Nat} (h : Plain w b) (e : w'.heap[b]? = w.heap[b]?) : Plain w' b :=
  ⟨by unfold World.shape?; rw [e]; exact h.1, fun o => (World.frozen?_of_block (a := ⟨b, o, none⟩) e).trans (h.2 o)⟩

theorem run_sameAddr {P : Program} {w : World} {a b : Addr} (sa : a.spot = none) (sb : b.spot = none) (ha : Plain w a.block) (hb : Plain w b.block) : (sameAddr a b).run P w = .ok (a == b) w := by
  obtain ⟨ab, ao, asp⟩ := a
  obtain ⟨bb, bo, bs⟩ := b
  obtain rfl : asp = none := sa
  obtain rfl : bs = none := sb
  by_cases h : ab = bb
  · subst h
    simp [sameAddr]
  · have hne : ((⟨ab, ao, none⟩ : Addr) == ⟨bb, bo, none⟩) = false := by simp [h]
    obtain ⟨⟨ta, na⟩, hsa⟩ := Option.isSome_iff_exists.1 ha.1
    obtain ⟨⟨tb, nb⟩, hsb⟩ := Option.isSome_iff_exists.1 hb.1
    have fa : ∀ o, w.frozen? ⟨ab, o, none⟩ = false := ha.2
    have fb : ∀ o, w.frozen? ⟨bb, o, none⟩ = false := hb.2
    have e1 : w.shape? ab = some (ta, na) := hsa
    have e2 : w.shape? bb = some (tb, nb) := hsb
    simp [sameAddr, h, hne, frozen, fa, Sem.run, noView, viewAt, shape, e1, e2, mayBeOne, stringish, fb]

theorem run_equalIn_ptr (d : Nat) {P : Program} {w : World} {t e : TypeId} {a b : Addr} (ht : P.underlying t = some (.pointer e)) (hs : P.cellsOf e ≠ 0) (sa : a.spot = none) (sb : b.spot = none) (ha : Plain w a.block) (hb : Plain w b.block) :
    (Op.equalIn (d + 1) t (.pointer (some a)) (.pointer (some b))).run P w = .ok (a == b) w := by
  unfold Program.cellsOf at hs
  rcases hi : P.info? e with _ | i
  · simp [hi] at hs
  · simp [hi] at hs
    simp [Op.equalIn, run_underlying ht, sizeOf, typeInfo, program, Sem.run, hi, hs, run_sameAddr sa sb ha hb]

theorem run_equal_ptr {P : Program} {w : World} {t e : TypeId} {a b : Addr} (ht : P.underlying t = some (.pointer e)) (hs : P.cellsOf e ≠ 0) (sa : a.spot = none) (sb : b.spot = none) (ha : Plain w a.block) (hb : Plain w b.block) :
    (Op.equal t (.pointer (some a)) (.pointer (some b))).run P w = .ok (a == b) w := run_equalIn_ptr 9999 ht hs sa sb ha hb

theorem run_eql_ptr {P : Program} {w : World} {t e : TypeId} {a b : Addr} (ht : P.underlying t = some (.pointer e)) (hs : P.cellsOf e ≠ 0) (sa : a.spot = none) (sb : b.spot = none) (ha : Plain w a.block) (hb : Plain w b.block) :
    (binOp .eql t (.pointer (some a)) (.pointer (some b))).run P w = .ok (.bool (a == b)) w := by
  simp only [binOp]
  simp [run_equal_ptr ht hs sa sb ha hb]
theorem Fp.grown {S : Nat → Prop} {a w w' : World} {row : Option Nat} (h : Fp S a w) (hg : w.grownBy w' row) (hr : ∀ k, row = some k → a.heap.size ≤ k ∨ S k) : Fp S a w' :=
  ⟨hg.os.trans h.os, hg.tape.trans h.tape, hg.output.trans h.output, Nat.le_trans h.size hg.size, fun k hk hn => (hg.block k (Nat.lt_of_lt_of_le hk h.size) (fun e => by
    rcases hr k e.symm with h1 | h1
    · omega
    · exact hn h1)).trans (h.block k hk hn)⟩

/-- Where what was appended lies: in the old block, or in a new one. -/
theorem append_where {P : Program} {w : World} (base t ty e : Nat) (i : TypeInfo) (z : Value) (ht : P.underlying t = some (.slice e)) (hi : P.info? e = some i) (hz : i.zero = some z)
    (v : Value) (n : Nat) (xs : List Value) (hown : w.ownsRow base e i.size v n xs)
    (a : Addr) (m c : Nat) (news : List Value) (hl : news.length = m * i.size) (hnews : ∀ j u, news[j]? = some u → w.cell? (a.add j) = some u) (h1 : ∀ u ∈ news, u.oneCell' = true)
    (h63 : n + m ≤ maxLen) (hbytes : (n + m) * i.bytes ≤ 140737488355328) {v' : Value} {w' : World} (hr : (Builtin.append_ #[t, t] ty #[v, .slice (some a) m c]).run P w = .ok v' w') :
    v'.ownBlock = v.ownBlock ∨ v'.ownBlock = some w.heap.size := by
  have hsmall : n + m ≤ 9223372036854775807 := by simp only [maxLen] at h63; omega
  have hc := hown
  obtain ⟨ho, h2⟩ := hown
  rcases h2 with ⟨rfl, rfl⟩ | ⟨g, cap, cur, rfl, hbg, hg, hnc, hcm, hcs, htake⟩
  · by_cases hm : m = 0
    · subst hm
      have hn : news = [] := List.eq_nil_of_length_eq_zero (by simpa using hl)
      subst hn
      simp [Builtin.append_, run_underlying ht, sizeOf, typeInfo, hi, Builtin.lenOf, Builtin.firstCells, loadCells, loadCellsFrom] at hr
      exact Or.inl (by rw [← hr.1])
    · rw [run_append_nil (P := P) w t ty e i z ht hi hz a m c news hl hnews (by omega) (by omega) (by have hb := hbytes; simp only [Nat.zero_add] at hb; omega)] at hr
      injection hr with h1 _
      exact Or.inr (by rw [← h1]; rfl)
  · by_cases hroom : n + m ≤ cap
    · rw [run_append_room (P := P) w t ty e i ht hi g n cap cur hg a m c news hl hnews h1 hroom (by rw [hl, hcs, ← Nat.add_mul]; exact Nat.mul_le_mul_right _ hroom)] at hr
      injection hr with h1 _
      exact Or.inl (by rw [← h1]; rfl)
    · rw [run_append_grow (P := P) w t ty e i z ht hi hz ⟨g, 0, none⟩ n cap xs ho (hc.cells (g := g) rfl) a m c news hl hnews (by omega) (by omega) (growslice_fits (by omega) hbytes)] at hr
      injection hr with h1 _
      exact Or.inr (by rw [← h1]; rfl)

theorem wp_append_at {P : Program} {w : World} {ops : Array Oper} {rest : List Oper} {o : Oper} {a : Act} {Q : Exit → Act → World → Prop} (hgd : o.guard = none) (s x : Operand) (t : TypeId)
    (ho : o.op = .call { callee := .builtin .append, args := #[s, x], argTypes := #[t, t] })
    (base : Nat) (e : TypeId) (i : TypeInfo) (z : Value) (ht : P.underlying t = some (.slice e)) (hi : P.info? e = some i) (hz : i.zero = some z)
    (hzs : z.cells.size = i.size) (hsz : 0 < i.size) (v : Value) (n : Nat) (xs : List Value) (hs : a.eval s = v) (hown : w.ownsRow base e i.size v n xs)
    (ad : Addr) (m c : Nat) (news : List Value) (hx : a.eval x = .slice (some ad) m c) (hl : news.length = m * i.size) (hnews : ∀ j u, news[j]? = some u → w.cell? (ad.add j) = some u) (h1 : ∀ u ∈ news, u.oneCell' = true)
    (h63 : n + m ≤ maxLen) (hbytes : (n + m) * i.bytes ≤ 140737488355328) (hbase : base ≤ w.heap.size)
    (h : ∀ v' w', w'.ownsRow base e i.size v' (n + m) (xs ++ news) → w.grownBy w' v.ownBlock → (v' = .slice none 0 0 ↔ v = .slice none 0 0 ∧ m = 0) → (v'.ownBlock = v.ownBlock ∨ v'.ownBlock = some w.heap.size) → wpList P ops Q rest (a.put o.dst v') w') : wpList P ops Q (o :: rest) a w := by
  refine wpList_plain hgd fun K hK => ?_
  obtain ⟨v', w', hr, h2, h3, h4⟩ := run_append_own (P := P) w base t o.type e i z i.size i.bytes ht hi hz rfl rfl hzs hsz v n xs hown ad m c news hl hnews h1 h63 hbytes hbase
  have h5 := append_where base t o.type e i z ht hi hz v n xs hown ad m c news hl hnews h1 h63 hbytes hr
  unfold Oper.wp execOp
  simp only [ho, resolve, invoke, builtin, Sem.run_bind, Sem.run_pure, Result.andThen_ok, List.map_toArray, List.map_cons, List.map_nil, hs, hx, hr]
  exact hK _ _ (h v' w' h2 h3 h4 h5)

/-- 'append(s, x)' of one element that lies in a block of its own, to a slice of the call's own. -/
theorem wp_append1 {P : Program} {w : World} {ops : Array Oper} {rest : List Oper} {o : Oper} {a : Act} {Q : Exit → Act → World → Prop} (hgd : o.guard = none) (s x : Operand) (t : TypeId)
    (ho : o.op = .call { callee := .builtin .append, args := #[s, x], argTypes := #[t, t] })
    (base : Nat) (e : TypeId) (z : Value) (size : Nat) (ht : P.underlying t = some (.slice e)) (hi : ∃ i, P.info? e = some i ∧ i.zero = some z ∧ i.size = size ∧ i.bytes ≤ 65536)
    (hzs : z.cells.size = size) (hsz : 0 < size) (v : Value) (n : Nat) (xs : List Value) (hs : a.eval s = v) (hown : w.ownsRow base e size v n xs)
    (g : Nat) (news : List Value) (hx : a.eval x = .slice (some ⟨g, 0, none⟩) 1 1) (hl : news.length = size) (hnews : w.heap[g]? = some (.cells news.toArray e (0, 0))) (h1 : ∀ u ∈ news, u.oneCell' = true)
    (hn : n + 1 ≤ 1048576) (hbase : base ≤ w.heap.size)
    (h : ∀ v' w', w'.ownsRow base e size v' (n + 1) (xs ++ news) → w.grownBy w' v.ownBlock → v' ≠ .slice none 0 0 → (v'.ownBlock = v.ownBlock ∨ v'.ownBlock = some w.heap.size) → wpList P ops Q rest (a.put o.dst v') w') : wpList P ops Q (o :: rest) a w := by
  obtain ⟨i, hi, hz, rfl, hb⟩ := hi
  refine wp_append_at hgd s x t ho base e i z ht hi hz hzs hsz v n xs hs hown ⟨g, 0, none⟩ 1 1 news hx (by omega) ?_ h1 (by unfold maxLen; omega) ?_ hbase ?_
  · intro j u hj
    have e : (⟨g, 0, none⟩ : Addr).add j = ⟨g, j, none⟩ := by unfold Addr.add; split <;> simp_all
    rw [e]
    simp [World.cell?, hnews, hj]
  · have := Nat.mul_le_mul hn hb; omega
  · intro v' w' h2 h3 h4 h5
    exact h v' w' h2 h3 (fun e => by have := h4.1 e; omega) h5

theorem ownsRow_of_block {w w' : World} {B : Nat} {e : TypeId} {size : Nat} {v : Value} {n : Nat} {xs : List Value} (h : w.ownsRow B e size v n xs) (hb : ∀ g, v.ownBlock = some g → w'.heap[g]? = w.heap[g]?) : w'.ownsRow B e size v n xs := by
  obtain ⟨h1, h2⟩ := h
  refine ⟨h1, ?_⟩
  rcases h2 with h2 | ⟨g, cap, cur, hv, hg, hh, r⟩
  · exact Or.inl h2
  · exact Or.inr ⟨g, cap, cur, hv, hg, by rw [hb g (by rw [hv]; rfl)]; exact hh, r⟩
theorem ownsRow_mono {w : World} {B B' : Nat} {e : TypeId} {size : Nat} {v : Value} {n : Nat} {xs : List Value} (h : w.ownsRow B e size v n xs) (hB : B' ≤ B) : w.ownsRow B' e size v n xs := by
  obtain ⟨h1, h2⟩ := h
  refine ⟨h1, ?_⟩
  rcases h2 with h2 | ⟨g, cap, cur, hv, hg, hh, r⟩
  · exact Or.inl h2
  · exact Or.inr ⟨g, cap, cur, hv, by omega, hh, r⟩
theorem heap_set (w : World) (g i : Nat) (cs : Array Value) (t : TypeId) (v : Value) (hg : w.heap[g]? = some (.cells cs t (0, 0))) : (w.setCell ⟨g, i, none⟩ v).heap[g]? = some (.cells (cs.setIfInBounds i v) t (0, 0)) := by
  simp [World.setCell, Array.getElem?_modify, hg]

abbrev NoW (w w' : World) : Prop := Fp (fun _ => False) w w'
def Ret1 (v : Value) (w : World) (e : Ending) (w' : World) : Prop := e = .returned v ∧ NoW w w'

theorem NoW.below {w w' : World} (h : NoW w w') : Below w.heap.size w w' := Fp.below h (Nat.le_refl _) (fun _ _ => id)
end Go.Proofs.YtcimbbllefkdlaaGreatDoor
namespace Go.Proofs.YtcimbbllefkdlaaGreatDoor
set_option linter.unusedVariables false
set_option linter.unusedSimpArgs false
section
variable {P : Program} {ops : Array Oper} {Q : Exit → Act → World → Prop} {md : Region.Mode} {S : World → Prop}
theorem take_at (i : Nat) (d : Option Tmp) {oi : Oper} {v : Value} {fuel : Nat} {listed : Array Bool} {a : Act} {w : World} (hi : ops[i]? = some oi) (hd : oi.dst = d)
    (hs : Region.noSelect ops = true) (hf : Region.free md ops listed i = true) (hr : (Region.ready md ops listed).contains i = true)
    (hQ : ∀ c a w, Q (.panic c) (a.put d v) w → Q (.panic c) a w) (hw : Region.wanted oi (yielded ops a.tmps) = true)
    (hy : ∀ w, S w → (execOp a.eval oi).run P w = .ok (.value v) w) (hS : S w)
    (h : wpAnyH P md ops Q S fuel (listed.setIfInBounds i true) (a.put d v) w) : wpAnyH P md ops Q S (fuel + 1) listed a w := by
  subst hd
  exact wpAnyH_take hi hs hf hr hQ (Or.inl ⟨hw, hy⟩) hS h
theorem drop_at (i : Nat) (d : Option Tmp) {oi : Oper} {fuel : Nat} {listed : Array Bool} {a : Act} {w : World} (hi : ops[i]? = some oi) (hd : oi.dst = d)
    (hs : Region.noSelect ops = true) (hf : Region.free md ops listed i = true) (hr : (Region.ready md ops listed).contains i = true)
    (hQ : ∀ c a w, Q (.panic c) (a.put d undef) w → Q (.panic c) a w) (hw : Region.wanted oi (yielded ops a.tmps) = false) (hS : S w)
    (h : wpAnyH P md ops Q S fuel (listed.setIfInBounds i true) (a.put d undef) w) : wpAnyH P md ops Q S (fuel + 1) listed a w := by
  subst hd
  exact wpAnyH_take hi hs hf hr hQ (Or.inr ⟨hw, rfl⟩) hS h
theorem tk (i : Nat) (d : Option Tmp) {oi : Oper} (v : Value) {fuel : Nat} {listed : Array Bool} {a : Act} {w : World}
    (hy : ∀ w, S w → (execOp a.eval oi).run P w = .ok (.value v) w)
    (h : wpAnyH P md ops Q S fuel (listed.setIfInBounds i true) (a.put d v) w)
    (hi : ops[i]? = some oi := by rfl) (hd : oi.dst = d := by rfl) (hs : Region.noSelect ops = true := by kernel_rfl) (hf : Region.free md ops listed i = true := by kernel_rfl) (hr : (Region.ready md ops listed).contains i = true := by kernel_rfl)
    (hQ : ∀ c a w, Q (.panic c) (a.put d v) w → Q (.panic c) a w := by exact fun _ _ _ h => h) (hw : Region.wanted oi (yielded ops a.tmps) = true := by kernel_rfl) (hS : S w := by assumption) : wpAnyH P md ops Q S (fuel + 1) listed a w :=
  take_at i d hi hd hs hf hr hQ hw hy hS h
theorem dk (i : Nat) (d : Option Tmp) {oi : Oper} {fuel : Nat} {listed : Array Bool} {a : Act} {w : World}
    (h : wpAnyH P md ops Q S fuel (listed.setIfInBounds i true) (a.put d undef) w)
    (hi : ops[i]? = some oi := by rfl) (hd : oi.dst = d := by rfl) (hs : Region.noSelect ops = true := by kernel_rfl) (hf : Region.free md ops listed i = true := by kernel_rfl) (hr : (Region.ready md ops listed).contains i = true := by kernel_rfl)
    (hQ : ∀ c a w, Q (.panic c) (a.put d undef) w → Q (.panic c) a w := by exact fun _ _ _ h => h) (hw : Region.wanted oi (yielded ops a.tmps) = false := by kernel_rfl) (hS : S w := by assumption) : wpAnyH P md ops Q S (fuel + 1) listed a w :=
  drop_at i d hi hd hs hf hr hQ hw hS h
end
end Go.Proofs.YtcimbbllefkdlaaGreatDoor
namespace Go.Proofs.YtcimbbllefkdlaaGreatDoor
set_option linter.unusedVariables false
set_option linter.unusedSimpArgs false
open Go.RowKit Go.Lib

section
variable {P : Program}
theorem wp_gen {c : Code} {Q : Exit → Act → World → Prop} {a : Act} {w : World} (h : ∀ W, W = w → c.wp P Q a W) : c.wp P Q a w := h w rfl
theorem post_gen {fn : Func} {R : Ending → World → Prop} {e : Exit} {a : Act} {w : World} (h : ∀ W, W = w → bodyPost P fn R e a W) : bodyPost P fn R e a w := h w rfl
theorem calls_gen {f : FuncId} {asv : Array Value} {w : World} {Q : Ending → World → Prop} (h : ∀ W, W = w → Calls P f asv W Q) : Calls P f asv w Q := h w rfl
theorem any_eq {md : Region.Mode} {ops : Array Oper} {Q : Exit → Act → World → Prop} {S : World → Prop} {fuel : Nat} {listed : Array Bool} {a : Act} {w : World} (hS : S w)
    (h : ∀ W, W = w → S W → wpAnyH P md ops Q S fuel listed a W) : wpAnyH P md ops Q S fuel listed a w := h w rfl hS
theorem k_gen {S : World → Prop} {R K : Act → World → Prop} {a : Act} {w : World} (hK : Shut (∀ a w, S w → (S w → R a w) → K a w)) (h : ∀ W, W = w → S W ∧ R a W) : K a w :=
  hK.out a w (h w rfl).1 (fun _ => (h w rfl).2)
theorem k_now {S : World → Prop} {R K : Act → World → Prop} {a : Act} {w : World} (hK : Shut (∀ a w, S w → (S w → R a w) → K a w)) (hS : S w) (h : R a w) : K a w :=
  hK.out a w hS (fun _ => h)
end

theorem hid_now {S : Nat → Prop} {a b c : World} (h : Hid (Fp S a b)) (hp : NoW b c) : Hid (Fp S a c) := hid (h.out.trans hp (fun _ _ h => h.elim))
theorem hid_blk {w w' : World} {g : Nat} {o : Obj} (h : Hid (w.heap[g]? = some o)) (hp : NoW w w') : Hid (w'.heap[g]? = some o) := hid ((hp.block _ (Array.getElem?_eq_some_iff.1 h.out).1 id).trans h.out)
theorem hid_blkS {S : Nat → Prop} {w w' : World} {g : Nat} {o : Obj} (h : Hid (w.heap[g]? = some o)) (hp : Fp S w w') (hn : ¬ S g) : Hid (w'.heap[g]? = some o) := hid ((hp.block _ (Array.getElem?_eq_some_iff.1 h.out).1 hn).trans h.out)
theorem hid_lt {w : World} {g : Nat} {o : Obj} (h : Hid (w.heap[g]? = some o)) : g < w.heap.size := (Array.getElem?_eq_some_iff.1 h.out).1
theorem cell_at {w : World} {g : Nat} {cs : List Value} {T : TypeId} {fr : Nat × Nat} (h : Hid (w.heap[g]? = some (.cells cs.toArray T fr))) (j : Nat) {v : Value} (hj : cs[j]? = some v) : w.cell? ⟨g, j, none⟩ = some v := by
  simp only [World.cell?, h.out]; simpa using hj
theorem froz_at {w : World} {g : Nat} {cs : Array Value} {T : TypeId} (h : Hid (w.heap[g]? = some (.cells cs T (0, 0)))) (j : Nat) : w.frozen? ⟨g, j, none⟩ = false := by
  simp [World.frozen?, h.out]
theorem new_blk {w W : World} {o : Obj} (h : W = w.alloc o) : Hid (W.heap[w.heap.size]? = some o) := by subst h; exact hid (heap_new w o _ rfl)
theorem new_now {w W : World} {o : Obj} (h : W = w.alloc o) : NoW w W := by subst h; exact (Fp.refl _ _).alloc _
theorem new2_blk {w W : World} {o o' : Obj} (h : W = (w.alloc o).alloc o') : Hid (W.heap[w.heap.size]? = some o) ∧ Hid (W.heap[w.heap.size + 1]? = some o') ∧ NoW w W := by
  subst h
  refine ⟨?_, ?_, ((Fp.refl _ _).alloc _).alloc _⟩
  · have h0 := heap_new w o _ rfl
    exact hid ((((Fp.refl (fun _ => False) (w.alloc o)).alloc o').block _ (Array.getElem?_eq_some_iff.1 h0).1 id).trans h0)
  · exact hid (heap_new (w.alloc o) o' _ (by simp))
theorem set_blk {w W : World} {g i : Nat} {cs : Array Value} {T : TypeId} {v : Value} (h : W = w.setCell ⟨g, i, none⟩ v) (hb : Hid (w.heap[g]? = some (.cells cs T (0, 0)))) : Hid (W.heap[g]? = some (.cells (cs.setIfInBounds i v) T (0, 0))) := by
  subst h; exact hid (heap_set w g i cs T v hb.out)
theorem set_now {w W : World} {g i : Nat} {v : Value} (h : W = w.setCell ⟨g, i, none⟩ v) : Fp (fun k => k = g) w W := by
  subst h; exact (Fp.refl (fun k => k = g) w).setCell (p := ⟨g, i, none⟩) (Or.inr rfl) v
theorem noW_drew {w W : World} (h : W = w.drew) : NoW w W := by subst h; exact (Fp.refl _ _).drew
/-- A write to a block that was made since leaves the old ones as they are. -/
theorem hid_own {S T : Nat → Prop} {a b c : World} (h : Hid (Fp S a b)) (hp : Fp T b c) (hg : ∀ i, i < a.heap.size → T i → S i) : Hid (Fp S a c) := hid (h.out.trans hp hg)
theorem hid_ge {S : Nat → Prop} {a b : World} (h : Hid (Fp S a b)) : a.heap.size ≤ b.heap.size := h.out.size
theorem setE5 {w W : World} {g : Nat} {T : TypeId} {z0 z1 z2 z3 z4 : Value} {x0 x1 x2 x3 x4 : Value} (hW : W = (((((w.setCell ⟨g, 0, none⟩ x0).setCell ⟨g, 1, none⟩ x1).setCell ⟨g, 2, none⟩ x2).setCell ⟨g, 3, none⟩ x3).setCell ⟨g, 4, none⟩ x4)) (h : Hid (w.heap[g]? = some (.cells #[z0, z1, z2, z3, z4] T (0, 0)))) :
    Hid (W.heap[g]? = some (.cells #[x0, x1, x2, x3, x4] T (0, 0))) ∧ Fp (fun k => k = g) w W := by
  subst hW
  refine ⟨hid ?_, ?_⟩
  · have h0 := heap_set w g 0 _ T x0 h.out
    have h1 := heap_set _ g 1 _ T x1 h0
    have h2 := heap_set _ g 2 _ T x2 h1
    have h3 := heap_set _ g 3 _ T x3 h2
    have h4 := heap_set _ g 4 _ T x4 h3
    rw [h4]; simp
  · exact ((((((Fp.refl (fun k => k = g) w).setCell (p := ⟨g, 0, none⟩) (Or.inr rfl) x0).setCell (p := ⟨g, 1, none⟩) (Or.inr rfl) x1).setCell (p := ⟨g, 2, none⟩) (Or.inr rfl) x2).setCell (p := ⟨g, 3, none⟩) (Or.inr rfl) x3).setCell (p := ⟨g, 4, none⟩) (Or.inr rfl) x4)
theorem setE7 {w W : World} {g : Nat} {T : TypeId} {z0 z1 z2 z3 z4 z5 z6 : Value} {x0 x1 x2 x3 x4 x5 x6 : Value} (hW : W = (((((((w.setCell ⟨g, 0, none⟩ x0).setCell ⟨g, 1, none⟩ x1).setCell ⟨g, 2, none⟩ x2).setCell ⟨g, 3, none⟩ x3).setCell ⟨g, 4, none⟩ x4).setCell ⟨g, 5, none⟩ x5).setCell ⟨g, 6, none⟩ x6)) (h : Hid (w.heap[g]? = some (.cells #[z0, z1, z2, z3, z4, z5, z6] T (0, 0)))) :
    Hid (W.heap[g]? = some (.cells #[x0, x1, x2, x3, x4, x5, x6] T (0, 0))) ∧ Fp (fun k => k = g) w W := by
  subst hW
  refine ⟨hid ?_, ?_⟩
  · have h0 := heap_set w g 0 _ T x0 h.out
    have h1 := heap_set _ g 1 _ T x1 h0
    have h2 := heap_set _ g 2 _ T x2 h1
    have h3 := heap_set _ g 3 _ T x3 h2
    have h4 := heap_set _ g 4 _ T x4 h3
    have h5 := heap_set _ g 5 _ T x5 h4
    have h6 := heap_set _ g 6 _ T x6 h5
    rw [h6]; simp
  · exact ((((((((Fp.refl (fun k => k = g) w).setCell (p := ⟨g, 0, none⟩) (Or.inr rfl) x0).setCell (p := ⟨g, 1, none⟩) (Or.inr rfl) x1).setCell (p := ⟨g, 2, none⟩) (Or.inr rfl) x2).setCell (p := ⟨g, 3, none⟩) (Or.inr rfl) x3).setCell (p := ⟨g, 4, none⟩) (Or.inr rfl) x4).setCell (p := ⟨g, 5, none⟩) (Or.inr rfl) x5).setCell (p := ⟨g, 6, none⟩) (Or.inr rfl) x6)
theorem setE8 {w W : World} {g : Nat} {T : TypeId} {z0 z1 z2 z3 z4 z5 z6 z7 : Value} {x0 x1 x2 x3 x4 x5 x6 x7 : Value} (hW : W = ((((((((w.setCell ⟨g, 0, none⟩ x0).setCell ⟨g, 1, none⟩ x1).setCell ⟨g, 2, none⟩ x2).setCell ⟨g, 3, none⟩ x3).setCell ⟨g, 4, none⟩ x4).setCell ⟨g, 5, none⟩ x5).setCell ⟨g, 6, none⟩ x6).setCell ⟨g, 7, none⟩ x7)) (h : Hid (w.heap[g]? = some (.cells #[z0, z1, z2, z3, z4, z5, z6, z7] T (0, 0)))) :
    Hid (W.heap[g]? = some (.cells #[x0, x1, x2, x3, x4, x5, x6, x7] T (0, 0))) ∧ Fp (fun k => k = g) w W := by
  subst hW
  refine ⟨hid ?_, ?_⟩
  · have h0 := heap_set w g 0 _ T x0 h.out
    have h1 := heap_set _ g 1 _ T x1 h0
    have h2 := heap_set _ g 2 _ T x2 h1
    have h3 := heap_set _ g 3 _ T x3 h2
    have h4 := heap_set _ g 4 _ T x4 h3
    have h5 := heap_set _ g 5 _ T x5 h4
    have h6 := heap_set _ g 6 _ T x6 h5
    have h7 := heap_set _ g 7 _ T x7 h6
    rw [h7]; simp
  · exact (((((((((Fp.refl (fun k => k = g) w).setCell (p := ⟨g, 0, none⟩) (Or.inr rfl) x0).setCell (p := ⟨g, 1, none⟩) (Or.inr rfl) x1).setCell (p := ⟨g, 2, none⟩) (Or.inr rfl) x2).setCell (p := ⟨g, 3, none⟩) (Or.inr rfl) x3).setCell (p := ⟨g, 4, none⟩) (Or.inr rfl) x4).setCell (p := ⟨g, 5, none⟩) (Or.inr rfl) x5).setCell (p := ⟨g, 6, none⟩) (Or.inr rfl) x6).setCell (p := ⟨g, 7, none⟩) (Or.inr rfl) x7)
theorem setE16 {w W : World} {g : Nat} {T : TypeId} {z0 z1 z2 z3 z4 z5 z6 z7 z8 z9 z10 z11 z12 z13 z14 z15 : Value} {x0 x1 x2 x3 x4 x5 x6 x7 x8 x9 x10 x11 x12 x13 x14 x15 : Value} (hW : W = ((((((((((((((((w.setCell ⟨g, 0, none⟩ x0).setCell ⟨g, 1, none⟩ x1).setCell ⟨g, 2, none⟩ x2).setCell ⟨g, 3, none⟩ x3).setCell ⟨g, 4, none⟩ x4).setCell ⟨g, 5, none⟩ x5).setCell ⟨g, 6, none⟩ x6).setCell ⟨g, 7, none⟩ x7).setCell ⟨g, 8, none⟩ x8).setCell ⟨g, 9, none⟩ x9).setCell ⟨g, 10, none⟩ x10).setCell ⟨g, 11, none⟩ x11).setCell ⟨g, 12, none⟩ x12).setCell ⟨g, 13, none⟩ x13).setCell ⟨g, 14, none⟩ x14).setCell ⟨g, 15, none⟩ x15)) (h : Hid (w.heap[g]? = some (.cells #[z0, z1, z2, z3, z4, z5, z6, z7, z8, z9, z10, z11, z12, z13, z14, z15] T (0, 0)))) :
    Hid (W.heap[g]? = some (.cells #[x0, x1, x2, x3, x4, x5, x6, x7, x8, x9, x10, x11, x12, x13, x14, x15] T (0, 0))) ∧ Fp (fun k => k = g) w W := by
  subst hW
  refine ⟨hid ?_, ?_⟩
  · have h0 := heap_set w g 0 _ T x0 h.out
    have h1 := heap_set _ g 1 _ T x1 h0
    have h2 := heap_set _ g 2 _ T x2 h1
    have h3 := heap_set _ g 3 _ T x3 h2
    have h4 := heap_set _ g 4 _ T x4 h3
    have h5 := heap_set _ g 5 _ T x5 h4
    have h6 := heap_set _ g 6 _ T x6 h5
    have h7 := heap_set _ g 7 _ T x7 h6
    have h8 := heap_set _ g 8 _ T x8 h7
    have h9 := heap_set _ g 9 _ T x9 h8
    have h10 := heap_set _ g 10 _ T x10 h9
    have h11 := heap_set _ g 11 _ T x11 h10
    have h12 := heap_set _ g 12 _ T x12 h11
    have h13 := heap_set _ g 13 _ T x13 h12
    have h14 := heap_set _ g 14 _ T x14 h13
    have h15 := heap_set _ g 15 _ T x15 h14
    rw [h15]; simp
  · exact (((((((((((((((((Fp.refl (fun k => k = g) w).setCell (p := ⟨g, 0, none⟩) (Or.inr rfl) x0).setCell (p := ⟨g, 1, none⟩) (Or.inr rfl) x1).setCell (p := ⟨g, 2, none⟩) (Or.inr rfl) x2).setCell (p := ⟨g, 3, none⟩) (Or.inr rfl) x3).setCell (p := ⟨g, 4, none⟩) (Or.inr rfl) x4).setCell (p := ⟨g, 5, none⟩) (Or.inr rfl) x5).setCell (p := ⟨g, 6, none⟩) (Or.inr rfl) x6).setCell (p := ⟨g, 7, none⟩) (Or.inr rfl) x7).setCell (p := ⟨g, 8, none⟩) (Or.inr rfl) x8).setCell (p := ⟨g, 9, none⟩) (Or.inr rfl) x9).setCell (p := ⟨g, 10, none⟩) (Or.inr rfl) x10).setCell (p := ⟨g, 11, none⟩) (Or.inr rfl) x11).setCell (p := ⟨g, 12, none⟩) (Or.inr rfl) x12).setCell (p := ⟨g, 13, none⟩) (Or.inr rfl) x13).setCell (p := ⟨g, 14, none⟩) (Or.inr rfl) x14).setCell (p := ⟨g, 15, none⟩) (Or.inr rfl) x15)
end Go.Proofs.YtcimbbllefkdlaaGreatDoor

namespace Go.Proofs.YtcimbbllefkdlaaGreatDoor
set_option linter.unusedVariables false
set_option linter.unusedSimpArgs false
open Go.RowKit
open Go.ChangeMaps (setBlock)
open Go.WideMaps (KeyLaw)

theorem Tryz.own : ownKnob Tryz.prog.godebug = none := by kernel_rfl
theorem Tryz.laidOut : laidOutB Tryz.prog = true := by kernel_rfl

theorem lawLk : KeyLaw Tryz.prog 83 :=
  deep_law_laid Tryz.laidOut (m := 4) (by decide) (by decide +kernel) (by kernel_rfl) (by kernel_rfl)

/-- A link, as numbers. -/
abbrev Lk := Int × Int × Bool
def lv (l : Lk) : Value := .agg #[.int .i64 l.1, .int .u32 l.2.1, .bool l.2.2]
def Lok (l : Lk) : Prop := (Lit.int .i64 l.1).wf = true ∧ (Lit.int .u32 l.2.1).wf = true

theorem lv_inj {a b : Lk} (h : lv a = lv b) : a = b := by
  simp [lv] at h; obtain ⟨h1, h2, h3⟩ := h; exact Prod.ext h1 (Prod.ext h2 h3)

theorem lv_lits (d : Nat) (l : Lk) (h : Lok l) : ∃ x, Tryz.prog.keyLits (d + 3) 83 [.int .i64 l.1, .int .u32 l.2.1, .bool l.2.2] = some x := by
  obtain ⟨h1, h2⟩ := h
  have c1 : Tryz.prog.cellsOf 83 = 3 := by kernel_rfl
  have c2 : Tryz.prog.cellsOf 71 = 2 := by kernel_rfl
  have c3 : Tryz.prog.cellsOf 3 = 1 := by kernel_rfl
  have c4 : Tryz.prog.cellsOf 43 = 1 := by kernel_rfl
  have c5 : Tryz.prog.cellsOf 4 = 1 := by kernel_rfl
  refine ⟨[.int .i64 l.1, .int .u32 l.2.1, .bool l.2.2], ?_⟩
  simp [Program.keyLits, Tryz.underlying83, Tryz.underlying71, Tryz.underlying3, Tryz.underlying43, Tryz.underlying4, c1, c2, c3, c4, c5, h1, h2]
  rw [if_pos (by intro i hi; rcases i with _ | _ | i; all_goals first | omega | simp)]
  rfl

theorem lv_key (l : Lk) (h : Lok l) : ∃ x, keyOf Tryz.prog 83 (lv l) = some x := by
  have hkt : Tryz.prog.keyType 83 = true := by kernel_rfl
  have hf : Value.formed Tryz.prog 83 (lv l) = true := by kernel_rfl
  have hd : Tryz.prog.types.size + 1 = (Tryz.prog.types.size - 2) + 3 := by kernel_rfl
  obtain ⟨x, hx⟩ := lv_lits (Tryz.prog.types.size - 2) l h
  unfold keyOf
  rw [hd]
  simp only [Tryz.underlying83, hkt, hf, Bool.and_self, ↓reduceIte]
  refine ⟨.string (keyBytes x), ?_⟩
  have : (lv l).cells.toList = [.int .i64 l.1, .int .u32 l.2.1, .bool l.2.2] := rfl
  rw [this, hx]
  rfl

set_option maxHeartbeats 400000 in
theorem size_ptr (b : Nat) (a : Option Addr) (n c : Nat) (w : World) (hc : w.cell? ⟨b, 0, none⟩ = some (.slice a n c)) :
    Calls Tryz.prog 63 #[.pointer (some ⟨b, 0, none⟩)] w fun e w' => e = .returned (.int .i64 n) ∧ w = w' := by
  go_enter Tryz.func63, Tryz.ntmps63
  go_wp2
  go_ret
  exact ⟨rfl, rfl⟩

set_option maxHeartbeats 400000 in
theorem there_ptr (b : Nat) (a : Option Addr) (n c : Nat) (i : Int) (w : World) (hc : w.cell? ⟨b, 0, none⟩ = some (.slice a n c)) :
    Calls Tryz.prog 102 #[.pointer (some ⟨b, 0, none⟩), .int .i64 i] w fun e w' => e = .returned (.bool (decide (0 ≤ i ∧ i < n))) ∧ w = w' := by
  by_cases h0 : 0 ≤ i
  · have h0' : decide (0 ≤ i) = true := by simpa using h0
    go_enter Tryz.func102, Tryz.ntmps102
    go_wp2_with (go_at_call 63; refine (size_ptr _ _ _ _ _ hc).mono ?_; rintro e w' ⟨rfl, rfl⟩)
    go_ret
    exact ⟨by simp [h0], rfl⟩
  · have h0' : decide (0 ≤ i) = false := by simpa using h0
    go_enter Tryz.func102, Tryz.ntmps102
    go_wp2
    go_ret
    exact ⟨by simp, rfl⟩

set_option maxHeartbeats 400000 in
theorem join_any (b o c p : Nat) (v1 u0 : Value) (w : World)
    (h0 : w.cell? ⟨b, o + 1, none⟩ = some v1) (h1 : w.cell? ⟨c, p, none⟩ = some u0)
    (f0 : w.frozen? ⟨b, o + 1, none⟩ = false) (f1 : w.frozen? ⟨c, p, none⟩ = false) (hne : ¬ (c = b ∧ p = o + 1)) :
    Calls Tryz.prog 81 #[.pointer (some ⟨b, o, none⟩), .pointer (some ⟨c, p, none⟩)] w fun e w' => e = .returned (.tuple #[]) ∧ (w.setCell ⟨b, o + 1, none⟩ (.pointer (some ⟨c, p, none⟩))).setCell ⟨c, p, none⟩ (.pointer (some ⟨b, o, none⟩)) = w' := by
  have h2 : (w.setCell ⟨b, o + 1, none⟩ (.pointer (some ⟨c, p, none⟩))).cell? ⟨c, p, none⟩ = some u0 := by
    rw [World.cell?_setCell_other _ _ _ _ (by simp; omega)]; exact h1
  go_enter Tryz.func81, Tryz.ntmps81
  go_wp2
  go_end0
  exact ⟨rfl, rfl⟩
end Go.Proofs.YtcimbbllefkdlaaGreatDoor

namespace Go.Proofs.YtcimbbllefkdlaaGreatDoor
set_option linter.unusedVariables false
set_option linter.unusedSimpArgs false
open Go.RowKit
open Go.ChangeMaps (setBlock)

abbrev Ad := Nat × Nat
def ptr (a : Ad) : Value := .pointer (some ⟨a.1, a.2, none⟩)
def cl (w : World) (a : Ad) (i : Nat) : Option Value := w.cell? ⟨a.1, a.2 + i, none⟩

/-- From x through all of the list to z each one leads to the next one, and back. -/
def Ring (w : World) : Ad → List Ad → Ad → Prop
  | x, [], z => cl w x 1 = some (ptr z) ∧ cl w z 0 = some (ptr x)
  | x, y :: ys, z => cl w x 1 = some (ptr y) ∧ cl w y 0 = some (ptr x) ∧ Ring w y ys z

theorem Ring.frame {w w' : World} : ∀ {x : Ad} {ys : List Ad} {z : Ad}, Ring w x ys z → (∀ a, a ∈ x :: ys → cl w' a 1 = cl w a 1) → (∀ a, a ∈ ys ++ [z] → cl w' a 0 = cl w a 0) → Ring w' x ys z
  | x, [], z, h, h1, h0 => ⟨(h1 x (by simp)).trans h.1, (h0 z (by simp)).trans h.2⟩
  | x, y :: ys, z, h, h1, h0 => ⟨(h1 x (by simp)).trans h.1, (h0 y (by simp)).trans h.2.1, Ring.frame h.2.2 (fun a ha => h1 a (List.mem_cons_of_mem _ ha)) (fun a ha => h0 a (by simp at ha ⊢; exact Or.inr ha))⟩

def hd (ys : List Ad) (z : Ad) : Ad := match ys with | [] => z | y :: _ => y
def lst (x : Ad) (ys : List Ad) : Ad := match ys with | [] => x | y :: ys => lst y ys

theorem Ring.first {w : World} {x : Ad} {ys : List Ad} {z : Ad} (h : Ring w x ys z) : cl w x 1 = some (ptr (hd ys z)) := by cases ys <;> exact h.1
theorem Ring.last {w : World} : ∀ {x : Ad} {ys : List Ad} {z : Ad}, Ring w x ys z → cl w z 0 = some (ptr (lst x ys)) ∧ cl w (lst x ys) 1 = some (ptr z)
  | _, [], _, h => ⟨h.2, h.1⟩
  | _, y :: _, _, h => Ring.last (x := y) h.2.2

theorem Ring.split {w : World} {a z : Ad} {l2 : List Ad} : ∀ {x : Ad} {l1 : List Ad}, Ring w x (l1 ++ a :: l2) z ↔ Ring w x l1 a ∧ Ring w a l2 z
  | x, [] => by simp only [List.nil_append, Ring]; exact ⟨fun h => ⟨⟨h.1, h.2.1⟩, h.2.2⟩, fun h => ⟨h.1.1, h.1.2, h.2⟩⟩
  | x, y :: l1 => by simp only [List.cons_append, Ring, Ring.split (x := y) (l1 := l1)]; constructor <;> (intro h; simp_all)

theorem lst_mem (x : Ad) : ∀ ys : List Ad, lst x ys ∈ x :: ys
  | [] => by simp [lst]
  | y :: ys => by simp only [lst]; exact List.mem_cons_of_mem _ (lst_mem y ys)
theorem hd_mem (ys : List Ad) (z : Ad) : hd ys z ∈ ys ++ [z] := by cases ys <;> simp [hd]

theorem Ring.insert {w w' : World} {x z : Ad} {ys : List Ad} (a : Ad) (h : Ring w x ys z)
    (e1 : cl w' x 1 = some (ptr a)) (e2 : cl w' a 0 = some (ptr x)) (e3 : cl w' a 1 = some (ptr (hd ys z))) (e4 : cl w' (hd ys z) 0 = some (ptr a))
    (h1 : ∀ b, b ∈ ys → cl w' b 1 = cl w b 1) (h0 : ∀ b, b ∈ (ys ++ [z]).tail → cl w' b 0 = cl w b 0) : Ring w' x (a :: ys) z := by
  refine ⟨e1, e2, ?_⟩
  cases ys with
  | nil => exact ⟨e3, e4⟩
  | cons y ys => exact ⟨e3, e4, h.2.2.frame h1 (by simpa using h0)⟩

theorem Ring.join {w w' : World} : ∀ {x a a' z : Ad} {l1 l2 : List Ad}, Ring w x l1 a → Ring w a' l2 z →
    cl w' (lst x l1) 1 = some (ptr (hd l2 z)) → cl w' (hd l2 z) 0 = some (ptr (lst x l1)) →
    (∀ b, b ∈ (x :: l1).dropLast ∨ b ∈ l2 → cl w' b 1 = cl w b 1) → (∀ b, b ∈ l1 ∨ b ∈ (l2 ++ [z]).tail → cl w' b 0 = cl w b 0) → Ring w' x (l1 ++ l2) z
  | x, a, a', z, [], l2, _, h2, e1, e2, h1, h0 => by
    cases l2 with
    | nil => exact ⟨e1, e2⟩
    | cons y ys => exact ⟨e1, e2, h2.2.2.frame (fun b hb => h1 b (Or.inr hb)) (fun b hb => h0 b (Or.inr (by simpa using hb)))⟩
  | x, a, a', z, y :: l1, l2, hr, h2, e1, e2, h1, h0 => by
    refine ⟨(h1 x (Or.inl (by simp))).trans hr.1, (h0 y (Or.inl (by simp))).trans hr.2.1, ?_⟩
    exact Ring.join hr.2.2 h2 e1 e2 (fun b hb => h1 b (hb.imp (fun hb => by simp; exact Or.inr hb) id)) (fun b hb => h0 b (hb.imp (fun hb => List.mem_cons_of_mem _ hb) id))

/-- A row of nodes: each node's block, and its link. -/
abbrev Row := List (Nat × Lk)
def nodes (r : Row) : List Ad := r.map fun x => (x.1, 0)
def pairs (σ : List Row) : List (Value × Value) := σ.flatten.map fun x => (lv x.2, ptr (x.1, 0))

/-- The chains at block bc: their fronts lie in bf, the map in bm; the rows are σ. -/
structure ChRep (w : World) (bc bf bm : Nat) (σ : List Row) : Prop where
  c0 : w.cell? ⟨bc, 0, none⟩ = some (.slice (some ⟨bf, 0, none⟩) σ.length σ.length)
  c1 : w.cell? ⟨bc, 1, none⟩ = some (.map (some bm))
  pos : 0 < σ.length
  le : σ.length ≤ 64
  fz : ∀ b o, b = bf ∨ b ∈ σ.flatten.map Prod.fst → w.frozen? ⟨b, o, none⟩ = false
  front : ∀ i, i < σ.length → cl w (bf, i * 6) 2 = some (.int .i64 0) ∧ cl w (bf, i * 6) 3 = some (.int .u32 0) ∧ cl w (bf, i * 6) 4 = some (.bool false) ∧ cl w (bf, i * 6) 5 = some (.int .i64 0)
  node : ∀ (i : Nat) (r : Row), σ[i]? = some r → ∀ x, x ∈ r → cl w (x.1, 0) 2 = some (.int .i64 x.2.1) ∧ cl w (x.1, 0) 3 = some (.int .u32 x.2.2.1) ∧ cl w (x.1, 0) 4 = some (.bool x.2.2.2) ∧ cl w (x.1, 0) 5 = some (.int .i64 i)
  ring : ∀ (i : Nat) (r : Row), σ[i]? = some r → Ring w (bf, i * 6) (nodes r) (bf, i * 6)
  map : ∃ m, MapIs w bm m ∧ m.Perm (pairs σ)
  nd : (σ.flatten.map Prod.snd).Nodup
  ok : ∀ x, x ∈ σ.flatten → Lok x.2
  apart : (bc :: bf :: bm :: σ.flatten.map Prod.fst).Nodup

end Go.Proofs.YtcimbbllefkdlaaGreatDoor
