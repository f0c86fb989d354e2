/- ChainsPlay: the acts that came in; the two loops' states. -/
import Derived.Test.YtmhjdjndckeepaaPlG
import Derived.Test.YtmhjdjndckeepaaChNoneW
namespace Go.Proofs.Ytmhjdjndckeepaa
set_option linter.unusedVariables false
set_option linter.unusedSimpArgs false
open Go.RowKit

def AAct.cells (x : AAct) : List Value := [.int .u8 x.kd, .int .u8 x.ch, .int .u8 x.sl, .bool x.bk, .int .i64 x.at_, .int .i64 x.raw.1, .int .u32 x.raw.2.1, .bool x.raw.2.2]
/-- An act in memory. -/
structure ActAt (w : World) (b o : Nat) (x : AAct) : Prop where
  c0 : w.cell? ⟨b, o, none⟩ = some (.int .u8 x.kd)
  c1 : w.cell? ⟨b, o + 1, none⟩ = some (.int .u8 x.ch)
  c2 : w.cell? ⟨b, o + 2, none⟩ = some (.int .u8 x.sl)
  c3 : w.cell? ⟨b, o + 3, none⟩ = some (.bool x.bk)
  c4 : w.cell? ⟨b, o + 4, none⟩ = some (.int .i64 x.at_)
  c5 : w.cell? ⟨b, o + 5, none⟩ = some (.int .i64 x.raw.1)
  c6 : w.cell? ⟨b, o + 6, none⟩ = some (.int .u32 x.raw.2.1)
  c7 : w.cell? ⟨b, o + 7, none⟩ = some (.bool x.raw.2.2)

theorem ActAt.keep {S : Nat → Prop} {w w' : World} {b o : Nat} {x : AAct} (h : ActAt w b o x) (hf : Fp S w w') (hs : ¬ S b) : ActAt w' b o x := by
  have lb : b < w.heap.size := cell_lt h.c0
  have k : ∀ q, w'.cell? ⟨b, q, none⟩ = w.cell? ⟨b, q, none⟩ := fun q => hf.cell (p := ⟨b, q, none⟩) lb hs
  exact ⟨(k _).trans h.c0, (k _).trans h.c1, (k _).trans h.c2, (k _).trans h.c3, (k _).trans h.c4, (k _).trans h.c5, (k _).trans h.c6, (k _).trans h.c7⟩

theorem acts_open {w : World} {v : Value} (h : Good Try.prog w 45 v) :
    ∃ a len cap, v = .slice a len cap ∧ len ≤ maxLen ∧ ∃ z : Nat → AAct, (∀ i, i < len → (z i).Ok) ∧ (0 < len → ∃ b o, a = some ⟨b, o, none⟩ ∧ ∀ i, i < len → ActAt w b (o + i * 8) (z i)) := by
  obtain ⟨a, len, cap, rfl, h1, h2, m, rows, h3, h4⟩ := good_rows Try.underlying45 (size := 8) (by kernel_rfl) (by omega) h
  have key : ∀ i, ∃ x : AAct, i < cap → rows i = x.cells ∧ x.Ok := fun i => by
    by_cases hi : i < cap
    · obtain ⟨k, c, s, b, at_, l, e, wk, wc, ws, wa, hl⟩ := act_sees (h3 i hi).2
      have k1 := wf_u8 wk
      have k2 := wf_u8 wc
      have k3 := wf_u8 ws
      exact ⟨⟨k, c, s, b, at_, l⟩, fun _ => ⟨e, k1.1, by dsimp only; omega, k2.1, by dsimp only; omega, k3.1, by dsimp only; omega, wa, hl⟩⟩
    · exact ⟨⟨0, 0, 0, false, 0, lk0⟩, fun h => absurd h hi⟩
  obtain ⟨z, hz⟩ : ∃ z : Nat → AAct, ∀ i, i < cap → rows i = (z i).cells ∧ (z i).Ok := ⟨fun i => Classical.choose (key i), fun i hi => Classical.choose_spec (key i) hi⟩
  refine ⟨a, len, cap, rfl, by omega, z, fun i hi => (hz i (by omega)).2, fun hpos => ?_⟩
  obtain ⟨b, o, e, hcell⟩ := h4 (by omega)
  refine ⟨b, o, e, fun i hi => ?_⟩
  have hc := hcell i (by omega)
  rw [(hz i (by omega)).1] at hc
  exact ⟨by simpa [AAct.cells] using hc 0 (by omega), by simpa [AAct.cells] using hc 1 (by omega), by simpa [AAct.cells] using hc 2 (by omega), by simpa [AAct.cells] using hc 3 (by omega), by simpa [AAct.cells] using hc 4 (by omega), by simpa [AAct.cells] using hc 5 (by omega), by simpa [AAct.cells] using hc 6 (by omega), by simpa [AAct.cells] using hc 7 (by omega)⟩

theorem RfRep.mono {w : World} {B B' rb gb : Nat} {L : List (List Lk)} (h : RfRep w B rb gb L) (hB : B' ≤ B) : RfRep w B' rb gb L := by
  obtain ⟨arr, h1, h2, h3⟩ := h.arr
  refine ⟨h.ne, h.c0, arr, h1, h2, fun q ls hq => ?_⟩
  obtain ⟨v, e, hr, hn⟩ := h3 q ls hq
  exact ⟨v, e, ownsRow_mono hr hB, hn⟩

theorem Pl.start {w w1 w2 : World} {n bc bf bm rb gb : Nat} (h1 : ChRep w1 bc bf bm (List.replicate n [])) (hbc : w.heap.size ≤ bc) (hbf : w.heap.size ≤ bf) (hbm : w.heap.size ≤ bm) (hp1 : NoW w w1) (h2 : RfNew w1 n rb gb w2) :
    Pl w bc bf bm (List.replicate n []) rb gb (lks (List.replicate n [])) w2 := by
  have e : lks (List.replicate n []) = List.replicate n [] := by simp [lks]
  refine ⟨⟨h1.fp h2.fp (fun _ _ => id), ?_, (fp_low hp1).trans (fp_low (B := w.heap.size) h2.fp) (fun _ _ h => h)⟩, by rw [e]; exact h2.rep.mono hp1.size, fun g hg => ?_⟩
  · intro b hb; simp [blocks] at hb; rcases hb with rfl | rfl | rfl <;> assumption
  · have := h2.own g hg
    exact ⟨Nat.le_trans hp1.size this, Aside0.new h1 this (h2.rep.own_lt hg)⟩

section
variable {w0 w w' : World} {bc bf bm rb gb : Nat} {σ : List Row} {L : List (List Lk)}
theorem Pl.grown (h : Pl w0 bc bf bm σ rb gb L w) {row : Option Nat} (hg : w.grownBy w' row) (hr : ∀ k, row = some k → w0.heap.size ≤ k ∧ k ∉ blocks bc bf bm σ ∧ ¬ rfOwn w rb gb k) : Pl w0 bc bf bm σ rb gb L w' := by
  have hf : Fp (fun k => row = some k) w w' := ⟨hg.os, hg.tape, hg.output, hg.size, fun k hk hn => hg.block k hk (fun e => hn e.symm)⟩
  refine ⟨h.st.own hg (fun k e => ⟨(hr k e).1, (hr k e).2.1⟩), h.rf.fp hf (fun g hg e => (hr g e).2.2 hg), fun g hg' => ?_⟩
  have := h.own g (rfOwn.back h.rf (hf.block _ h.rf.ltg (fun e => (hr _ e).2.2 (.inr (.inl rfl)))) hg')
  exact ⟨this.1, Nat.lt_of_lt_of_le this.2.1 hg.size, this.2.2⟩

theorem Pl.back (h : Pl w0 bc bf bm σ rb gb L w) {row : Option Nat} (hg : w.grownBy w' row) (hr : ∀ k, row = some k → ¬ rfOwn w rb gb k) {g : Nat} (hg' : rfOwn w' rb gb g) : rfOwn w rb gb g :=
  rfOwn.back h.rf (hg.block _ h.rf.ltg (fun e => hr _ e.symm (.inr (.inl rfl)))) hg'

/-- A block of the law's own, beside both sides. -/
def Apart (w0 : World) (bc bf bm : Nat) (σ : List Row) (rb gb : Nat) (w : World) (g : Nat) : Prop := w0.heap.size ≤ g ∧ g < w.heap.size ∧ g ∉ blocks bc bf bm σ ∧ ¬ rfOwn w rb gb g
theorem Apart.low (h : Pl w0 bc bf bm σ rb gb L w) (hf : NoW w w') {g : Nat} (ha : Apart w0 bc bf bm σ rb gb w g) : Apart w0 bc bf bm σ rb gb w' g :=
  ⟨ha.1, Nat.lt_of_lt_of_le ha.2.1 hf.size, ha.2.2.1, fun e => ha.2.2.2 (rfOwn.back h.rf (hf.block _ h.rf.ltg id) e)⟩
theorem Apart.grown (h : Pl w0 bc bf bm σ rb gb L w) {row : Option Nat} (hg : w.grownBy w' row) (hr : ∀ k, row = some k → Apart w0 bc bf bm σ rb gb w k) {g : Nat} (ha : Apart w0 bc bf bm σ rb gb w g) : Apart w0 bc bf bm σ rb gb w' g :=
  ⟨ha.1, Nat.lt_of_lt_of_le ha.2.1 hg.size, ha.2.2.1, fun e => ha.2.2.2 (h.back hg (fun k e => (hr k e).2.2.2) e)⟩
theorem Apart.new (h : Pl w0 bc bf bm σ rb gb L w) {row : Option Nat} (hg : w.grownBy w' row) (hr : ∀ k, row = some k → Apart w0 bc bf bm σ rb gb w k) {g : Nat} (h1 : w.heap.size ≤ g) (h2 : g < w'.heap.size) : Apart w0 bc bf bm σ rb gb w' g :=
  ⟨Nat.le_trans h.st.fp.size h1, h2, fun hm => by have := h.st.rep.lt hm; omega, fun e => by have := h.rf.own_lt (h.back hg (fun k e => (hr k e).2.2.2) e); omega⟩

/-- The second loop's state. -/
structure P2 (w0 : World) (bc bf bm : Nat) (σ : List Row) (rb gb k : Nat) (al li : Value) (w : World) : Prop where
  pl : Pl w0 bc bf bm σ rb gb (lks σ) w
  oal : w.ownsRow w0.heap.size 3 1 al (downs σ.length k).length ((downs σ.length k).map (Value.int .i64))
  oli : ERow 53 w w0.heap.size li ((downs σ.length k).flatMap (chainOf σ))
  aAl : ∀ g, al.ownBlock = some g → Apart w0 bc bf bm σ rb gb w g
  aLi : ∀ g, li.ownBlock = some g → Apart w0 bc bf bm σ rb gb w g
  ne : ∀ g, al.ownBlock = some g → li.ownBlock ≠ some g

theorem P2.low {k : Nat} {al li : Value} (h : P2 w0 bc bf bm σ rb gb k al li w) (hf : NoW w w') : P2 w0 bc bf bm σ rb gb k al li w' :=
  ⟨h.pl.low hf, ownsRow_of_block h.oal (fun g hg => hf.block g (h.aAl g hg).2.1 id), h.oli.keep hf (fun _ _ => id), fun g hg => (h.aAl g hg).low h.pl hf, fun g hg => (h.aLi g hg).low h.pl hf, h.ne⟩

/-- The number is put behind the others. -/
theorem P2.num {k : Nat} {al li al' : Value} (h : P2 w0 bc bf bm σ rb gb k al li w) (hg : w.grownBy w' al.ownBlock) (hw : al'.ownBlock = al.ownBlock ∨ al'.ownBlock = some w.heap.size)
    (ho : w'.ownsRow w0.heap.size 3 1 al' ((downs σ.length k).length + 1) ((downs σ.length k).map (Value.int .i64) ++ [.int .i64 ((σ.length : Int) - k)])) :
    Pl w0 bc bf bm σ rb gb (lks σ) w' ∧ w'.ownsRow w0.heap.size 3 1 al' (downs σ.length (k + 1)).length ((downs σ.length (k + 1)).map (Value.int .i64)) ∧
      ERow 53 w' w0.heap.size li ((downs σ.length k).flatMap (chainOf σ)) ∧ (∀ g, al'.ownBlock = some g → Apart w0 bc bf bm σ rb gb w' g) ∧ (∀ g, li.ownBlock = some g → Apart w0 bc bf bm σ rb gb w' g) ∧ (∀ g, al'.ownBlock = some g → li.ownBlock ≠ some g) := by
  refine ⟨h.pl.grown hg (fun k e => ⟨(h.aAl k e).1, (h.aAl k e).2.2.1, (h.aAl k e).2.2.2⟩), ?_, ?_, fun g e => ?_, fun g e => (h.aLi g e).grown h.pl hg h.aAl, fun g e1 e2 => ?_⟩
  · rw [downs_succ, List.map_append, List.length_append]; exact ho
  · exact ownsRow_of_block h.oli fun g e => hg.block g (h.aLi g e).2.1 (fun e2 => h.ne g e2.symm e)
  · have hlt := (World.ownsRow.lt ho g e).2
    rcases hw with e1 | e1
    · rw [e1] at e; exact (h.aAl g e).grown h.pl hg h.aAl
    · rw [e1] at e; cases e; exact Apart.new h.pl hg h.aAl (Nat.le_refl _) hlt
  · rcases hw with e3 | e3
    · rw [e3] at e1; exact h.ne g e1 e2
    · rw [e3] at e1; cases e1; exact absurd (h.aLi _ e2).2.1 (Nat.lt_irrefl _)

/-- .. and then the links. -/
theorem P2.links {k : Nat} {al li li' : Value} {ys : List Lk} (h : Pl w0 bc bf bm σ rb gb (lks σ) w) (hal : w.ownsRow w0.heap.size 3 1 al (downs σ.length (k + 1)).length ((downs σ.length (k + 1)).map (Value.int .i64)))
    (hli : ERow 53 w w0.heap.size li ((downs σ.length k).flatMap (chainOf σ))) (aAl : ∀ g, al.ownBlock = some g → Apart w0 bc bf bm σ rb gb w g) (aLi : ∀ g, li.ownBlock = some g → Apart w0 bc bf bm σ rb gb w g) (ne : ∀ g, al.ownBlock = some g → li.ownBlock ≠ some g)
    (hy : ys = chainOf σ ((σ.length : Int) - k)) (hg : w.grownBy w' li.ownBlock) (hw : li'.ownBlock = li.ownBlock ∨ li'.ownBlock = some w.heap.size)
    (ho : w'.ownsRow w0.heap.size 53 3 li' (((downs σ.length k).flatMap (chainOf σ)).length + ys.length) (((downs σ.length k).flatMap (chainOf σ)).flatMap lc3 ++ ys.flatMap lc3)) :
    P2 w0 bc bf bm σ rb gb (k + 1) al li' w' := by
  subst hy
  refine ⟨h.grown hg (fun k e => ⟨(aLi k e).1, (aLi k e).2.2.1, (aLi k e).2.2.2⟩), ?_, ?_, fun g e => (aAl g e).grown h hg aLi, fun g e => ?_, fun g e1 e2 => ?_⟩
  · exact ownsRow_of_block hal fun g e => hg.block g (aAl g e).2.1 (fun e2 => ne g e e2.symm)
  · unfold ERow
    rw [downs_succ, List.flatMap_append, List.length_append, List.flatMap_append]
    simpa using ho
  · have hlt := (World.ownsRow.lt ho g e).2
    rcases hw with e1 | e1
    · rw [e1] at e; exact (aLi g e).grown h hg aLi
    · rw [e1] at e; cases e; exact Apart.new h hg aLi (Nat.le_refl _) hlt
  · rcases hw with e3 | e3
    · rw [e3] at e2; exact ne g e1 e2
    · rw [e3] at e2; cases e2; exact absurd (aAl _ e1).2.1 (Nat.lt_irrefl _)

/-- What First answers. -/
def fo (ls : List Lk) : Lk × Bool := match ls with | [] => (lk0, false) | l :: _ => (l, true)
theorem first_any (h : ChRep w bc bf bm σ) (x : Int) :
    Calls Try.prog 11 #[.pointer (some ⟨bc, 0, none⟩), .int .i64 x] w (Ret1 (.tuple #[lv (fo (chainOf σ x)).1, .bool (fo (chainOf σ x)).2]) w) := by
  by_cases hx : 0 ≤ x ∧ x < σ.length
  · obtain ⟨i, rfl⟩ : ∃ i : Nat, x = i := ⟨x.toNat, by omega⟩
    have hil : i < σ.length := by omega
    have hi : σ[i]? = some σ[i] := List.getElem?_eq_getElem hil
    have := first_ok h hi
    rw [chainOf_nat hi]
    generalize σ[i] = r at *
    cases r <;> exact this
  · rw [chainOf_out σ x hx]
    exact first_out h x hx
end
end Go.Proofs.Ytmhjdjndckeepaa
