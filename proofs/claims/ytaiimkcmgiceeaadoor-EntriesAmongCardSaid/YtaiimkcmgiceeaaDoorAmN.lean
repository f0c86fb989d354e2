/- Chapter 18, EntriesAmong: what the law's two last loops ask (no walk here). -/
import Derived.Test.YtaiimkcmgiceeaaDoorAmJ
namespace Go.Proofs.YtaiimkcmgiceeaaDoor
set_option linter.unusedVariables false
set_option linter.unusedSimpArgs false
open Go.RowKit Go.Lib Go.Sort
/-- An address in another block. -/
def Off (a : Option Addr) (g : Nat) : Prop := ∀ b o, a = some ⟨b, o, none⟩ → b ≠ g
/-- A slice of entries, its cells alone. -/
def At (w : World) (a : Option Addr) (n : Nat) (G : Nat → EntD) : Prop := ∀ k, k < n → ∃ b o, a = some ⟨b, o, none⟩ ∧ b < w.heap.size ∧ ∀ j v, (G k).cs[j]? = some v → w.cell? ⟨b, o + k * 13 + j, none⟩ = some v
theorem At.fp {S : Nat → Prop} {w w' : World} {a : Option Addr} {n : Nat} {G : Nat → EntD} (h : At w a n G) (hp : Fp S w w') (hs : ∀ g, S g → Off a g) : At w' a n G := fun k hk => by
  obtain ⟨b, o, e, hl, hc⟩ := h k hk
  exact ⟨b, o, e, Nat.lt_of_lt_of_le hl hp.size, fun j v hj => (hp.cell (p := ⟨b, o + k * 13 + j, none⟩) hl (fun hb => hs b hb b o e rfl)).trans (hc j v hj)⟩
structure AmD (w0 : World) (n : Nat) (E Fm Fs : Nat → EntD) (H : Nat → Nat) (P : Nat → Nat) (slm sls slt : Option Addr) : Prop where
  lt : ∀ k, k < n → P k < n
  old : ∀ k, k < n → 0 < (E (P k)).n → w0.heap.size ≤ H (P k)
  m : ∀ k, k < n → 0 < (E (P k)).n → Off slm (H (P k))
  t : ∀ k, k < n → 0 < (E (P k)).n → Off slt (H (P k))
  s : ∀ k, k < n → 0 < (E (P k)).n → Off sls (H (P k))
  mh : ∀ k k', k < n → k' < n → 0 < (E (P k)).n → 0 < (E k').n → Off (Fm k').ad (H (P k))
  sh : ∀ k k', k < n → k' < n → k ≠ k' → 0 < (E (P k)).n → 0 < (E (P k')).n → H (P k) ≠ H (P k')
  ad : ∀ k, k < n → 0 < (E (P k)).n → (Fs (P k)).ad = some ⟨H (P k), 0, none⟩
structure AmI (w0 : World) (n : Nat) (E Fm Fs : Nat → EntD) (O : Nat → HoldO) (H : Nat → Nat) (P : Nat → Nat) (slm sls slt : Option Addr) (i : Nat) (w : World) : Prop where
  now : NoW w0 w
  m : At w slm n Fm
  t : At w slt n (fun k => Fm (P k))
  s : At w sls n (fun k => Fs (P k))
  mh : ∀ k, k < n → HoldsIn w (Fm k).ad (E k).n (hv (O k) (E k).n)
  sh : ∀ k, i ≤ k → k < n → 0 < (E (P k)).n → Holds w (H (P k)) 0 (E (P k)).n (hv (O (P k)) (E (P k)).n) ∧ Frz w (H (P k))
theorem AmI.low {w0 w w' : World} {n i : Nat} {E Fm Fs : Nat → EntD} {O : Nat → HoldO} {H P : Nat → Nat} {slm sls slt : Option Addr} (h : AmI w0 n E Fm Fs O H P slm sls slt i w) (hp : NoW w w') : AmI w0 n E Fm Fs O H P slm sls slt i w' :=
  ⟨h.now.trans hp (fun _ _ h => h), h.m.fp hp (fun _ h => h.elim), h.t.fp hp (fun _ h => h.elim), h.s.fp hp (fun _ h => h.elim), fun k hk => (h.mh k hk).low hp, fun k h1 h2 h3 => by
    obtain ⟨a, b⟩ := h.sh k h1 h2 h3
    exact ⟨a.low hp, b.low a.lt hp id⟩⟩
theorem AmI.step {w0 w w' : World} {n i : Nat} {E Fm Fs : Nat → EntD} {O : Nat → HoldO} {H P : Nat → Nat} {slm sls slt : Option Addr} (h : AmI w0 n E Fm Fs O H P slm sls slt i w) (hd : AmD w0 n E Fm Fs H P slm sls slt) (hi : i < n) (hp : Fp (fun b => 0 < (E (P i)).n ∧ b = H (P i)) w w') : AmI w0 n E Fm Fs O H P slm sls slt (i + 1) w' := by
  refine ⟨h.now.trans hp (fun b hb hs => ?_), h.m.fp hp (fun g hs => ?_), h.t.fp hp (fun g hs => ?_), h.s.fp hp (fun g hs => ?_), fun k hk hn => ?_, fun k h1 h2 h3 => ?_⟩
  · have := hd.old i hi hs.1; have := hs.2; omega
  · rw [hs.2]; exact hd.m i hi hs.1
  · rw [hs.2]; exact hd.t i hi hs.1
  · rw [hs.2]; exact hd.s i hi hs.1
  · obtain ⟨hb, ho, e, q⟩ := h.mh k hk hn
    refine ⟨hb, ho, e, q.len, fun j z hj => (hp.cell (p := ⟨hb, ho + j, none⟩) q.lt (fun hs => ?_)).trans (q.cell j z hj), q.one, Nat.lt_of_lt_of_le q.lt hp.size⟩
    exact hd.mh i k hi hk hs.1 hn hb ho e hs.2
  · obtain ⟨q, z⟩ := h.sh k (by omega) h2 h3
    have hne : ¬ (0 < (E (P i)).n ∧ H (P k) = H (P i)) := fun hs => hd.sh i k hi h2 (by omega) hs.1 h3 hs.2.symm
    exact ⟨⟨q.len, fun j x hj => (hp.cell (p := ⟨H (P k), 0 + j, none⟩) q.lt hne).trans (q.cell j x hj), q.one, Nat.lt_of_lt_of_le q.lt hp.size⟩, z.low q.lt hp hne⟩
/-- What is known of the document's copies when the program's Sort is called. -/
theorem OwnE.lts {B : Nat} {w : World} {T : TypeId} {sl : Option Addr} {n c : Nat} {E F : Nat → EntD} {H : Nat → Nat} {O : Nat → HoldO} (h : OwnE B w T (.slice sl n c) n E F H O) :
    (∀ b o, sl = some ⟨b, o, none⟩ → b < w.heap.size) ∧ ∀ k b o, k < n → 0 < (E k).n → (F k).ad = some ⟨b, o, none⟩ → b < w.heap.size :=
  ⟨fun b o e => (World.ownsRow.lt h.row b (by rw [e]; rfl)).2, fun k b o hk hn e => by
    obtain ⟨h1, h2, h3, _⟩ := h.hold k hk hn
    rw [h1] at e
    injection e with e; injection e with e
    rw [← e]; exact h3.lt⟩
theorem list_inj {n : Nat} {L : List Nat} (h : L.Perm (List.range n)) {i j : Nat} (hi : i < n) (hj : j < n) (e : L[i]! = L[j]!) : i = j := by
  have hl : L.length = n := by simpa using h.length_eq
  have hd : L.Nodup := h.nodup_iff.2 List.nodup_range
  have e1 : L[i]! = L[i] := by simp [getElem!_def, hl, hi]
  have e2 : L[j]! = L[j] := by simp [getElem!_def, hl, hj]
  rw [e1, e2] at e
  have hp := List.pairwise_iff_getElem.1 hd
  rcases Nat.lt_trichotomy i j with h | h | h
  · exact absurd e (hp i j (by omega) (by omega) h)
  · exact h
  · exact absurd e.symm (hp j i (by omega) (by omega) h)
theorem am_init {w0 wb ws wt wo : World} {n cs cm ct B : Nat} {E Fm Fs : Nat → EntD} {O : Nat → HoldO} {Hm Hs : Nat → Nat} {π : Array Nat} {L : List Nat} {slm sls slt : Option Addr} {T : TypeId}
    (hn0 : NoW w0 wb) (hlt : (∀ b o, slm = some ⟨b, o, none⟩ → b < wb.heap.size) ∧ ∀ k b o, k < n → 0 < (E k).n → (Fm k).ad = some ⟨b, o, none⟩ → b < wb.heap.size)
    (hS : SortedE wb wb.heap.size ws (.slice sls n cs) n E Fs Hs O π) (hinj : ∀ i j, i < j → j < n → 0 < (E i).n → 0 < (E j).n → Hs i ≠ Hs j) (hls : Like n E Fs) (hlm : Like n E Fm)
    (hI : Ins Fm L n) (hR : wt.ownsRow ws.heap.size T 13 (.slice slt n ct) L.length (flatL Fm L)) (p1 : NoW ws wo) (p2 : NoW wt wo) (hO : OwnE B wo T (.slice slm n cm) n E Fm Hm O) (hE : Ents wo slm n Fm) (hnow : NoW w0 wo) :
    AmI w0 n E Fm Fs O Hs (fun k => π[k]!) slm sls slt 0 wo ∧ AmD w0 n E Fm Fs Hs (fun k => π[k]!) slm sls slt := by
  have hk : ∀ i, i < n → (Fs i).key = (Fm i).key := fun i hi => (hls.key i hi).trans (hlm.key i hi).symm
  have hat : ∀ i : Nat, π[i]! = L[i]! := same_at hk hS.perm hS.sorted hI
  have hl := hI.len
  have lt : ∀ k, k < n → π[k]! < n := fun k hk => by rw [hat]; exact hI.lt k (by omega)
  have hold : ∀ k, k < n → 0 < (E π[k]!).n → _ := fun k hk h0 => hS.hold π[k]! (lt k hk) h0
  have pinj : ∀ k k', k < n → k' < n → k ≠ k' → π[k]! ≠ π[k']! := fun k k' h1 h2 h3 e => h3 (list_inj hI.perm h1 h2 (by rw [← hat, ← hat]; exact e))
  have tat : At wo slt n (fun k => Fm π[k]!) := fun k hk => by
    rcases hR.2 with ⟨e, h0⟩ | ⟨g, cap, cur, e, hg, hh, _⟩
    · omega
    · injection e with e1 _ _
      have hlg : g < wt.heap.size := (Array.getElem?_eq_some_iff.1 hh).1
      refine ⟨g, 0, e1, Nat.lt_of_lt_of_le hlg p2.size, fun j v hj => ?_⟩
      have e2 := flatL_get Fm L k j v (by omega) (by rw [← hat]; exact hj)
      have e3 := World.ownsRow.cells hR (by rw [e1]; rfl) _ v e2
      rw [add_eq] at e3
      rw [show 0 + k * 13 + j = 0 + (k * 13 + j) by omega]
      exact (p2.cell (p := ⟨g, 0 + (k * 13 + j), none⟩) hlg id).trans e3
  have sat : At wo sls n (fun k => Fs π[k]!) := fun k hk => by
    obtain ⟨sl, c, e, _, hc⟩ := hS.ents
    injection e with e1 _ _
    obtain ⟨b, e2, hb, hc⟩ := hc k hk
    have hlb : b < ws.heap.size := by
      have := hc 0 _ rfl
      have h1 : b < ws.heap.size := cell_lt this
      exact h1
    exact ⟨b, 0, by rw [e1, e2], Nat.lt_of_lt_of_le hlb p1.size, fun j v hj => (p1.cell (p := ⟨b, 0 + k * 13 + j, none⟩) hlb id).trans (hc j v hj)⟩
  refine ⟨⟨hnow, fun k hk => ?_, tat, sat, fun k hk hn => ?_, fun k _ hk h0 => ?_⟩, ⟨lt, fun k hk h0 => ?_, fun k hk h0 b o e => ?_, fun k hk h0 b o e => ?_, fun k hk h0 b o e => ?_, fun k k' hk hk' h0 h0' b o e => ?_, fun k k' hk hk' hne h0 h0' e => ?_, fun k hk h0 => (hold k hk h0).1⟩⟩
  · obtain ⟨b, o, e, hc⟩ := hE.at' k hk
    exact ⟨b, o, e, by have h1 := cell_lt (hc 0 _ rfl); exact h1, hc⟩
  · obtain ⟨h1, h2, h3, _⟩ := hO.hold k hk hn
    exact ⟨Hm k, 0, h1, h3⟩
  · obtain ⟨h1, h2, h3, h4, h5⟩ := hold k hk h0
    exact ⟨h3.low p1, h5.low h3.lt p1 id⟩
  · have h2 := (hold k hk h0).2.1; have := hn0.size; omega
  · have h2 := (hold k hk h0).2.1; have := hlt.1 b o e; omega
  · have h3 := (hold k hk h0).2.2.1.lt
    have := (World.ownsRow.lt hR b (by rw [e]; rfl)).1; omega
  · have h4 := (hold k hk h0).2.2.2.1
    intro eb; apply h4; rw [e, eb]; rfl
  · have h2 := (hold k hk h0).2.1; have := hlt.2 k' b o hk' h0' e; omega
  · have h1 := pinj k k' hk hk' hne
    rcases Nat.lt_or_ge π[k]! π[k']! with h2 | h2
    · exact hinj _ _ h2 (lt k' hk') h0 h0' e
    · exact hinj _ _ (by omega) (lt k hk) h0' h0 e.symm
end Go.Proofs.YtaiimkcmgiceeaaDoor
