/- Texts of this proof, merged: Avn. -/
import Derived.Test.YtcimbbllefkdlaaGreatDoorMaw
import Derived.Test.YtcimbbllefkdlaaGreatDoorMaa
import Derived.Test.YtcimbbllefkdlaaGreatDoorMab
import Derived.Test.YtcimbbllefkdlaaGreatDoorMac
import Derived.Test.YtcimbbllefkdlaaGreatDoorMad
import Derived.Test.YtcimbbllefkdlaaGreatDoorMae
import Derived.Test.YtcimbbllefkdlaaGreatDoorMaf
import Derived.Test.YtcimbbllefkdlaaGreatDoorMag
import Derived.Test.YtcimbbllefkdlaaGreatDoorMah
import Derived.Test.YtcimbbllefkdlaaGreatDoorMai
import Derived.Test.YtcimbbllefkdlaaGreatDoorMaj
import Derived.Test.YtcimbbllefkdlaaGreatDoorMak
import Derived.Test.YtcimbbllefkdlaaGreatDoorMal
import Derived.Test.YtcimbbllefkdlaaGreatDoorMam
import Derived.Test.YtcimbbllefkdlaaGreatDoorMan
import Derived.Test.YtcimbbllefkdlaaGreatDoorMao
import Derived.Test.YtcimbbllefkdlaaGreatDoorMap
import Derived.Test.YtcimbbllefkdlaaGreatDoorMaq
import Derived.Test.YtcimbbllefkdlaaGreatDoorMar
import Derived.Test.YtcimbbllefkdlaaGreatDoorMas
import Derived.Test.YtcimbbllefkdlaaGreatDoorMat
import Derived.Test.YtcimbbllefkdlaaGreatDoorMau
import Derived.Test.YtcimbbllefkdlaaGreatDoorMav
import Derived.Test.YtcimbbllefkdlaaGreatDoorMax
import Derived.Test.YtcimbbllefkdlaaGreatDoorMay
import Derived.Test.YtcimbbllefkdlaaGreatDoorMaz
import Derived.Test.YtcimbbllefkdlaaGreatDoorMba
namespace Go.Proofs.YtcimbbllefkdlaaGreatDoor
set_option linter.unusedVariables false
set_option linter.unusedSimpArgs false
open Go.RowKit Go.Lib Go.Sort
/-- A slice in memory that does not lie in block x. -/
def AtN (x : Nat) (w : World) (a : Option Addr) (n k : Nat) (cs : Nat → List Value) : Prop := ∀ i, i < n → ∃ b o, a = some ⟨b, o, none⟩ ∧ b < w.heap.size ∧ b ≠ x ∧ ∀ j v, (cs i)[j]? = some v → w.cell? ⟨b, o + i * k + j, none⟩ = some v
/-- .. nor in the blocks g, g + 1. -/
def AtX (g x : Nat) (w : World) (a : Option Addr) (n k : Nat) (cs : Nat → List Value) : Prop := ∀ i, i < n → ∃ b o, a = some ⟨b, o, none⟩ ∧ b < w.heap.size ∧ ((b < g ∨ g + 1 < b) ∧ b ≠ x) ∧ ∀ j v, (cs i)[j]? = some v → w.cell? ⟨b, o + i * k + j, none⟩ = some v
theorem AtN.at' {x : Nat} {w : World} {a : Option Addr} {n k : Nat} {cs : Nat → List Value} (h : AtN x w a n k cs) : AtC w a n k cs := fun i hi => by
  obtain ⟨b, o, e, h1, _, h2⟩ := h i hi; exact ⟨b, o, e, h1, h2⟩
theorem AtN.of {x : Nat} {w : World} {a : Option Addr} {n k : Nat} {cs : Nat → List Value} (h : AtC w a n k cs) (hx : w.heap.size ≤ x) : AtN x w a n k cs := fun i hi => by
  obtain ⟨b, o, e, h1, h2⟩ := h i hi; exact ⟨b, o, e, h1, by omega, h2⟩
theorem AtN.fp {S : Nat → Prop} {x : Nat} {w w' : World} {a : Option Addr} {n k : Nat} {cs : Nat → List Value} (h : AtN x w a n k cs) (hp : Fp S w w') (hS : ∀ b, S b → b = x) : AtN x w' a n k cs := fun i hi => by
  obtain ⟨b, o, e, h1, h3, h2⟩ := h i hi
  exact ⟨b, o, e, Nat.lt_of_lt_of_le h1 hp.size, h3, fun j v hj => (hp.cell (p := ⟨b, o + i * k + j, none⟩) h1 (fun hs => h3 (hS b hs))).trans (h2 j v hj)⟩
theorem AtX.of {g x : Nat} {w w' : World} {a : Option Addr} {n k : Nat} {cs : Nat → List Value} (h : AtN x w a n k cs) (hg : w.heap.size ≤ g) (hp : NoW w w') : AtX g x w' a n k cs := fun i hi => by
  obtain ⟨b, o, e, h1, h3, h2⟩ := h i hi
  exact ⟨b, o, e, Nat.lt_of_lt_of_le h1 hp.size, ⟨Or.inl (Nat.lt_of_lt_of_le h1 hg), h3⟩, fun j v hj => (hp.cell (p := ⟨b, o + i * k + j, none⟩) h1 id).trans (h2 j v hj)⟩
theorem AtX.fp {S : Nat → Prop} {g x : Nat} {w w' : World} {a : Option Addr} {n k : Nat} {cs : Nat → List Value} (h : AtX g x w a n k cs) (hp : Fp S w w') (hS : ∀ b, b < w.heap.size → S b → b = g) : AtX g x w' a n k cs := fun i hi => by
  obtain ⟨b, o, e, h1, h3, h2⟩ := h i hi
  exact ⟨b, o, e, Nat.lt_of_lt_of_le h1 hp.size, h3, fun j v hj => (hp.cell (p := ⟨b, o + i * k + j, none⟩) h1 (fun hs => by have := hS b h1 hs; have := h3.1; omega)).trans (h2 j v hj)⟩
theorem AtX.fp2 {S : Nat → Prop} {g x : Nat} {w w' : World} {a : Option Addr} {n k : Nat} {cs : Nat → List Value} (h : AtX g x w a n k cs) (hp : Fp S w w') (hS : ∀ b, S b → b = g ∨ b = g + 1) : AtN x w' a n k cs := fun i hi => by
  obtain ⟨b, o, e, h1, h3, h2⟩ := h i hi
  exact ⟨b, o, e, Nat.lt_of_lt_of_le h1 hp.size, h3.2, fun j v hj => (hp.cell (p := ⟨b, o + i * k + j, none⟩) h1 (fun hs => by have := hS b hs; have := h3.1; omega)).trans (h2 j v hj)⟩
theorem own_atX {w : World} {B size n c g x : Nat} {e : TypeId} {a : Option Addr} {el : Nat → List Value} (h : w.ownsRow B e size (.slice a n c) n ((List.range n).flatMap el)) (hl : ∀ i, (el i).length = size) (hg : g + 1 < B) (hx : x < B) : AtX g x w a n size el := fun i hi => by
  obtain ⟨b, o, e1, h1, h2⟩ := own_at2 h hl i hi
  have h3 := (World.ownsRow.lt h b (by rw [e1]; rfl)).1
  exact ⟨b, o, e1, h1, ⟨by omega, by omega⟩, h2⟩
section
variable (x0 : Nat) (v : VD) (sa : Option Addr) (sc gV gR : Nat) (w0 : World)
/-- The view in the middle of being put right: a view u of v's slots. -/
structure MSt (wx : World) (u : VD) (ca pa qa : Option Addr) (cc pc qc : Nat) (cad : Nat → Option Addr) (cc' : Nat → Nat) : Prop where
  ns : u.ns = v.ns
  S : u.S = v.S
  O : u.O = v.O
  nc : u.nc = v.nc
  cn : ∀ c, u.cn c ≤ 100
  np : u.np ≤ 100
  nq : u.nq ≤ 100
  bV : wx.heap[gV]? = some (.cells #[.int .i64 u.now, .slice sa v.ns sc, .slice ca v.nc cc, .slice pa u.np pc, .slice qa u.nq qc, .int .i64 u.free, .int .i64 u.live, .int .i64 u.gone] 27 (0, 0))
  bR : wx.heap[gR]? = some (.cells #[.int .i64 0, .slice none 0 0, .slice none 0 0, .slice none 0 0, .slice none 0 0, .int .i64 0, .int .i64 0, .int .i64 0] 27 (0, 0))
  c : AtX gV x0 wx ca u.nc 1 (fun c => [.slice (cad c) (u.cn c) (cc' c)])
  k : ∀ c, c < u.nc → AtX gV x0 wx (cad c) (u.cn c) 3 (fun k => (u.C c k).cs)
  p : AtX gV x0 wx pa u.np 7 (fun i => (u.P i).cs)
  q : AtX gV x0 wx qa u.nq 2 (fun i => (u.Q i).cs)
  low : NoW w0 wx
def MState (wx : World) : Prop := ∃ (u : VD) (ca pa qa : Option Addr) (cc pc qc : Nat) (cad : Nat → Option Addr) (cc' : Nat → Nat), MSt x0 v sa sc gV gR w0 wx u ca pa qa cc pc qc cad cc'
end
theorem MState.of {x0 : Nat} {v : VD} {sa : Option Addr} {sc gV gR : Nat} {w0 : World} {wA wx : World} {u : VD} {ca pa qa : Option Addr} {cc pc qc : Nat} {cad : Nat → Option Addr} {cc' : Nat → Nat} (h : MSt x0 v sa sc gV gR w0 wA u ca pa qa cc pc qc cad cc') (hf : Fp (fun b => b = gV) wA wx) (hg : w0.heap.size ≤ gV)
    (hbR : wx.heap[gR]? = some (.cells #[.int .i64 0, .slice none 0 0, .slice none 0 0, .slice none 0 0, .slice none 0 0, .int .i64 0, .int .i64 0, .int .i64 0] 27 (0, 0)))
    {np' nq' : Nat} {cn' : Nat → Nat} {C' : Nat → Nat → LinkD} {P' : Nat → RowD} {Q' : Nat → HandD} {ca' pa' qa' : Option Addr} {cc2 pc' qc' : Nat} {cad' : Nat → Option Addr} {cc3 : Nat → Nat} {free live gone : Int}
    (hbV : wx.heap[gV]? = some (.cells #[.int .i64 u.now, .slice sa v.ns sc, .slice ca' v.nc cc2, .slice pa' np' pc', .slice qa' nq' qc', .int .i64 free, .int .i64 live, .int .i64 gone] 27 (0, 0)))
    (hcn : ∀ c, cn' c ≤ 100) (hnp : np' ≤ 100) (hnq : nq' ≤ 100)
    (hc : (ca' = ca ∧ cn' = u.cn ∧ C' = u.C ∧ cad' = cad ∧ cc3 = cc') ∨ (AtX gV x0 wx ca' v.nc 1 (fun c => [.slice (cad' c) (cn' c) (cc3 c)]) ∧ ∀ c, c < v.nc → AtX gV x0 wx (cad' c) (cn' c) 3 (fun k => (C' c k).cs)))
    (hp : (pa' = pa ∧ np' = u.np ∧ P' = u.P) ∨ AtX gV x0 wx pa' np' 7 (fun i => (P' i).cs))
    (hq : (qa' = qa ∧ nq' = u.nq ∧ Q' = u.Q) ∨ AtX gV x0 wx qa' nq' 2 (fun i => (Q' i).cs)) : MState x0 v sa sc gV gR w0 wx := by
  have hS : ∀ b, b < wA.heap.size → (fun b => b = gV) b → b = gV := fun _ _ e => e
  refine ⟨⟨u.now, v.ns, v.S, v.O, v.nc, cn', C', np', P', nq', Q', free, live, gone⟩, ca', pa', qa', cc2, pc', qc', cad', cc3, ⟨rfl, rfl, rfl, rfl, hcn, hnp, hnq, hbV, hbR, ?_, ?_, ?_, ?_, h.low.trans hf (fun i hi e => by have h1 : i = gV := e; omega)⟩⟩
  · rcases hc with ⟨rfl, rfl, rfl, rfl, rfl⟩ | ⟨h1, _⟩
    · have := h.c.fp hf hS; rw [h.nc] at this; exact this
    · exact h1
  · rcases hc with ⟨rfl, rfl, rfl, rfl, rfl⟩ | ⟨_, h1⟩
    · intro c hc2; exact (h.k c (by rw [h.nc]; exact hc2)).fp hf hS
    · exact h1
  · rcases hp with ⟨rfl, rfl, rfl⟩ | h1
    · exact h.p.fp hf hS
    · exact h1
  · rcases hq with ⟨rfl, rfl, rfl⟩ | h1
    · exact h.q.fp hf hS
    · exact h1
/-- Lists of links, each of its own, in an array. -/
structure Own2 (B : Nat) (w : World) (gC n : Nat) (cn : Nat → Nat) (L : Nat → Nat → LinkD) (fl : Nat → Value) : Prop where
  blk : w.heap[gC]? = some (.cells ((List.range n).map fl).toArray 55 (0, 0))
  row : ∀ k, k < n → w.ownsRow B 83 3 (fl k) (cn k) ((List.range (cn k)).flatMap fun m => (L k m).cs)
  apart : ∀ j k, j < n → k < n → j ≠ k → ∀ b, (fl j).ownBlock = some b → (fl k).ownBlock ≠ some b
  lt : gC < B
theorem map_range_set {α : Type} (f : Nat → α) (n a : Nat) (x : α) : ((List.range n).map f).toArray.setIfInBounds a x = ((List.range n).map (upd f a x)).toArray := by
  rw [List.setIfInBounds_toArray]
  congr 1
  apply List.ext_getElem?
  intro i
  rw [List.getElem?_set, List.getElem?_map, List.getElem?_map]
  by_cases hi : i < n
  · rw [List.getElem?_range hi]
    by_cases h : a = i
    · subst h; simp [upd, hi]
    · simp only [if_neg h, Option.map_some, upd, if_neg (fun e : i = a => h e.symm)]
  · have h0 : (List.range n)[i]? = none := by simp; omega
    rw [h0]
    by_cases h : a = i
    · subst h; simp [hi]
    · simp [h]
theorem Own2.fp {S : Nat → Prop} {B : Nat} {w w' : World} {gC n : Nat} {cn : Nat → Nat} {L : Nat → Nat → LinkD} {fl : Nat → Value} (h : Own2 B w gC n cn L fl) (hp : Fp S w w') (hS : ∀ b, S b → b < B ∧ b ≠ gC) : Own2 B w' gC n cn L fl :=
  ⟨(hp.block gC (Array.getElem?_eq_some_iff.1 h.blk).1 (fun e => (hS _ e).2 rfl)).trans h.blk, fun k hk => ownsRow_of_block (h.row k hk) fun x e => hp.block x (World.ownsRow.lt (h.row k hk) x e).2 (fun e2 => by have h1 := (hS _ e2).1; have h2 := (World.ownsRow.lt (h.row k hk) x e).1; omega), h.apart, h.lt⟩
theorem Own2.low {B : Nat} {w w' : World} {gC n : Nat} {cn : Nat → Nat} {L : Nat → Nat → LinkD} {fl : Nat → Value} (h : Own2 B w gC n cn L fl) (hp : NoW w w') : Own2 B w' gC n cn L fl := h.fp hp (fun _ e => e.elim)
theorem Own2.cell {B : Nat} {w : World} {gC n : Nat} {cn : Nat → Nat} {L : Nat → Nat → LinkD} {fl : Nat → Value} (h : Own2 B w gC n cn L fl) {a : Nat} (ha : a < n) : w.cell? ⟨gC, a, none⟩ = some (fl a) := by
  have := h.blk
  simp [World.cell?, this, ha]
theorem Own2.froz {B : Nat} {w : World} {gC n : Nat} {cn : Nat → Nat} {L : Nat → Nat → LinkD} {fl : Nat → Value} (h : Own2 B w gC n cn L fl) (a : Nat) : w.frozen? ⟨gC, a, none⟩ = false := by
  have := h.blk
  simp [World.frozen?, this]
/-- One link more in the list a: behind the append, and the store. -/
theorem Own2.push {B : Nat} {w w' W : World} {gC n : Nat} {cn : Nat → Nat} {L : Nat → Nat → LinkD} {fl : Nat → Value} (h : Own2 B w gC n cn L fl) {a : Nat} (ha : a < n) {v' : Value} {x : LinkD}
    (hown : w'.ownsRow B 83 3 v' (cn a + 1) (((List.range (cn a)).flatMap fun m => (L a m).cs) ++ x.cs)) (hg : w.grownBy w' (fl a).ownBlock) (hw : v'.ownBlock = (fl a).ownBlock ∨ v'.ownBlock = some w.heap.size) (hW : W = w'.setCell ⟨gC, a, none⟩ v') :
    Own2 B W gC n (upd cn a (cn a + 1)) (upd L a (upd (L a) (cn a) x)) (upd fl a v') ∧ Fp (fun b => B ≤ b ∨ b = gC) w W := by
  have hb1 : w'.heap[gC]? = some (.cells ((List.range n).map fl).toArray 55 (0, 0)) := (hg.block gC (Array.getElem?_eq_some_iff.1 h.blk).1 (fun e => by have h1 := (World.ownsRow.lt (h.row a ha) gC e.symm).1; have h2 := h.lt; omega)).trans h.blk
  have hf1 := grown_fp hg
  have hf2 := set_now hW
  have hne : ∀ b, B ≤ b → ¬ b = gC := fun b h1 e => by have := h.lt; omega
  refine ⟨⟨?_, fun k hk => ?_, fun j k hj hk hne2 b hb => ?_, h.lt⟩, ?_⟩
  · have h3 := (set_blk hW (hid hb1)).out
    rw [map_range_set] at h3
    exact h3
  · by_cases hka : k = a
    · subst hka
      simp only [upd_same]
      rw [List.range_succ, List.flatMap_append]
      have he : ((List.range (cn k)).flatMap fun m => (upd (L k) (cn k) x m).cs) = (List.range (cn k)).flatMap fun m => (L k m).cs := flatMap_range_congr (fun i hi => by rw [upd_lt _ _ hi])
      rw [he]
      simp only [List.flatMap_cons, List.flatMap_nil, List.append_nil, upd_same]
      exact ownsRow_of_block hown fun y e => hf2.block y (World.ownsRow.lt hown y e).2 (hne y (World.ownsRow.lt hown y e).1)
    · have e1 : upd cn a (cn a + 1) k = cn k := by simp [upd, hka]
      have e2 : upd L a (upd (L a) (cn a) x) k = L k := by simp [upd, hka]
      have e3 : upd fl a v' k = fl k := by simp [upd, hka]
      rw [e1, e2, e3]
      exact ownsRow_of_block (h.row k hk) fun y e => by
        have hy := World.ownsRow.lt (h.row k hk) y e
        exact (hf2.block y (Nat.lt_of_lt_of_le hy.2 hf1.size) (hne y hy.1)).trans (hf1.block y hy.2 (h.apart k a hk ha hka y e))
  · have key : ∀ k, k < n → k ≠ a → ∀ b, (fl k).ownBlock = some b → v'.ownBlock ≠ some b := fun k hk hka b hb e => by
      rcases hw with h1 | h1
      · exact h.apart k a hk ha hka b hb (h1.symm.trans e)
      · rw [h1] at e; cases e; have := (World.ownsRow.lt (h.row k hk) _ hb).2; omega
    by_cases hja : j = a
    · subst hja
      have e3 : upd fl j v' k = fl k := by simp [upd]; intro e; exact absurd e.symm hne2
      rw [upd_same] at hb
      rw [e3]
      intro e; exact key k hk (fun e => hne2 e.symm) b e hb
    · have e3 : upd fl a v' j = fl j := by simp [upd, hja]
      rw [e3] at hb
      by_cases hka : k = a
      · subst hka; rw [upd_same]; exact key j hj hja b hb
      · have e4 : upd fl a v' k = fl k := by simp [upd, hka]
        rw [e4]; exact h.apart j k hj hk hne2 b hb
  · exact (hf1.mono (fun b _ e => Or.inl (World.ownsRow.lt (h.row a ha) b e).1)).trans hf2 (fun b _ e => Or.inr e)
theorem Own2.atX {B : Nat} {w : World} {gC n g x : Nat} {cn : Nat → Nat} {L : Nat → Nat → LinkD} {fl : Nat → Value} (h : Own2 B w gC n cn L fl) (hg : g + 1 < B) (hne : g + 1 < gC) (hx : x < gC) : ∃ (cad : Nat → Option Addr) (cc : Nat → Nat), (AtX g x w (some ⟨gC, 0, none⟩) n 1 (fun c => [.slice (cad c) (cn c) (cc c)])) ∧ ∀ c, c < n → AtX g x w (cad c) (cn c) 3 (fun k => (L c k).cs) := by
  have key : ∀ k, ∃ (a : Option Addr) (c : Nat), k < n → fl k = .slice a (cn k) c ∧ AtX g x w a (cn k) 3 (fun m => (L k m).cs) := fun k => by
    by_cases hk : k < n
    · obtain ⟨a, c, e, _⟩ := own_new (h.row k hk)
      have hr := h.row k hk
      rw [e] at hr
      exact ⟨a, c, fun _ => ⟨e, own_atX hr (fun i => rfl) hg (Nat.lt_trans hx h.lt)⟩⟩
    · exact ⟨none, 0, fun h => absurd h hk⟩
  obtain ⟨cad, h1⟩ := Classical.axiomOfChoice key
  obtain ⟨cc, h2⟩ := Classical.axiomOfChoice h1
  refine ⟨cad, cc, fun i hi => ⟨gC, 0, rfl, (Array.getElem?_eq_some_iff.1 h.blk).1, ⟨Or.inr hne, by omega⟩, fun j x hj => ?_⟩, fun c hc => (h2 c hc).2⟩
  rcases j with _ | j
  · simp at hj
    subst hj
    have := h.cell hi
    rw [(h2 i hi).1] at this
    simpa using this
  · simp at hj
end Go.Proofs.YtcimbbllefkdlaaGreatDoor
