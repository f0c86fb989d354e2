/- Texts of this proof, merged: ChN ChL Awa Ad Awb Awc AuN. -/
import Derived.Test.YtcimbbllefkdlaaGreatDoorMab
import Derived.Laws.Tables
import Derived.Lib.ParseIntB
import Derived.Lib.ItoaNum
import Derived.Lib.SplitLaws
import Derived.Lib.IndexBytes
import Derived.Laws.BitsAllLaws
import Derived.Maps.Keyed
import Derived.Test.YtcimbbllefkdlaaGreatDoorMaa
import Derived.Test.YtcimbbllefkdlaaGreatDoorShelf
import Derived.Lib.Join
import Derived.Lib.AppendIntMem
import Derived.Lib.AtoiErrMem
import Derived.Lib.ItoaLen
import Derived.Shelf.Strconv.Itoa3
namespace Go.Proofs.YtcimbbllefkdlaaGreatDoor
set_option linter.unusedVariables false
set_option linter.unusedSimpArgs false
set_option maxRecDepth 100000
open Go.RowKit
open Go.ChangeMaps (setBlock)
open Go.WideMaps (KeyLaw)

def zr : Array Value := #[.pointer none, .pointer none, .int .i64 0, .int .u32 0, .bool false, .int .i64 0]
def mc (n : Nat) : Array Value := madeCells zr (n * 6)

theorem infoChain : ∃ i, Tryz.prog.info? 170 = some i ∧ i.zero = some (.agg zr) ∧ i.size = 6 ∧ i.bytes ≤ 64 := by
  have h : ((Tryz.prog.info? 170).map fun i => (i.zero, i.size, decide (i.bytes ≤ 64))) = some (some (.agg zr), 6, true) := by kernel_rfl
  rcases hi : Tryz.prog.info? 170 with _ | i
  · simp [hi] at h
  · simp [hi] at h
    exact ⟨i, rfl, h.1, h.2.1, h.2.2⟩

theorem run_mk (n : Nat) (hn : n ≤ 64) (W : World) : (Instr.makeSlice 161 (.int .i64 n) (.int .i64 n)).run Tryz.prog W = .ok (.slice (some ⟨W.heap.size, 0, none⟩) n n) (W.alloc (.cells (mc n) 170)) := by
  obtain ⟨i, hi, hz, hs, hb⟩ := infoChain
  have hb2 : (i.bytes : Int) * (n : Int) ≤ 281474976710656 := by
    have h := Nat.mul_le_mul hb hn
    have h' : ((i.bytes * n : Nat) : Int) ≤ 4096 := by omega
    rw [Int.natCast_mul] at h'; omega
  have := run_makeSlice W 161 170 i (.agg zr) Tryz.underlying161 hi hz .i64 .i64 n n (by omega) (by omega) (by rw [hs]; omega) hb2 (by omega)
  rw [hs] at this
  simpa [mc, Value.cells] using this

theorem mc_get (n j c : Nat) (hj : j < n) (hc : c < 6) : (mc n)[j * 6 + c]? = zr[c]? := by
  have : (j * 6 + c) < n * 6 := by omega
  have e : (j * 6 + c) % zr.size = c := by show (j * 6 + c) % 6 = c; omega
  have hz : c < zr.size := hc
  simp [mc, madeCells, this, e, hz]

/-- The fronts in the middle of their making: the first k are rings of their own. -/
structure Fronts (w : World) (bf n k : Nat) : Prop where
  z : ∀ o, w.frozen? ⟨bf, o, none⟩ = false
  d : ∀ j, j < n → cl w (bf, j * 6) 2 = some (.int .i64 0) ∧ cl w (bf, j * 6) 3 = some (.int .u32 0) ∧ cl w (bf, j * 6) 4 = some (.bool false) ∧ cl w (bf, j * 6) 5 = some (.int .i64 0)
  p : ∀ j, j < n → (∃ u, cl w (bf, j * 6) 0 = some u) ∧ ∃ u, cl w (bf, j * 6) 1 = some u
  r : ∀ j, j < k → cl w (bf, j * 6) 0 = some (ptr (bf, j * 6)) ∧ cl w (bf, j * 6) 1 = some (ptr (bf, j * 6))

theorem Fronts.made (W w : World) (n : Nat) (h : w.heap[W.heap.size]? = some (.cells (mc n) 170 (0, 0))) : Fronts w W.heap.size n 0 := by
  have e : ∀ j c, j < n → c < 6 → cl w (W.heap.size, j * 6) c = zr[c]? := fun j c hj hc => by
    unfold cl World.cell?; simp only [h]; simpa using mc_get n j c hj hc
  refine ⟨fun o => by simp [World.frozen?, h], fun j hj => ?_, fun j hj => ?_, fun j hj => by omega⟩
  · rw [e j 2 hj (by omega), e j 3 hj (by omega), e j 4 hj (by omega), e j 5 hj (by omega)]; exact ⟨rfl, rfl, rfl, rfl⟩
  · rw [e j 0 hj (by omega), e j 1 hj (by omega)]; exact ⟨⟨_, rfl⟩, ⟨_, rfl⟩⟩

theorem Fronts.next {w : World} {bf n k : Nat} (h : Fronts w bf n k) (hk : k < n) :
    Fronts ((w.setCell ⟨bf, k * 6 + 1, none⟩ (ptr (bf, k * 6))).setCell ⟨bf, k * 6, none⟩ (ptr (bf, k * 6))) bf n (k + 1) := by
  obtain ⟨⟨u0, h0⟩, ⟨u1, h1⟩⟩ := h.p k hk
  have same : ∀ j c, ¬ (j = k ∧ c = 0) → ¬ (j = k ∧ c = 1) → c < 6 → cl ((w.setCell ⟨bf, k * 6 + 1, none⟩ (ptr (bf, k * 6))).setCell ⟨bf, k * 6, none⟩ (ptr (bf, k * 6))) (bf, j * 6) c = cl w (bf, j * 6) c := by
    intro j c h2 h3 hc
    unfold cl
    rw [World.cell?_setCell_other _ _ _ _ (by simp <;> omega), World.cell?_setCell_other _ _ _ _ (by simp <;> omega)]
  have s1 : cl ((w.setCell ⟨bf, k * 6 + 1, none⟩ (ptr (bf, k * 6))).setCell ⟨bf, k * 6, none⟩ (ptr (bf, k * 6))) (bf, k * 6) 1 = some (ptr (bf, k * 6)) := by
    unfold cl
    rw [World.cell?_setCell_other _ _ _ _ (by simp)]
    exact World.cell?_setCell_same _ _ _ h1
  have s0 : cl ((w.setCell ⟨bf, k * 6 + 1, none⟩ (ptr (bf, k * 6))).setCell ⟨bf, k * 6, none⟩ (ptr (bf, k * 6))) (bf, k * 6) 0 = some (ptr (bf, k * 6)) := by
    unfold cl
    refine World.cell?_setCell_same _ _ _ (u := u0) ?_
    rw [World.cell?_setCell_other _ _ _ _ (by simp)]
    exact h0
  refine ⟨fun o => by simp [h.z o], fun j hj => ?_, fun j hj => ?_, fun j hj => ?_⟩
  · rw [same j 2 (by omega) (by omega) (by omega), same j 3 (by omega) (by omega) (by omega), same j 4 (by omega) (by omega) (by omega), same j 5 (by omega) (by omega) (by omega)]
    exact h.d j hj
  · by_cases e : j = k
    · subst e; exact ⟨⟨_, s0⟩, ⟨_, s1⟩⟩
    · rw [same j 0 (by omega) (by omega) (by omega), same j 1 (by omega) (by omega) (by omega)]; exact h.p j hj
  · by_cases e : j = k
    · subst e; exact ⟨s0, s1⟩
    · rw [same j 0 (by omega) (by omega) (by omega), same j 1 (by omega) (by omega) (by omega)]; exact h.r j (by omega)

def NewPost (w : World) (n : Nat) (e : Ending) (w' : World) : Prop :=
  ∃ bc bf bm, e = .returned (.tuple #[.pointer (some ⟨bc, 0, none⟩), .int .i64 0]) ∧ w.heap.size ≤ bc ∧ w.heap.size ≤ bf ∧ w.heap.size ≤ bm ∧ ChRep w' bc bf bm (List.replicate n []) ∧ NoW w w'

structure NewInv (w : World) (n k : Nat) (wr : World) : Prop where
  fr : Fronts wr w.heap.size n k
  m : wr.heap[w.heap.size + 1]? = some (.map #[] 0)
  c0 : wr.cell? ⟨w.heap.size + 1 + 1, 0, none⟩ = some (.slice (some ⟨w.heap.size, 0, none⟩) n n)
  c1 : wr.cell? ⟨w.heap.size + 1 + 1, 1, none⟩ = some (.map (some (w.heap.size + 1)))
  fp : NoW w wr

theorem newInv_start (w : World) (n : Nat) : NewInv w n 0 (((w.alloc (.cells (mc n) 170)).alloc (.map #[] 0)).alloc (.cells #[.slice (some ⟨w.heap.size, 0, none⟩) n n, .map (some (w.heap.size + 1))] 164)) := by
  refine ⟨Fronts.made w _ n ?_, ?_, ?_, ?_, ?_⟩
  · rw [Below.heap_alloc _ _ _ (by simp; omega), Below.heap_alloc _ _ _ (by simp)]; exact heap_new _ _ _ rfl
  · rw [Below.heap_alloc _ _ _ (by simp)]; exact heap_new _ _ _ (by simp)
  · have := World.cell?_alloc_at (w := (w.alloc (.cells (mc n) 170)).alloc (.map #[] 0)) #[.slice (some ⟨w.heap.size, 0, none⟩) n n, .map (some (w.heap.size + 1))] 164 (w.heap.size + 1 + 1) 0 (by simp)
    simpa using this
  · have := World.cell?_alloc_at (w := (w.alloc (.cells (mc n) 170)).alloc (.map #[] 0)) #[.slice (some ⟨w.heap.size, 0, none⟩) n n, .map (some (w.heap.size + 1))] 164 (w.heap.size + 1 + 1) 1 (by simp)
    simpa using this
  · (repeat (first | exact Fp.refl _ _ | refine Fp.drew ?_ | refine Fp.drewN ?_ _ | refine Fp.alloc ?_ _ | (refine Fp.setCell ?_ (Or.inl (by simp)) _) | (refine Fp.setCell ?_ (Or.inl (by simp; omega)) _) | refine Fp.trans ?_ (by assumption) (fun _ _ h => h)))

theorem NewInv.next {w wr : World} {n k : Nat} (h : NewInv w n k wr) (hk : k < n) :
    NewInv w n (k + 1) ((wr.setCell ⟨w.heap.size, k * 6 + 1, none⟩ (.pointer (some ⟨w.heap.size, k * 6, none⟩))).setCell ⟨w.heap.size, k * 6, none⟩ (.pointer (some ⟨w.heap.size, k * 6, none⟩))).drew := by
  refine ⟨?_, ?_, ?_, ?_, ?_⟩
  · have := h.fr.next hk
    exact ⟨this.z, this.d, this.p, this.r⟩
  · show (World.setCell _ _ _).heap[_]? = _
    rw [Below.heap_setCell _ _ _ _ (by simp), Below.heap_setCell _ _ _ _ (by simp)]; exact h.m
  · show (World.setCell _ _ _).cell? _ = _
    rw [World.cell?_setCell_other _ _ _ _ (by simp <;> omega), World.cell?_setCell_other _ _ _ _ (by simp <;> omega)]; exact h.c0
  · show (World.setCell _ _ _).cell? _ = _
    rw [World.cell?_setCell_other _ _ _ _ (by simp <;> omega), World.cell?_setCell_other _ _ _ _ (by simp <;> omega)]; exact h.c1
  · exact ((h.fp.setCell (Or.inl (Nat.le_refl _)) _).setCell (Or.inl (Nat.le_refl _)) _).drew

theorem NewInv.done {w wr : World} {n : Nat} (h : NewInv w n n wr) (h1 : 1 ≤ n) (h2 : n ≤ 64) : NewPost w n (.returned (.tuple #[.pointer (some ⟨w.heap.size + 1 + 1, 0, none⟩), .int .i64 0])) wr := by
  have fl : (List.replicate n ([] : Row)).flatten = [] := by simp
  have gr : ∀ (i : Nat) (r : Row), (List.replicate n ([] : Row))[i]? = some r → r = [] ∧ i < n := by
    intro i r hr
    rw [List.getElem?_replicate] at hr
    split at hr
    · exact ⟨(Option.some.inj hr).symm, by assumption⟩
    · cases hr
  refine ⟨w.heap.size + 1 + 1, w.heap.size, w.heap.size + 1, rfl, by omega, by omega, by omega, ?_, h.fp⟩
  refine ⟨?_, h.c1, ?_, ?_, ?_, ?_, ?_, ?_, ?_, ?_, ?_, ?_⟩
  · simpa using h.c0
  · simp; omega
  · simpa using h2
  · intro b o hb
    rcases hb with rfl | hb
    · exact h.fr.z o
    · simp at hb
  · intro i hi
    exact h.fr.d i (by simpa using hi)
  · intro i r hr x hx
    rw [(gr i r hr).1] at hx; cases hx
  · intro i r hr
    obtain ⟨rfl, hi⟩ := gr i r hr
    have := h.fr.r i hi
    exact ⟨this.2, this.1⟩
  · exact ⟨[], ⟨#[], 0, h.m, rfl⟩, by simp [pairs]⟩
  · rw [fl]; exact List.nodup_nil
  · rw [fl]; intro x hx; cases hx
  · rw [fl]; simp; omega

set_option maxHeartbeats 400000 in
theorem new_ok (n : Nat) (h1 : 1 ≤ n) (h2 : n ≤ 64) (w : World) : Calls Tryz.prog 54 #[.int .i64 n] w (NewPost w n) := by
  have hmk := run_mk n h2
  have hmm := @run_makeMap Tryz.prog
  have d1 : decide ((n : Int) < 1) = false := by simp; omega
  have d2 : decide (64 < (n : Int)) = false := by simp; omega
  go_enter Tryz.func54, Tryz.ntmps54
  go_wp2_with fail
  go_loopw [23] (fun i wr => ∃ k : Nat, k ≤ n ∧ i = .int .i64 k ∧ NewInv w n k wr) (fun i _ => n - (intOf i).toNat)
  case atStart => exact ⟨0, Nat.zero_le _, rfl, newInv_start w n⟩
  case round =>
    obtain ⟨k, hk, rfl, hinv⟩ := hrel
    have c0 := hinv.c0
    by_cases hlt : k < n
    · obtain ⟨⟨u0, g0⟩, ⟨u1, g1⟩⟩ := hinv.fr.p k hlt
      simp only [cl, Nat.add_zero] at g0 g1
      have z := hinv.fr.z
      go_wp2_with fail
      (refine wp_still_tail 6 (by kernel_rfl) (by kernel_rfl) ?_; simp only [List.take_succ_cons, List.take_zero, List.drop_succ_cons, List.drop_zero]; (repeat still_step); try refine wpStill_nil ?_)
      go_wp2_with fail
      refine (join_any w.heap.size (k * 6) w.heap.size (k * 6) u1 u0 _ (by go_simp) (by go_simp) (by go_simp) (by go_simp) (by omega)).mono ?_
      rintro e w' ⟨rfl, rfl⟩
      go_wp2_with fail
      go_roundw
      case rel => exact ⟨k + 1, by omega, by go_num, hinv.next hlt⟩
      case measure => simp [intOf]; omega
    · obtain rfl : k = n := by omega
      go_wp2_with fail
      go_ret2
      exact hinv.done h1 h2
end Go.Proofs.YtcimbbllefkdlaaGreatDoor

namespace Go.Proofs.YtcimbbllefkdlaaGreatDoor
set_option linter.unusedVariables false
set_option linter.unusedSimpArgs false
set_option maxRecDepth 100000
open Go.RowKit
open Go.ChangeMaps (setBlock)
open Go.WideMaps (KeyLaw)

def lc3 (l : Lk) : List Value := [.int .i64 l.1, .int .u32 l.2.1, .bool l.2.2]
def lz : Value := .agg #[.int .i64 0, .int .u32 0, .bool false]
theorem infoLk : ∃ i, Tryz.prog.info? 83 = some i ∧ i.zero = some lz ∧ i.size = 3 ∧ i.bytes ≤ 65536 := by
  have h : ((Tryz.prog.info? 83).map fun i => (i.zero, i.size, decide (i.bytes ≤ 65536))) = some (some lz, 3, true) := by kernel_rfl
  rcases hi : Tryz.prog.info? 83 with _ | i
  · simp [hi] at h
  · simp [hi] at h
    exact ⟨i, rfl, h.1, h.2.1, h.2.2⟩

/-- A slice of links of the call's own. -/
def LkRow (w : World) (B : Nat) (v : Value) (ls : List Lk) : Prop := w.ownsRow B 83 3 v ls.length (ls.flatMap lc3)

theorem LkRow.nil (w : World) (B : Nat) : LkRow w B (.slice none 0 0) [] := World.ownsRow_nil w B _ 3

structure LsInv (w : World) (bc bf bm : Nat) (σ : List Row) (r : Row) (k : Nat) (v : Value) (bl : Nat) (wr : World) : Prop where
  rep : ChRep wr bc bf bm σ
  fp : NoW w wr
  own : LkRow wr w.heap.size v ((r.take k).map Prod.snd)
  le : w.heap.size ≤ bl
  box : wr.heap[bl]? = some (.cells (lc3 (hdl (r.drop k)).1).toArray 83 (0, 0))
  ne : v.ownBlock ≠ some bl
  nil : v = .slice none 0 0 ↔ k = 0

section
variable {w : World} {bc bf bm : Nat} {σ : List Row}

def ListPost (w : World) (ls : List Lk) (e : Ending) (w' : World) : Prop := ∃ v, e = .returned v ∧ LkRow w' w.heap.size v ls ∧ NoW w w' ∧ (v = .slice none 0 0 ↔ ls = [])

set_option maxHeartbeats 1000000 in
theorem list_ok (h : ChRep w bc bf bm σ) {i : Nat} {r : Row} (hi : σ[i]? = some r) (hlen : r.length ≤ 100000) :
    Calls Tryz.prog 64 #[.pointer (some ⟨bc, 0, none⟩), .int .i64 i] w (ListPost w (r.map Prod.snd)) := by
  go_enter Tryz.func64, Tryz.ntmps64
  go_wp2_with fail
  refine (first_ok h hi).mono ?_
  rintro e w1 ⟨rfl, hb⟩
  have Hl := Lib.hid hlen
  clear hlen
  obtain ⟨⟨l, t⟩, hlt⟩ : ∃ y, y = hdl r := ⟨_, rfl⟩
  rw [← hlt]
  have Hlt := Lib.hid hlt
  clear hlt
  unfold lv
  go_wp2_with fail
  go_loopg [5, 6, 7] (r.length + 1) (fun g v p tk wr => ∃ k bl v', v' = v ∧ k ≤ r.length ∧ g = r.length + 1 - k ∧ p = .pointer (some ⟨bl, 0, none⟩) ∧ tk = .bool (hdl (r.drop k)).2 ∧ LsInv w bc bf bm σ r k v' bl wr)
  case atStart =>
    refine ⟨0, w1.heap.size, _, rfl, Nat.zero_le _, rfl, rfl, by rw [List.drop_zero, ← Hlt.out], ?_⟩
    have h1 := h.fp hb (fun _ _ => id)
    refine ⟨h1.alloc _, hb.alloc _, LkRow.nil _ _, hb.size, ?_, by simp [Value.ownBlock], by simp⟩
    rw [List.drop_zero, ← Hlt.out]
    exact heap_new _ _ _ rfl
  case round =>
    obtain ⟨k, bl, v', rfl, hk, hg, rfl, rfl, hinv⟩ := hrel
    obtain ⟨hrep, hfp, hown, hble, hbox, hne, hnil⟩ := hinv
    have Hnil := Lib.hid hnil
    have Hg := Lib.hid hg
    clear hnil hg
    by_cases hlt : k < r.length
    · obtain ⟨x, hx⟩ : ∃ x, x = r[k] := ⟨_, rfl⟩
      have hd : r.drop k = x :: r.drop (k + 1) := by rw [hx]; exact List.drop_eq_getElem_cons hlt
      have htk : r.take (k + 1) = r.take k ++ [x] := by rw [hx]; exact List.take_succ_eq_append_getElem hlt
      have hi2 : σ[i]? = some (r.take k ++ x :: r.drop (k + 1)) := by rw [← hd, List.take_append_drop]; exact hi
      rw [hd] at hbox ⊢
      have lbl : bl < wr.heap.size := (Array.getElem?_eq_some_iff.1 hbox).1
      have e0 : wr.cell? ⟨bl, 0, none⟩ = some (.int .i64 x.2.1) := by simp [World.cell?, hbox, lc3, hdl]
      have e1 : wr.cell? ⟨bl, 1, none⟩ = some (.int .u32 x.2.2.1) := by simp [World.cell?, hbox, lc3, hdl]
      have e2 : wr.cell? ⟨bl, 2, none⟩ = some (.bool x.2.2.2) := by simp [World.cell?, hbox, lc3, hdl]
      have Hd := Lib.hid hd
      have Htk := Lib.hid htk
      have Hx := Lib.hid hx
      have Hlt2 := Lib.hid hlt
      clear hd htk hx
      simp only [hdl]
      go_wp2_with (at_builtin; go_must (refine wp_append1 rfl _ _ 55 rfl w.heap.size 83 lz 3 Tryz.underlying55 infoLk rfl (by decide) v' ((r.take k).map Prod.snd).length (((r.take k).map Prod.snd).flatMap lc3) rfl (World.ownsRow.alloc hown _) wr.heap.size (lc3 x.2) rfl rfl (heap_new _ _ _ rfl) ?_ ?_ ?_ ?_))
      · intro u hu; simp [lc3] at hu; rcases hu with rfl | rfl | rfl <;> rfl
      · have := Hl.out; simp; omega
      · have := hfp.size; simp; omega
      intro v2 w2 hown2 hgrow hne2 _
      have hlt3 := hown.lt
      have hfp2 : NoW w w2 := (hfp.alloc _).grown hgrow (fun g e => Or.inl (hlt3 g e).1)
      have hrep2 : ChRep w2 bc bf bm σ := h.fp hfp2 (fun _ _ => id)
      have hbl2 : w2.heap[bl]? = wr.heap[bl]? := by
        rw [hgrow.block bl (by simp; omega) (fun e => hne e.symm), Below.heap_alloc _ _ _ lbl]
      have lbl2 : bl < w2.heap.size := by have := hgrow.size; simp at this; omega
      have f0 : w2.cell? ⟨bl, 0, none⟩ = some (.int .i64 x.2.1) := (World.cell?_of_block (a := ⟨bl, 0, none⟩) hbl2).trans e0
      have f1 : w2.cell? ⟨bl, 1, none⟩ = some (.int .u32 x.2.2.1) := (World.cell?_of_block (a := ⟨bl, 1, none⟩) hbl2).trans e1
      have f2 : w2.cell? ⟨bl, 2, none⟩ = some (.bool x.2.2.2) := (World.cell?_of_block (a := ⟨bl, 2, none⟩) hbl2).trans e2
      have Hne2 := Lib.hid hne2
      have Hbl2 := Lib.hid hbl2
      clear hne2 hbl2 e0 e1 e2
      go_wp2_with fail
      refine (next_ok (x := x) (hrep2.alloc _) hi2).mono ?_
      rintro e w3 ⟨rfl, hb3⟩
      obtain ⟨hc, hf, hz⟩ := hb3.bcell
      obtain ⟨⟨l', t'⟩, hlt'⟩ : ∃ y, y = hdl (r.drop (k + 1)) := ⟨_, rfl⟩
      rw [← hlt']
      have Hlt' := Lib.hid hlt'
      clear hlt'
      have k0 : w3.cell? ⟨w2.heap.size, 0, none⟩ = some (.int .i64 x.2.1) := by rw [hc _ _ (by simp)]; simp
      have k1 : w3.cell? ⟨w2.heap.size, 1, none⟩ = some (.int .u32 x.2.2.1) := by rw [hc _ _ (by simp)]; simp
      have k2 : w3.cell? ⟨w2.heap.size, 2, none⟩ = some (.bool x.2.2.2) := by rw [hc _ _ (by simp)]; simp
      have kz : ∀ o, w3.frozen? ⟨w2.heap.size, o, none⟩ = false := fun o => by rw [hf _ _ (by simp)]; simp
      clear hc hf
      unfold lv
      go_wp2_with fail
      go_roundg (r.length - k)
      case measure => have := Hg.out; omega
      case rel =>
        refine ⟨k + 1, w2.heap.size, _, rfl, by omega, by omega, rfl, by rw [← Hlt'.out], ?_⟩
        have hfp4 : NoW w (((w3.setCell ⟨w2.heap.size, 0, none⟩ (.int .i64 l'.1)).setCell ⟨w2.heap.size, 1, none⟩ (.int .u32 l'.2.1)).setCell ⟨w2.heap.size, 2, none⟩ (.bool l'.2.2)) :=
          ((((hfp2.alloc _).trans hb3 (fun _ _ h => h)).setCell (Or.inl (by exact hfp2.size)) _).setCell (Or.inl (by exact hfp2.size)) _).setCell (Or.inl (by exact hfp2.size)) _
        have hlt4 := hown2.lt
        refine ⟨h.fp hfp4 (fun _ _ => id), hfp4, ?_, hfp2.size, ?_, fun e => ?_, ?_⟩
        · unfold LkRow
          rw [Htk.out]
          have : (((r.take k ++ [x]).map Prod.snd).length) = ((r.take k).map Prod.snd).length + 1 := by simp
          rw [this, List.map_append, List.flatMap_append]
          have e5 : (([x] : Row).map Prod.snd).flatMap lc3 = lc3 x.2 := by simp
          have e6 : ((r.take k).map Prod.snd).length = k := by simp; omega
          rw [e5, e6, List.map_take]
          refine ownsRow_of_block hown2 (fun g hg => ?_)
          have hg := (hlt4 g hg).2
          rw [Below.heap_setCell _ _ _ _ (by simp; omega), Below.heap_setCell _ _ _ _ (by simp; omega), Below.heap_setCell _ _ _ _ (by simp; omega), hb3.block g (by simp; omega) id, Below.heap_alloc _ _ _ hg]
        · have b3 : w3.heap[w2.heap.size]? = some (.cells #[.int .i64 x.2.1, .int .u32 x.2.2.1, .bool x.2.2.2] 83 (0, 0)) := by
            rw [hb3.block _ (by simp) id]; exact heap_new _ _ _ rfl
          have := heap_set _ _ 2 _ _ (.bool l'.2.2) (heap_set _ _ 1 _ _ (.int .u32 l'.2.1) (heap_set _ _ 0 _ _ (.int .i64 l'.1) b3))
          rw [← Hlt'.out]
          exact this
        · have := (hlt4 _ e).2; omega
        · exact ⟨fun e => absurd e Hne2.out, fun e => by omega⟩
    · obtain rfl : k = r.length := by omega
      have hd : r.drop r.length = [] := List.drop_length
      rw [hd]
      simp only [hdl]
      go_wp2_with fail
      go_ret
      refine ⟨v', rfl, ?_, hfp, ?_⟩
      · rw [List.take_length] at hown; exact hown
      · refine Hnil.out.trans ?_
        simp
end
end Go.Proofs.YtcimbbllefkdlaaGreatDoor

namespace Go.Proofs.YtcimbbllefkdlaaGreatDoor
set_option linter.unusedVariables false
set_option linter.unusedSimpArgs false
open Go.RowKit Go.Lib
theorem pairs_get (f : Nat → Value) (z : Value) (m j : Nat) : ((List.range m).flatMap fun i => [z, f i])[j]? = if j < 2 * m then some (if j % 2 = 0 then z else f (j / 2)) else none := by
  have hl : ∀ m, ((List.range m).flatMap fun i => [z, f i]).length = 2 * m := fun m => by
    induction m with
    | zero => rfl
    | succ m ih => rw [List.range_succ, List.flatMap_append, List.length_append, ih]; simp; omega
  induction m with
  | zero => simp
  | succ m ih =>
    rw [List.range_succ, List.flatMap_append]
    by_cases h : j < 2 * m
    · rw [List.getElem?_append_left (by rw [hl]; exact h), ih, if_pos h]
      rw [if_pos (show j < 2 * (m + 1) by omega)]
    · rw [List.getElem?_append_right (by rw [hl]; omega), hl]
      by_cases h2 : j = 2 * m
      · subst h2
        rw [if_pos (by omega), if_pos (by omega), Nat.sub_self]; rfl
      · by_cases h3 : j = 2 * m + 1
        · subst h3
          have e1 : 2 * m + 1 - 2 * m = 1 := by omega
          have e2 : (2 * m + 1) / 2 = m := by omega
          have e3 : (2 * m + 1) % 2 = 1 := by omega
          rw [if_pos (by omega)]
          simp [e1, e2, e3]
        · rw [if_neg (by omega)]
          simp; omega
/-- A slab in the middle of its making: the first k slots are of generation 1. -/
def slabK (n : Nat) (k : Nat) : List Value := ((List.range 256).flatMap fun i => [(Value.int .i64 0), .int .u32 (if i < k then 1 else 0)]) ++ [.int .i64 n, .int .i64 n, .int .i64 0, .int .i64 0]
theorem slabK_get (n k j : Nat) (h : j < 512) : (slabK n k)[j]? = some (if j % 2 = 0 then .int .i64 0 else .int .u32 (if j / 2 < k then 1 else 0)) := by
  unfold slabK
  have hp := pairs_get (fun i => Value.int .u32 (if i < k then 1 else 0)) (Value.int .i64 0) 256 j
  rw [if_pos (by omega)] at hp
  rw [List.getElem?_append_left (List.getElem?_eq_some_iff.1 hp).1]
  exact hp
theorem slabK_len (n k : Nat) : (slabK n k).length = 516 := by
  have hl : ∀ m, ((List.range m).flatMap fun i => [(Value.int .i64 0), .int .u32 (if i < k then 1 else 0)]).length = 2 * m := fun m => by
    induction m with
    | zero => rfl
    | succ m ih => rw [List.range_succ, List.flatMap_append, List.length_append, ih]; simp; omega
  unfold slabK
  rw [List.length_append, hl]; rfl
theorem slabK_tail (n k j : Nat) : (slabK n k)[512 + j]? = ([.int .i64 n, .int .i64 n, .int .i64 0, .int .i64 0] : List Value)[j]? := by
  have hl : ∀ m, ((List.range m).flatMap fun i => [(Value.int .i64 0), .int .u32 (if i < k then 1 else 0)]).length = 2 * m := fun m => by
    induction m with
    | zero => rfl
    | succ m ih => rw [List.range_succ, List.flatMap_append, List.length_append, ih]; simp; omega
  unfold slabK
  rw [List.getElem?_append_right (by rw [hl]; omega), hl]
  have e : 512 + j - 2 * 256 = j := by omega
  rw [e]
theorem slabK_set (n k : Nat) (hk : k < 256) : (slabK n k).set (k * 2 + 1) (.int .u32 1) = slabK n (k + 1) := by
  apply List.ext_getElem?
  intro j
  by_cases hj : j < 512
  · rw [List.getElem?_set, slabK_get _ _ _ hj, slabK_get _ _ _ hj, slabK_len]
    by_cases h : k * 2 + 1 = j
    · subst h
      rw [if_pos rfl, if_pos (by omega), if_neg (by omega), if_pos (by omega)]
    · rw [if_neg h]
      by_cases h2 : j % 2 = 0
      · rw [if_pos h2, if_pos h2]
      · rw [if_neg h2, if_neg h2]
        by_cases h3 : j / 2 < k
        · rw [if_pos h3, if_pos (by omega)]
        · rw [if_neg h3, if_neg (by omega)]
  · obtain ⟨i, rfl⟩ : ∃ i, j = 512 + i := ⟨j - 512, by omega⟩
    rw [List.getElem?_set_ne (by omega), slabK_tail, slabK_tail]
def slab0 (n : Nat) : Array Value := (((List.range 256).flatMap fun _ => [(Value.int .i64 0), .int .u32 0]) ++ [Value.int .i64 n, .int .i64 0, .int .i64 0, .int .i64 0]).toArray
theorem slab0_set (n : Nat) : (slab0 n).setIfInBounds 513 (.int .i64 n) = (slabK n 0).toArray := by kernel_rfl
set_option maxHeartbeats 4000000 in
set_option maxRecDepth 100000 in
theorem slab_new (n : Nat) (h1 : 1 ≤ n) (h2 : n ≤ 256) (w : World) : Calls Tryz.prog 53 #[.int .i64 n] w fun e w' => ∃ g, e = .returned (.tuple #[.pointer (some ⟨g, 0, none⟩), .int .i64 0]) ∧ w'.heap[g]? = some (.cells (slabK n 256).toArray 160 (0, 0)) ∧ w.heap.size ≤ g ∧ NoW w w' := by
  have c1 : ¬ (n : Int) < 1 := by omega
  have c2 : ¬ (256 : Int) < (n : Int) := by omega
  have c3 : ¬ 256 < n := by omega
  have c4 : ¬ n < 1 := by omega
  have c5 : ¬ n = 0 := by omega
  have kb : (Tryz.zeroCells160).setIfInBounds 512 (.int .i64 n) = slab0 n := by kernel_rfl
  go_enter Tryz.func53, Tryz.ntmps53
  go_upto_region 4 with fail
  refine wp_gen (fun x1 hW => ?_)
  have hp := new_now hW
  have hB := new_blk hW
  clear hW kb
  obtain ⟨g, hg⟩ : ∃ g, g = w.heap.size := ⟨_, rfl⟩
  rw [← hg] at hB ⊢
  have HG := Lib.hid (Nat.le_of_eq hg.symm)
  clear hg
  have cg : x1.cell? ⟨g, 513, none⟩ = some (.int .i64 0) := by simp only [World.cell?, hB.out]; rfl
  have zg := froz_at hB
  have lg := hid_lt hB
  go_upto_region 5 with fail
  refine wp_gen (fun x2 hW => ?_)
  have hB2 := set_blk hW hB
  have HN := Lib.hid (hp.trans (set_now hW) (fun i hi e => by have h3 : i = g := e; have h4 := HG.out; omega))
  rw [slab0_set] at hB2
  clear hW hp hB cg zg lg
  go_wp2_with fail
  go_loopg [20, 5] 257 (fun gg kv sv wx => ∃ (k : Nat), k ≤ 256 ∧ gg = 257 - k ∧ kv = .int .i64 (k : Int) ∧ wx.heap[g]? = some (.cells (slabK n k).toArray 160 (0, 0)) ∧ NoW w wx)
  case atStart => exact ⟨0, by omega, by omega, rfl, hB2.out, HN.out⟩
  case round =>
    clear hB2 HN
    obtain ⟨k, hk, hgg, rfl, hb, hN⟩ := hrel
    have Hg := Lib.hid hgg
    have B_g := Lib.hid hb
    have HN := Lib.hid hN
    clear hgg hb hN
    by_cases hlt : k < 256
    · have ck : (k : Int) < 256 := by omega
      have hget := slabK_get n k (k * 2 + 1) (by omega)
      rw [if_neg (by omega), if_neg (by omega)] at hget
      have cg : wr.cell? ⟨g, k * 2 + 1, none⟩ = some (.int .u32 0) := cell_at B_g _ hget
      have zg := froz_at B_g
      have lg := hid_lt B_g
      clear hget
      go_wp2_with fail
      have hB := set_blk (W := wr.setCell ⟨g, k * 2 + 1, none⟩ (.int .u32 1)) rfl B_g
      rw [List.setIfInBounds_toArray, slabK_set n k hlt] at hB
      have HN2 := Lib.hid (HN.out.trans (set_now (W := wr.setCell ⟨g, k * 2 + 1, none⟩ (.int .u32 1)) rfl) (fun i hi e => by have h3 : i = g := e; have h4 := HG.out; omega))
      go_roundg (256 - k)
      case measure => have := Hg.out; omega
      case rel => exact ⟨k + 1, by omega, by omega, by go_num, hB.out, HN2.out⟩
    · obtain rfl : k = 256 := by omega
      go_wp2_with fail
      refine bodyPost_ret (v := .tuple #[.pointer (some ⟨g, 0, none⟩), .int .i64 0]) (by simp only [results, Tryz.results53]; go_simp) rfl ⟨g, rfl, B_g.out, HG.out, HN.out⟩
end Go.Proofs.YtcimbbllefkdlaaGreatDoor

namespace Go.Proofs.YtcimbbllefkdlaaGreatDoor
set_option linter.unusedVariables false
set_option linter.unusedSimpArgs false
open Go.Lib

/-- The number that digits say. -/
def val (l : List UInt8) : Nat := l.foldl (fun a c => a * 10 + (c.toNat - 48)) 0
/-- A text, taken apart at a byte. -/
def pieces (c : UInt8) : List UInt8 → List (List UInt8)
  | [] => [[]]
  | b :: l => if b = c then [] :: pieces c l else match pieces c l with | [] => [[b]] | p :: ps => (b :: p) :: ps
end Go.Proofs.YtcimbbllefkdlaaGreatDoor
namespace Go.Proofs.YtcimbbllefkdlaaGreatDoor
set_option linter.unusedVariables false
set_option linter.unusedSimpArgs false
open Go.Lib

end Go.Proofs.YtcimbbllefkdlaaGreatDoor
namespace Go.Proofs.YtcimbbllefkdlaaGreatDoor
set_option linter.unusedVariables false
set_option linter.unusedSimpArgs false
open Go.Lib

end Go.Proofs.YtcimbbllefkdlaaGreatDoor
namespace Go.Proofs.YtcimbbllefkdlaaGreatDoor
set_option linter.unusedVariables false
set_option linter.unusedSimpArgs false

theorem maskN_mul {k : Nat} (hk : k ≤ 32) : 2 ^ 32 - 2 ^ k = (2 ^ (32 - k) - 1) * 2 ^ k := by
  rw [Nat.sub_mul, ← Nat.pow_add, Nat.sub_add_cancel hk, Nat.one_mul]
theorem and_mask {x k : Nat} (hx : x < 2 ^ 32) (hk : k ≤ 32) : x &&& (2 ^ 32 - 2 ^ k) = x / 2 ^ k * 2 ^ k := by
  apply Nat.eq_of_testBit_eq
  intro i
  rw [maskN_mul hk, Nat.testBit_and, Nat.testBit_mul_two_pow, Nat.testBit_mul_two_pow, Nat.testBit_two_pow_sub_one, Nat.testBit_div_two_pow]
  by_cases hki : k ≤ i
  · rw [show i - k + k = i from by omega]
    by_cases h32 : i < 32
    · simp [hki, show i - k < 32 - k from by omega]
    · have : x.testBit i = false := Nat.testBit_lt_two_pow (Nat.lt_of_lt_of_le hx (Nat.pow_le_pow_right (by omega) (by omega)))
      simp [this]
  · simp [hki]
theorem and_low {x k : Nat} (hk : k ≤ 32) : x &&& (4294967295 - (2 ^ 32 - 2 ^ k)) = x % 2 ^ k := by
  have h1 : 2 ^ k ≤ 2 ^ 32 := Nat.pow_le_pow_right (by omega) hk
  have h2 : 0 < 2 ^ k := Nat.two_pow_pos k
  have e : 4294967295 - (2 ^ 32 - 2 ^ k) = 2 ^ k - 1 := by
    have : (2 : Nat) ^ 32 = 4294967296 := by decide
    omega
  rw [e, Nat.and_two_pow_sub_one_eq_mod]
theorem xor_zero {a b : Nat} : a ^^^ b = 0 ↔ a = b := by
  constructor
  · intro h
    have : (a ^^^ b) ^^^ b = 0 ^^^ b := by rw [h]
    rw [Nat.xor_assoc, Nat.xor_self, Nat.xor_zero, Nat.zero_xor] at this
    exact this
  · rintro rfl; exact Nat.xor_self a
theorem xor_div {a b k : Nat} : (a ^^^ b) / 2 ^ k = 0 ↔ a / 2 ^ k = b / 2 ^ k := by
  rw [← Nat.shiftRight_eq_div_pow, ← Nat.shiftRight_eq_div_pow, ← Nat.shiftRight_eq_div_pow, Nat.shiftRight_xor_distrib, xor_zero]
theorem xor_lt {a b : Nat} (ha : a < 2 ^ 32) (hb : b < 2 ^ 32) : a ^^^ b < 2 ^ 32 := Nat.xor_lt_two_pow ha hb
theorem mask_zero {a b k : Nat} (ha : a < 2 ^ 32) (hb : b < 2 ^ 32) (hk : k ≤ 32) : (a ^^^ b) &&& (2 ^ 32 - 2 ^ k) = 0 ↔ a / 2 ^ k = b / 2 ^ k := by
  rw [and_mask (xor_lt ha hb) hk, ← xor_div]
  have h2 : 0 < 2 ^ k := Nat.two_pow_pos k
  constructor
  · intro h
    rcases Nat.mul_eq_zero.1 h with h | h
    · exact h
    · omega
  · intro h; rw [h]; simp
end Go.Proofs.YtcimbbllefkdlaaGreatDoor

namespace Go.Proofs.YtcimbbllefkdlaaGreatDoor
set_option linter.unusedVariables false
set_option linter.unusedSimpArgs false
open Go.RowKit Go.Lib Go.Sort

theorem mask_ok (b : Nat) (hb : b ≤ 32) (w : World) : Calls Tryz.prog 94 #[.int .i64 b] w fun e w' => e = .returned (.int .u32 ((2 ^ 32 - 2 ^ (32 - b) : Nat) : Int)) ∧ w' = w := by
  have hp : 2 ^ (32 - b) ≤ 2 ^ 32 := Nat.pow_le_pow_right (by omega) (by omega)
  have hp1 : 1 ≤ 2 ^ (32 - b) := Nat.one_le_two_pow
  go_enter Tryz.func94, Tryz.ntmps94
  go_wp2_with fail
  go_ret
  refine ⟨?_, rfl⟩
  rw [IntKind.wrap_u64, IntKind.wrap_u64, show (2 : Int) ^ (32 - b) = ((2 ^ (32 - b) : Nat) : Int) by simp]
  have e32 : (2 : Nat) ^ 32 = 4294967296 := by decide
  rw [e32] at hp ⊢
  generalize 2 ^ (32 - b) = q at *
  have e : (4294967296 - (q : Int) % 18446744073709551616) % 18446744073709551616 % 4294967296 = ((4294967296 - q : Nat) : Int) := by omega
  rw [e]
  rfl
/-- Whether a prefix may be. -/
def mayB (ip : Nat) (bits : Int) : Bool := decide (0 ≤ bits ∧ bits ≤ 32 ∧ ip % 2 ^ (32 - bits.toNat) = 0)
/-- Whether it has an address. -/
def hasB (ip : Nat) (bits : Int) (a : Nat) : Bool := mayB ip bits && decide (a / 2 ^ (32 - bits.toNat) = ip / 2 ^ (32 - bits.toNat))
set_option maxHeartbeats 1000000 in
theorem may_ok (ip : Nat) (hip : ip < 4294967296) (bits : Int) (w : World) : Calls Tryz.prog 79 #[.agg #[.int .u32 ip, .int .i64 bits]] w (Ret1 (.bool (mayB ip bits)) w) := by
  by_cases h0 : 0 ≤ bits
  · by_cases h1 : bits ≤ 32
    · obtain ⟨b, rfl⟩ : ∃ b : Nat, bits = b := ⟨bits.toNat, by omega⟩
      have hb : b ≤ 32 := by omega
      have h0' : decide ((0 : Int) ≤ (b : Int)) = true := by simp
      have h1' : decide ((b : Int) ≤ 32) = true := by simp; omega
      have hpk : 2 ^ 32 - 2 ^ (32 - b) < 4294967296 := by
        have : 1 ≤ 2 ^ (32 - b) := Nat.one_le_two_pow
        have e32 : (2 : Nat) ^ 32 = 4294967296 := by decide
        omega
      have hand := u32_andNot_nat ip (2 ^ 32 - 2 ^ (32 - b)) hip hpk
      rw [and_low (by omega)] at hand
      have hm : mayB ip b = decide (ip % 2 ^ (32 - b) = 0) := by
        unfold mayB
        rw [decide_eq_decide]
        exact ⟨fun h => by simpa using h.2.2, fun h => ⟨by omega, by omega, by simpa using h⟩⟩
      rw [hm]
      have hmask := mask_ok b hb
      generalize 2 ^ 32 - 2 ^ (32 - b) = mk at *
      generalize ip % 2 ^ (32 - b) = r at *
      have Hmask := Lib.hid hmask
      have hrz : ((r : Int) == 0) = decide (r = 0) := by rw [Bool.eq_iff_iff]; simp
      clear hmask hm h0 h1
      go_enter Tryz.func79, Tryz.ntmps79
      go_wp2_with fail
      go_quiet ((go_at_call 94; exact Calls.quiet_of_same (Hmask.out _)))
      go_wp2_with fail
      go_ret
      exact ⟨rfl, ((Fp.refl _ _).alloc _).drewN _⟩
    · have h0' : decide ((0 : Int) ≤ bits) = true := by simpa using h0
      have h1' : decide (bits ≤ 32) = false := by simpa using h1
      have hm : mayB ip bits = false := by unfold mayB; simp [h1]
      rw [hm]
      clear hm h0 h1
      go_enter Tryz.func79, Tryz.ntmps79
      go_wp2_with fail
      go_quiet (fail)
      go_wp2_with fail
      go_ret
      exact ⟨rfl, ((Fp.refl _ _).alloc _).drewN _⟩
  · have h0' : decide ((0 : Int) ≤ bits) = false := by simpa using h0
    have hm : mayB ip bits = false := by unfold mayB; simp [h0]
    rw [hm]
    clear hm h0
    go_enter Tryz.func79, Tryz.ntmps79
    go_wp2_with fail
    go_quiet (fail)
    go_wp2_with fail
    go_ret
    exact ⟨rfl, ((Fp.refl _ _).alloc _).drewN _⟩
set_option maxHeartbeats 1000000 in
theorem has_ok (ip : Nat) (hip : ip < 4294967296) (bits : Int) (a : Nat) (ha : a < 4294967296) (w : World) : Calls Tryz.prog 80 #[.agg #[.int .u32 ip, .int .i64 bits], .int .u32 a] w (Ret1 (.bool (hasB ip bits a)) w) := by
  have hmay := fun W => may_ok ip hip bits W
  have Hmay := Lib.hid hmay
  clear hmay
  rcases hm : mayB ip bits with _ | _
  · have hh : hasB ip bits a = false := by unfold hasB; rw [hm]; rfl
    rw [hh]
    rw [hm] at Hmay
    clear hm hh hip ha
    go_enter Tryz.func80, Tryz.ntmps80
    go_wp2_with fail
    have hc0 : (w.alloc (.cells #[.int .u32 ip, .int .i64 bits] 92)).cell? ⟨w.heap.size, 0, none⟩ = some (.int .u32 ip) := by simp
    have hc1 : (w.alloc (.cells #[.int .u32 ip, .int .i64 bits] 92)).cell? ⟨w.heap.size, 1, none⟩ = some (.int .i64 bits) := by simp
    have hn0 : NoW w (w.alloc (.cells #[.int .u32 ip, .int .i64 bits] 92)) := (Fp.refl _ _).alloc _
    generalize w.alloc (.cells #[.int .u32 ip, .int .i64 bits] 92) = w0 at *
    generalize w.heap.size = g at *
    have h0 := hc0
    have h1 := hc1
    have d0 : w0.drew.cell? ⟨g, 0, none⟩ = some (.int .u32 ip) := hc0
    have d1 := (show w0.drew.cell? ⟨g, 1, none⟩ = _ from hc1)
    have Hn0 := Lib.hid hn0
    clear hn0 hc0 hc1
    have lg : g < w0.heap.size := cell_lt h0
    have H0 := Lib.hid h0
    have H1 := Lib.hid h1
    clear h0 h1 d0 d1
    refine wp_region_held_drew (S := fun wx => NoW w0 wx) (by kernel_rfl) (Fp.drew (Fp.refl _ _)) (fun hHeld => ?_)
    (refine tk 0 (some 5) ?_ ?_ ?_; rotate_left; (focus (intro wS hSw; have c0 := (hSw.cell (p := ⟨g, 0, none⟩) lg id).trans H0.out; have c1 := (hSw.cell (p := ⟨g, 1, none⟩) lg id).trans H1.out; go_simp; try with_reducible rfl)); (try simp only [Act.put, List.setIfInBounds_toArray, List.set_cons_zero, List.set_cons_succ]))
    refine wpAnyH_ready (rs := [1]) (by kernel_rfl) (by simp) ?_
    refine AllReadyH.cons rfl (fun K hK => ?_) AllReadyH.nil
    go_simp
    go_at_call 79
    refine (Hmay.out _).mono ?_
    rintro e w1 ⟨rfl, hp1⟩
    have hn1 : NoW w0 w1 := Fp.trans hHeld hp1 (fun _ _ h => h)
    clear hp1 hHeld
    refine hK.out _ _ hn1 (fun hHeld => ?_)
    clear hK K
    try simp only [Act.put, List.setIfInBounds_toArray, List.set_cons_zero, List.set_cons_succ]
    (refine tk 2 (some 7) ?_ ?_ ?_; rotate_left; (focus (intro wS hSw; go_simp; try with_reducible rfl)); (try simp only [Act.put, List.setIfInBounds_toArray, List.set_cons_zero, List.set_cons_succ]))
    (refine dk 3 (some 8) ?_; (try simp only [Act.put, List.setIfInBounds_toArray, List.set_cons_zero, List.set_cons_succ]))
    (refine dk 4 (some 9) ?_; (try simp only [Act.put, List.setIfInBounds_toArray, List.set_cons_zero, List.set_cons_succ]))
    (refine dk 5 (some 10) ?_; (try simp only [Act.put, List.setIfInBounds_toArray, List.set_cons_zero, List.set_cons_succ]))
    (refine dk 6 (some 11) ?_; (try simp only [Act.put, List.setIfInBounds_toArray, List.set_cons_zero, List.set_cons_succ]))
    (refine dk 7 (some 12) ?_; (try simp only [Act.put, List.setIfInBounds_toArray, List.set_cons_zero, List.set_cons_succ]))
    (refine dk 8 (some 13) ?_; (try simp only [Act.put, List.setIfInBounds_toArray, List.set_cons_zero, List.set_cons_succ]))
    (refine dk 9 (some 14) ?_; (try simp only [Act.put, List.setIfInBounds_toArray, List.set_cons_zero, List.set_cons_succ]))
    (refine dk 10 (some 15) ?_; (try simp only [Act.put, List.setIfInBounds_toArray, List.set_cons_zero, List.set_cons_succ]))
    (refine dk 11 (some 16) ?_; (try simp only [Act.put, List.setIfInBounds_toArray, List.set_cons_zero, List.set_cons_succ]))
    (refine tk 12 (some 17) ?_ ?_ ?_; rotate_left; (focus (intro wS hSw; go_simp; try with_reducible rfl)); (try simp only [Act.put, List.setIfInBounds_toArray, List.set_cons_zero, List.set_cons_succ]))
    (refine tk 13 (some 4) ?_ ?_ ?_; rotate_left; (focus (intro wS hSw; go_simp; try with_reducible rfl)); (try simp only [Act.put, List.setIfInBounds_toArray, List.set_cons_zero, List.set_cons_succ]))
    refine wpAnyH_done (by kernel_rfl) ?_ _
    go_wp2_with fail
    go_ret
    exact ⟨rfl, Hn0.out.trans hn1 (fun _ _ h => h)⟩
  · have hb : 0 ≤ bits ∧ bits ≤ 32 := by
      unfold mayB at hm
      have := of_decide_eq_true hm
      exact ⟨this.1, this.2.1⟩
    obtain ⟨b, rfl⟩ : ∃ b : Nat, bits = b := ⟨bits.toNat, by omega⟩
    have hb32 : b ≤ 32 := by omega
    have hh : hasB ip b a = decide (a / 2 ^ (32 - b) = ip / 2 ^ (32 - b)) := by unfold hasB; rw [hm]; simp
    rw [hh]
    rw [hm] at Hmay
    have e32 : (2 : Nat) ^ 32 = 4294967296 := by decide
    have hx := u32_xor_nat a ip ha hip
    have hxl : a ^^^ ip < 4294967296 := xor_lt ha hip
    have hpk : 2 ^ 32 - 2 ^ (32 - b) < 4294967296 := by
      have : 1 ≤ 2 ^ (32 - b) := Nat.one_le_two_pow
      omega
    have hand := u32_and_nat (a ^^^ ip) (2 ^ 32 - 2 ^ (32 - b)) hxl hpk
    have hz := mask_zero (a := a) (b := ip) ha hip (show 32 - b ≤ 32 by omega)
    have hz2 : ((((a ^^^ ip) &&& (2 ^ 32 - 2 ^ (32 - b)) : Nat) : Int) == 0) = decide (a / 2 ^ (32 - b) = ip / 2 ^ (32 - b)) := by
      rw [Bool.eq_iff_iff, beq_iff_eq, decide_eq_true_eq, ← hz]; omega
    have hmask := fun W => mask_ok b hb32 W
    generalize 2 ^ 32 - 2 ^ (32 - b) = mk at *
    generalize (a ^^^ ip) &&& mk = z at *
    generalize a ^^^ ip = x at *
    generalize hdd : decide (a / 2 ^ (32 - b) = ip / 2 ^ (32 - b)) = dd at *
    have Hmask := Lib.hid hmask
    clear hmask hm hh hz hdd hb hip ha hxl hpk e32
    go_enter Tryz.func80, Tryz.ntmps80
    go_wp2_with fail
    have hc0 : (w.alloc (.cells #[.int .u32 ip, .int .i64 b] 92)).cell? ⟨w.heap.size, 0, none⟩ = some (.int .u32 ip) := by simp
    have hc1 : (w.alloc (.cells #[.int .u32 ip, .int .i64 b] 92)).cell? ⟨w.heap.size, 1, none⟩ = some (.int .i64 b) := by simp
    have hn0 : NoW w (w.alloc (.cells #[.int .u32 ip, .int .i64 b] 92)) := (Fp.refl _ _).alloc _
    generalize w.alloc (.cells #[.int .u32 ip, .int .i64 b] 92) = w0 at *
    generalize w.heap.size = g at *
    have h0 := hc0
    have h1 := hc1
    have d0 : w0.drew.cell? ⟨g, 0, none⟩ = some (.int .u32 ip) := hc0
    have d1 := (show w0.drew.cell? ⟨g, 1, none⟩ = _ from hc1)
    have Hn0 := Lib.hid hn0
    clear hn0 hc0 hc1
    have lg : g < w0.heap.size := cell_lt h0
    have hkk : ∀ wx, NoW w0 wx → wx.cell? ⟨g, 0, none⟩ = some (.int .u32 ip) ∧ wx.cell? ⟨g, 1, none⟩ = some (.int .i64 b) :=
      fun wx hn => ⟨(hn.cell (p := ⟨g, 0, none⟩) lg id).trans h0, (hn.cell (p := ⟨g, 1, none⟩) lg id).trans h1⟩
    have Hkk := Lib.hid hkk
    clear hkk h0 h1
    go_region_held3 (fun wx => wx.cell? ⟨g, 0, none⟩ = some (.int .u32 ip) ∧ wx.cell? ⟨g, 1, none⟩ = some (.int .i64 b)) (first | exact Hkk.out _ (Fp.drew (Fp.refl _ _)) | exact Hkk.out _ hn1 | exact Hkk.out _ (hn1))
      (first | (go_at_call 79; refine (Hmay.out _).mono ?_; rintro e w1 ⟨rfl, hp1⟩; have hn1 : NoW w0 w1 := (Fp.drew (Fp.refl _ _)).trans hp1 (fun _ _ h => h); clear hp1) | (go_at_call 94; refine (Hmask.out _).mono ?_; rintro e w2 ⟨rfl, rfl⟩))
    go_wp2_with fail
    go_ret
    exact ⟨rfl, Hn0.out.trans hn1 (fun _ _ h => h)⟩
end Go.Proofs.YtcimbbllefkdlaaGreatDoor

namespace Go.Proofs.YtcimbbllefkdlaaGreatDoor
set_option linter.unusedVariables false
set_option linter.unusedSimpArgs false
open Go.RowKit Go.Lib
set_option maxHeartbeats 4000000 in
set_option maxRecDepth 100000 in
theorem rules_new (o ip : Nat) (bits : Int) (ho : o < 4294967296) (hip : ip < 4294967296) (hm : mayB ip bits = true) (hh : hasB ip bits o = false) (w : World) : Calls Tryz.prog 52 #[.int .u32 o, .agg #[.int .u32 ip, .int .i64 bits]] w fun e w' => ∃ g, e = .returned (.tuple #[.pointer (some ⟨g, 0, none⟩), .int .i64 0]) ∧ w'.heap[g]? = some (.cells #[.bool true, .int .u32 o, .int .u32 ip, .int .i64 bits, .slice none 0 0] 154 (0, 0)) ∧ w.heap.size ≤ g ∧ NoW w w' := by
  have K1 := Lib.hid (fun W => may_ok ip hip bits W)
  have K2 := Lib.hid (fun W => has_ok ip hip bits o ho W)
  rw [hm] at K1
  rw [hh] at K2
  clear hm hh ho hip
  go_enter Tryz.func52, Tryz.ntmps52
  go_upto_region 1 with fail
  refine wp_gen (fun x1 hW => ?_)
  have hp := new_now hW
  have hB := new_blk hW
  clear hW
  obtain ⟨g, hg⟩ : ∃ g, g = w.heap.size := ⟨_, rfl⟩
  rw [← hg] at hB ⊢
  have HN := Lib.hid hp
  clear hp hg
  have c0 := cell_at hB 0 rfl
  have c1 := cell_at hB 1 rfl
  have lg := hid_lt hB
  go_wp2_with fail
  refine (K1.out _).mono ?_
  rintro e x2 ⟨rfl, hp⟩
  replace HN := hid_now HN hp
  replace hB := hid_blk hB hp
  clear hp c0 c1 lg
  have c0 := cell_at hB 0 rfl
  have c1 := cell_at hB 1 rfl
  have lg := hid_lt hB
  go_wp2_with fail
  refine (K2.out _).mono ?_
  rintro e x3 ⟨rfl, hp⟩
  replace HN := hid_now HN hp
  replace hB := hid_blk hB hp
  clear hp c0 c1 lg
  have c0 := cell_at hB 0 rfl
  have c1 := cell_at hB 1 rfl
  have lg := hid_lt hB
  go_wp2_with fail
  refine bodyPost_ret (v := .tuple #[.pointer (some ⟨x3.heap.size, 0, none⟩), .int .i64 0]) (by simp only [results, Tryz.results52]; go_simp) rfl ⟨_, rfl, heap_alloc_new _ _, HN.out.size, HN.out.alloc _⟩
theorem ports_new (w : World) : Calls Tryz.prog 58 #[] w fun e w' => ∃ g m1 m2, e = .returned (.pointer (some ⟨g, 0, none⟩)) ∧ w'.heap[g]? = some (.cells #[.map (some m1), .map (some m2)] 185 (0, 0)) ∧ w'.heap[m1]? = some (.map #[] 0) ∧ w'.heap[m2]? = some (.map #[] 0) ∧ w.heap.size ≤ m1 ∧ w.heap.size ≤ g ∧ NoW w w' := by
  have hmm := @run_makeMap Tryz.prog
  go_enter Tryz.func58, Tryz.ntmps58
  go_wp2_with fail
  go_ret
  have h1 := heap_alloc_new w (.map #[] 0)
  have h2 := heap_alloc_new (w.alloc (.map #[] 0)) (.map #[] 0)
  have f1 : NoW (w.alloc (.map #[] 0)) ((w.alloc (.map #[] 0)).alloc (.map #[] 0)) := (Fp.refl _ _).alloc _
  have f2 : NoW ((w.alloc (.map #[] 0)).alloc (.map #[] 0)) (((w.alloc (.map #[] 0)).alloc (.map #[] 0)).alloc (.cells #[.map (some w.heap.size), .map (some (w.heap.size + 1))] 185)) := (Fp.refl _ _).alloc _
  have h3 := heap_alloc_new ((w.alloc (.map #[] 0)).alloc (.map #[] 0)) (.cells #[.map (some w.heap.size), .map (some (w.heap.size + 1))] 185)
  have e1 : (w.alloc (.map #[] 0)).heap.size = w.heap.size + 1 := by simp
  have e2 : ((w.alloc (.map #[] 0)).alloc (.map #[] 0)).heap.size = w.heap.size + 1 + 1 := by simp
  rw [e2] at h3
  rw [e1] at h2
  exact ⟨_, _, _, rfl, h3, (f2.block _ (by simp; omega) id).trans ((f1.block _ (by simp) id).trans h1), (f2.block _ (by simp) id).trans h2, Nat.le_refl _, by omega, (((Fp.refl _ _).alloc _).alloc _).alloc _⟩
end Go.Proofs.YtcimbbllefkdlaaGreatDoor

namespace Go.Proofs.YtcimbbllefkdlaaGreatDoor
set_option linter.unusedVariables false
set_option linter.unusedSimpArgs false
open Go.RowKit Go.Lib Go.Sort

/-- How long a state lasts. -/
def lastN (f s : Nat) : Int := (([[0, 0, 0, 0, 0, 0, 0, 0], [0, 120, 300, 0, 0, 0, 0, 0], [0, 60, 60, 0, 0, 0, 0, 0], [0, 240, 240, 7440, 240, 240, 240, 240]] : List (List Int)).getD f []).getD s 0
/-- A protocol's word. -/
def wordOf (k : Nat) : List UInt8 := if k = 1 then [105, 99, 109, 112] else if k = 6 then [116, 99, 112] else if k = 17 then [117, 100, 112] else []
def isWord (k : Nat) : Bool := decide (k = 1 ∨ k = 6 ∨ k = 17)
/-- What the library's and the program's variables hold. -/
structure Tb (w : World) : Prop where
  lasts : ∀ f s, f < 4 → s < 8 → w.cell? ⟨1, f * 8 + s, none⟩ = some (.int .i64 (lastN f s))
  words : ∃ bm o, w.cell? ⟨0, 0, none⟩ = some (.map (some bm)) ∧ w.heap[bm]? = some o ∧ ∀ W : World, W.heap[bm]? = some o → ∀ k : Nat, k < 256 →
    (Instr.lookup 196 (.map (some bm)) (.int .u8 k) true).run Tryz.prog W = .ok (.tuple #[.string ⟨(wordOf k).toArray⟩, .bool (isWord k)]) W ∧
    (Instr.lookup 196 (.map (some bm)) (.int .u8 k) false).run Tryz.prog W = .ok (.string ⟨(wordOf k).toArray⟩) W
theorem Tb.low {w w' : World} (h : Tb w) (hf : NoW w w') : Tb w' := by
  obtain ⟨hl, bm, o, h1, h2, h3⟩ := h
  refine ⟨fun f s a b => (hf.cell (cell_lt (hl f s a b)) id).trans (hl f s a b), bm, o, (hf.cell (cell_lt h1) id).trans h1, ?_, h3⟩
  exact (hf.block _ (Array.getElem?_eq_some_iff.1 h2).1 id).trans h2
/-- A text, as a list of bytes. -/
abbrev str (l : List UInt8) : Value := .string ⟨l.toArray⟩
end Go.Proofs.YtcimbbllefkdlaaGreatDoor
