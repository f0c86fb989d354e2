/- Chapter 18: slices.Clone of holds, own, Next, Touch (written by genef.py). · Chapter 18: stores of whole structs; own (written by genef.py). · Chapter 18: Next, Touch (written by genef.py). · Chapter 18: strings.Join of a row of texts; tuples.Text (written by genent.py). · Chapter 18: entries.Text (written by genetext.py). -/
import Derived.Test.YtmghjaoodnkjlaaGreatDoorEnD
import Derived.Test.YtmghjaoodnkjlaaGreatDoorSees
namespace Go.Proofs.YtmghjaoodnkjlaaGreatDoor
set_option linter.unusedVariables false
set_option linter.unusedSimpArgs false
open Go.RowKit Go.Lib Go.Sort

def holdZ : Value := .agg #[.int .u32 0, .int .u16 0, .int .u32 0, .int .u16 0]
/-- A slice of holds, as it stands in memory. -/
structure Holds (w : World) (b o n : Nat) (ys : List Value) : Prop where
  len : ys.length = n * 4
  cell : ∀ j x, ys[j]? = some x → w.cell? ⟨b, o + j, none⟩ = some x
  one : ∀ x ∈ ys, x.oneCell' = true
  lt : b < w.heap.size
theorem Holds.low {w w' : World} {b o n : Nat} {ys : List Value} (h : Holds w b o n ys) (hf : NoW w w') : Holds w' b o n ys :=
  ⟨h.len, fun j x hj => (hf.cell (p := ⟨b, o + j, none⟩) h.lt id).trans (h.cell j x hj), h.one, Nat.lt_of_lt_of_le h.lt hf.size⟩
theorem Holds.set {w : World} {b o n : Nat} {ys : List Value} (h : Holds w b o n ys) {p : Addr} (hp : p.block ≠ b) (v : Value) : Holds (w.setCell p v) b o n ys :=
  ⟨h.len, fun j x hj => (World.cell?_setCell_other _ _ _ _ (fun e => hp (by rw [e]))).trans (h.cell j x hj), h.one, by simpa [World.setCell] using h.lt⟩
end Go.Proofs.YtmghjaoodnkjlaaGreatDoor
namespace Go.Proofs.YtmghjaoodnkjlaaGreatDoor
set_option linter.unusedVariables false
set_option linter.unusedSimpArgs false
open Go.RowKit Go.Lib Go.Sort
theorem heap_set_other (w : World) (g b i : Nat) (v : Value) (hne : g ≠ b) : (w.setCell ⟨g, i, none⟩ v).heap[b]? = w.heap[b]? := by
  by_cases hb : b < w.heap.size
  · exact ((Fp.refl (fun k => k = g) w).setCell (p := ⟨g, i, none⟩) (Or.inr rfl) v).block b hb (fun e => hne e.symm)
  · rw [Array.getElem?_eq_none (by simp [World.setCell] at *; omega), Array.getElem?_eq_none (by omega)]
theorem set4 (w : World) (g : Nat) (T : TypeId) (z0 z1 z2 z3 : Value) (h : w.heap[g]? = some (.cells #[z0, z1, z2, z3] T (0, 0))) (x0 x1 x2 x3 : Value) :
    ∃ W, W = ((((w.setCell ⟨g, 0, none⟩ x0).setCell ⟨g, 1, none⟩ x1).setCell ⟨g, 2, none⟩ x2).setCell ⟨g, 3, none⟩ x3) ∧ W.heap[g]? = some (.cells #[x0, x1, x2, x3] T (0, 0)) ∧ Fp (fun k => k = g) w W := by
  refine ⟨_, rfl, ?_, ?_⟩
  · have h0 := heap_set w g 0 _ T x0 h
    have h1 := heap_set _ g 1 _ T x1 h0
    have h2 := heap_set _ g 2 _ T x2 h1
    have h3 := heap_set _ g 3 _ T x3 h2
    rw [h3]; simp
  · exact (((((Fp.refl (fun k => k = g) w).setCell (p := ⟨g, 0, none⟩) (Or.inr rfl) x0).setCell (p := ⟨g, 1, none⟩) (Or.inr rfl) x1).setCell (p := ⟨g, 2, none⟩) (Or.inr rfl) x2).setCell (p := ⟨g, 3, none⟩) (Or.inr rfl) x3)
theorem set13 (w : World) (g : Nat) (T : TypeId) (z0 z1 z2 z3 z4 z5 z6 z7 z8 z9 z10 z11 z12 : Value) (h : w.heap[g]? = some (.cells #[z0, z1, z2, z3, z4, z5, z6, z7, z8, z9, z10, z11, z12] T (0, 0))) (x0 x1 x2 x3 x4 x5 x6 x7 x8 x9 x10 x11 x12 : Value) :
    ∃ W, W = (((((((((((((w.setCell ⟨g, 0, none⟩ x0).setCell ⟨g, 1, none⟩ x1).setCell ⟨g, 2, none⟩ x2).setCell ⟨g, 3, none⟩ x3).setCell ⟨g, 4, none⟩ x4).setCell ⟨g, 5, none⟩ x5).setCell ⟨g, 6, none⟩ x6).setCell ⟨g, 7, none⟩ x7).setCell ⟨g, 8, none⟩ x8).setCell ⟨g, 9, none⟩ x9).setCell ⟨g, 10, none⟩ x10).setCell ⟨g, 11, none⟩ x11).setCell ⟨g, 12, none⟩ x12) ∧ W.heap[g]? = some (.cells #[x0, x1, x2, x3, x4, x5, x6, x7, x8, x9, x10, x11, x12] T (0, 0)) ∧ Fp (fun k => k = g) w W := by
  refine ⟨_, rfl, ?_, ?_⟩
  · have h0 := heap_set w g 0 _ T x0 h
    have h1 := heap_set _ g 1 _ T x1 h0
    have h2 := heap_set _ g 2 _ T x2 h1
    have h3 := heap_set _ g 3 _ T x3 h2
    have h4 := heap_set _ g 4 _ T x4 h3
    have h5 := heap_set _ g 5 _ T x5 h4
    have h6 := heap_set _ g 6 _ T x6 h5
    have h7 := heap_set _ g 7 _ T x7 h6
    have h8 := heap_set _ g 8 _ T x8 h7
    have h9 := heap_set _ g 9 _ T x9 h8
    have h10 := heap_set _ g 10 _ T x10 h9
    have h11 := heap_set _ g 11 _ T x11 h10
    have h12 := heap_set _ g 12 _ T x12 h11
    rw [h12]; simp
  · exact ((((((((((((((Fp.refl (fun k => k = g) w).setCell (p := ⟨g, 0, none⟩) (Or.inr rfl) x0).setCell (p := ⟨g, 1, none⟩) (Or.inr rfl) x1).setCell (p := ⟨g, 2, none⟩) (Or.inr rfl) x2).setCell (p := ⟨g, 3, none⟩) (Or.inr rfl) x3).setCell (p := ⟨g, 4, none⟩) (Or.inr rfl) x4).setCell (p := ⟨g, 5, none⟩) (Or.inr rfl) x5).setCell (p := ⟨g, 6, none⟩) (Or.inr rfl) x6).setCell (p := ⟨g, 7, none⟩) (Or.inr rfl) x7).setCell (p := ⟨g, 8, none⟩) (Or.inr rfl) x8).setCell (p := ⟨g, 9, none⟩) (Or.inr rfl) x9).setCell (p := ⟨g, 10, none⟩) (Or.inr rfl) x10).setCell (p := ⟨g, 11, none⟩) (Or.inr rfl) x11).setCell (p := ⟨g, 12, none⟩) (Or.inr rfl) x12)

end Go.Proofs.YtmghjaoodnkjlaaGreatDoor
namespace Go.Proofs.YtmghjaoodnkjlaaGreatDoor
set_option linter.unusedVariables false
set_option linter.unusedSimpArgs false
open Go.RowKit Go.Lib Go.Sort
end Go.Proofs.YtmghjaoodnkjlaaGreatDoor
namespace Go.Proofs.YtmghjaoodnkjlaaGreatDoor
set_option linter.unusedVariables false
set_option linter.unusedSimpArgs false
open Go.RowKit Go.Lib Go.Sort

/-- Texts with a blank between. -/
def joinB (ps : List (List UInt8)) : List UInt8 := List.intercalate [32] ps
theorem join_lenB (ps : List (List UInt8)) : ps.length ≤ (joinB ps).length + 1 := by
  induction ps with
  | nil => simp
  | cons a l ih => cases l with
    | nil => simp [joinB, List.intercalate]
    | cons b l => simp [joinB, List.intercalate] at ih ⊢; omega
theorem join_ok (g n c : Nat) (ps : List (List UInt8)) (w : World) (hc : ∀ j x, ps[j]? = some x → w.cell? ⟨g, j, none⟩ = some (str x)) (hg : g < w.heap.size) (hn : ps.length = n) (hnc : n ≤ c) (hs : (joinB ps).length ≤ 100000) :
    Calls Tryz.prog 37 #[.slice (some ⟨g, 0, none⟩) n c, .string ⟨#[32]⟩] w (Ret1 (str (joinB ps)) w) := by
  subst hn
  have e : Lib.join ((ps.map fun p => (⟨p.toArray⟩ : ByteArray)).map (·.data.toList)) (⟨#[32]⟩ : ByteArray).data.toList = joinB ps := by
    have : ((ps.map fun p => (⟨p.toArray⟩ : ByteArray)).map (·.data.toList)) = ps := by simp [Function.comp_def]
    rw [this]; rfl
  have hj := Tryz.strings_Join g 0 c (ps.map fun p => (⟨p.toArray⟩ : ByteArray)) ⟨#[32]⟩ w (fun j x hx => by
    rw [List.getElem?_map] at hx
    rcases hp : ps[j]? with _ | p
    · simp [hp] at hx
    · simp only [hp, Option.map_some, Option.some.injEq] at hx
      rw [Nat.zero_add, ← hx]
      exact hc j p hp) hg (by simp; have := join_lenB ps; omega) (by simpa using hnc) (by rw [e]; omega)
  rw [e] at hj
  simp only [List.length_map] at hj
  refine (show Calls _ _ _ _ _ from hj).mono ?_
  rintro e w2 ⟨rfl, hb2⟩
  exact ⟨rfl, Fp.of_below hb2⟩

/-- A tuple's text. -/
def tupT (k a p b q : Nat) : List UInt8 := joinB [wordOf k, withT 58 a p, withT 58 b q]
theorem wordOf_len (k : Nat) : (wordOf k).length ≤ 4 := by unfold wordOf; split <;> (try split) <;> (try split) <;> simp
theorem withT_len (a p : Nat) (ha : a < 4294967296) (hp : p < 65536) : (withT 58 a p).length ≤ 40 := by
  have hl1 := addrT_len ha
  have hl2 := dec_len 5 p (by omega) (by omega)
  simp [withT]; omega
theorem tupT_len (k a p b q : Nat) (ha : a < 4294967296) (hp : p < 65536) (hb : b < 4294967296) (hq : q < 65536) : (tupT k a p b q).length ≤ 100 := by
  have h1 := wordOf_len k
  have h2 := withT_len a p ha hp
  have h3 := withT_len b q hb hq
  simp [tupT, joinB, List.intercalate]; omega

set_option maxHeartbeats 4000000 in
theorem tup_text (k a p b q : Nat) (hk : k < 256) (ha : a < 4294967296) (hpp : p < 65536) (hb : b < 4294967296) (hq : q < 65536) (h : tupB k p q = true) (w : World) (ht : Tb w) :
    Calls Tryz.prog 14 #[.agg #[.int .u8 k, .int .u32 a, .int .u16 p, .int .u32 b, .int .u16 q]] w (Ret1 (str (tupT k a p b q)) w) := by
  have Ht := Lib.hid ht
  have kt := fun W hW => tup_ok k a p b q hk W hW
  rw [h] at kt
  have Kt := Lib.hid kt
  have P1 := Lib.hid (fun W (hW : Tb W) => point_text a ha p hpp W hW)
  have P2 := Lib.hid (fun W (hW : Tb W) => point_text b hb q hq W hW)
  have Hl := Lib.hid (show (joinB [wordOf k, withT 58 a p, withT 58 b q]).length ≤ 100000 from Nat.le_trans (tupT_len k a p b q ha hpp hb hq) (by omega))
  have Hk := Lib.hid hk
  clear ht kt h ha hpp hb hq hk
  go_enter Tryz.func14, Tryz.ntmps14
  go_wp2_with fail
  have hw0 : NoW w (w.alloc (.cells #[.int .u8 k, .int .u32 a, .int .u16 p, .int .u32 b, .int .u16 q] 29)) := (Fp.refl _ _).alloc _
  have hb0 : (w.alloc (.cells #[.int .u8 k, .int .u32 a, .int .u16 p, .int .u32 b, .int .u16 q] 29)).heap[w.heap.size]? = some (.cells #[.int .u8 k, .int .u32 a, .int .u16 p, .int .u32 b, .int .u16 q] 29) := heap_alloc_new _ _
  generalize w.alloc (.cells #[.int .u8 k, .int .u32 a, .int .u16 p, .int .u32 b, .int .u16 q] 29) = w0 at *
  generalize w.heap.size = g at *
  refine (Kt.out _ (Ht.out.low hw0)).mono ?_
  rintro e v0 ⟨rfl, hp⟩
  have hb := (hp.block _ (Array.getElem?_eq_some_iff.1 hb0).1 id).trans hb0
  have Hn := Lib.hid (hw0.trans hp (fun _ _ h => h))
  clear hp hw0 hb0
  have x0 : v0.cell? ⟨g, 0, none⟩ = some (.int .u8 k) := by simp [World.cell?, hb]
  have x1 : v0.cell? ⟨g, 1, none⟩ = some (.int .u32 a) := by simp [World.cell?, hb]
  have x2 : v0.cell? ⟨g, 2, none⟩ = some (.int .u16 p) := by simp [World.cell?, hb]
  have x3 : v0.cell? ⟨g, 3, none⟩ = some (.int .u32 b) := by simp [World.cell?, hb]
  have x4 : v0.cell? ⟨g, 4, none⟩ = some (.int .u16 q) := by simp [World.cell?, hb]

  have lg : g < v0.heap.size := cell_lt x0
  clear hb
  obtain ⟨bm, o, hm1, hm2, hm3⟩ := (Ht.out.low Hn.out).words
  have lm := cell_lt hm1
  have lm2 := (Array.getElem?_eq_some_iff.1 hm2).1
  have Hm3 := Lib.hid hm3
  clear hm3
  go_wp2_with fail
  refine wp_region_held_drew (S := fun wx => NoW v0 wx) (by kernel_rfl) (Fp.drew (Fp.refl _ _)) (fun hHeld => ?_)
  (refine take_at 0 (some 6) rfl rfl (by kernel_rfl) (by kernel_rfl) (by kernel_rfl) (fun _ _ _ h => h) (v := ?_) (by kernel_rfl) ?_ (by assumption) ?_; rotate_left; (focus (intro wS hSw; have ym := (hSw.cell (p := ⟨0, 0, none⟩) lm id).trans hm1; go_simp; try with_reducible rfl)); (try simp only [Act.put, List.setIfInBounds_toArray, List.set_cons_zero, List.set_cons_succ]))
  (refine take_at 1 (some 7) rfl rfl (by kernel_rfl) (by kernel_rfl) (by kernel_rfl) (fun _ _ _ h => h) (v := ?_) (by kernel_rfl) ?_ (by assumption) ?_; rotate_left; (focus (intro wS hSw; skip; go_simp; try with_reducible rfl)); (try simp only [Act.put, List.setIfInBounds_toArray, List.set_cons_zero, List.set_cons_succ]))
  (refine take_at 2 (some 8) rfl rfl (by kernel_rfl) (by kernel_rfl) (by kernel_rfl) (fun _ _ _ h => h) (v := ?_) (by kernel_rfl) ?_ (by assumption) ?_; rotate_left; (focus (intro wS hSw; (have y0 := (hSw.cell (p := ⟨g, 0, none⟩) lg id).trans x0); go_simp; try with_reducible rfl)); (try simp only [Act.put, List.setIfInBounds_toArray, List.set_cons_zero, List.set_cons_succ]))
  (refine take_at 3 (some 9) rfl rfl (by kernel_rfl) (by kernel_rfl) (by kernel_rfl) (fun _ _ _ h => h) (v := ?_) (by kernel_rfl) ?_ (by assumption) ?_; rotate_left; (focus (intro wS hSw; have yl := (Hm3.out wS ((hSw.block _ lm2 id).trans hm2) k Hk.out).2; go_simp; try with_reducible rfl)); (try simp only [Act.put, List.setIfInBounds_toArray, List.set_cons_zero, List.set_cons_succ]))
  (refine take_at 4 (some 10) rfl rfl (by kernel_rfl) (by kernel_rfl) (by kernel_rfl) (fun _ _ _ h => h) (v := ?_) (by kernel_rfl) ?_ (by assumption) ?_; rotate_left; (focus (intro wS hSw; skip; go_simp; try with_reducible rfl)); (try simp only [Act.put, List.setIfInBounds_toArray, List.set_cons_zero, List.set_cons_succ]))
  (refine take_at 5 (some 11) rfl rfl (by kernel_rfl) (by kernel_rfl) (by kernel_rfl) (fun _ _ _ h => h) (v := ?_) (by kernel_rfl) ?_ (by assumption) ?_; rotate_left; (focus (intro wS hSw; (have y1 := (hSw.cell (p := ⟨g, 1, none⟩) lg id).trans x1); (have y2 := (hSw.cell (p := ⟨g, 2, none⟩) lg id).trans x2); go_simp; try with_reducible rfl)); (try simp only [Act.put, List.setIfInBounds_toArray, List.set_cons_zero, List.set_cons_succ]))
  (refine take_at 7 (some 13) rfl rfl (by kernel_rfl) (by kernel_rfl) (by kernel_rfl) (fun _ _ _ h => h) (v := ?_) (by kernel_rfl) ?_ (by assumption) ?_; rotate_left; (focus (intro wS hSw; skip; go_simp; try with_reducible rfl)); (try simp only [Act.put, List.setIfInBounds_toArray, List.set_cons_zero, List.set_cons_succ]))
  (refine take_at 8 (some 14) rfl rfl (by kernel_rfl) (by kernel_rfl) (by kernel_rfl) (fun _ _ _ h => h) (v := ?_) (by kernel_rfl) ?_ (by assumption) ?_; rotate_left; (focus (intro wS hSw; (have y3 := (hSw.cell (p := ⟨g, 3, none⟩) lg id).trans x3); (have y4 := (hSw.cell (p := ⟨g, 4, none⟩) lg id).trans x4); go_simp; try with_reducible rfl)); (try simp only [Act.put, List.setIfInBounds_toArray, List.set_cons_zero, List.set_cons_succ]))
  clear x0 x1 x2 x3 x4 hm1 hm2
  refine wpAnyH_ready (rs := [6]) (by kernel_rfl) (by simp) ?_
  refine AllReadyH.cons rfl (fun K hK => ?_) AllReadyH.nil
  go_simp
  go_at_call 38
  refine (P1.out _ (Ht.out.low (Hn.out.trans hHeld (fun _ _ h => h)))).mono ?_
  rintro e u ⟨rfl, hp⟩
  have hn : NoW v0 u := Fp.trans hHeld hp (fun _ _ h => h)
  clear hp hHeld
  refine hK.out _ _ hn (fun hHeld => ?_)
  clear hK K hn
  try simp only [Act.put, List.setIfInBounds_toArray, List.set_cons_zero, List.set_cons_succ]
  refine wpAnyH_ready (rs := [9]) (by kernel_rfl) (by simp) ?_
  refine AllReadyH.cons rfl (fun K hK => ?_) AllReadyH.nil
  go_simp
  go_at_call 38
  refine (P2.out _ (Ht.out.low (Hn.out.trans hHeld (fun _ _ h => h)))).mono ?_
  rintro e u ⟨rfl, hp⟩
  have hn : NoW v0 u := Fp.trans hHeld hp (fun _ _ h => h)
  clear hp hHeld
  refine hK.out _ _ hn (fun hHeld => ?_)
  clear hK K hn
  try simp only [Act.put, List.setIfInBounds_toArray, List.set_cons_zero, List.set_cons_succ]
  refine wpAnyH_ready (rs := [10]) (by kernel_rfl) (by simp) ?_
  refine AllReadyH.cons rfl (fun K hK => ?_) AllReadyH.nil
  go_simp
  refine hK.out _ _ (hHeld.alloc _) (fun hHeld2 => ?_)
  clear hK K
  try simp only [Act.put, List.setIfInBounds_toArray, List.set_cons_zero, List.set_cons_succ]
  refine wpAnyH_ready (rs := [11]) (by kernel_rfl) (by simp) ?_
  refine AllReadyH.cons rfl (fun K hK => ?_) AllReadyH.nil
  go_simp
  go_at_call 37
  refine (join_ok _ 3 3 [wordOf k, withT 58 a p, withT 58 b q] _ ?_ (by simp) rfl (by omega) Hl.out).mono ?_
  · intro j x hj; match j, hj with | 0, hj => (simp at hj; simp [← hj]) | 1, hj => (simp at hj; simp [← hj]) | 2, hj => (simp at hj; simp [← hj]) | j + 3, hj => simp at hj
  rintro e u2 ⟨rfl, hp⟩
  have hn : NoW v0 u2 := Fp.trans hHeld2 hp (fun _ _ h => h)
  clear hp hHeld hHeld2
  refine hK.out _ _ hn (fun hHeld => ?_)
  clear hK K hn
  try simp only [Act.put, List.setIfInBounds_toArray, List.set_cons_zero, List.set_cons_succ]
  refine wpAnyH_ready (rs := [12]) (by kernel_rfl) (by simp) ?_
  refine AllReadyH.cons rfl (fun K hK => ?_) AllReadyH.nil
  go_simp
  refine hK.out _ _ hHeld (fun hHeld => ?_)
  clear hK K
  try simp only [Act.put, List.setIfInBounds_toArray, List.set_cons_zero, List.set_cons_succ]
  refine wpAnyH_done (by kernel_rfl) ?_ _
  go_wp2_with fail
  go_ret
  exact ⟨rfl, Hn.out.trans hHeld (fun _ _ h => h)⟩
end Go.Proofs.YtmghjaoodnkjlaaGreatDoor
namespace Go.Proofs.YtmghjaoodnkjlaaGreatDoor
set_option linter.unusedVariables false
set_option linter.unusedSimpArgs false
open Go.RowKit Go.Lib Go.Sort

/-- 'append' of one element that lies in a block of its own, where it comes up in a drawn region. -/
theorem op_append1 {P : Program} {w : World} {o : Oper} {a : Act} {K : Act → World → Prop} {Q : Exit → Act → World → Prop} (s x : Operand) (t : TypeId)
    (ho : o.op = .call { callee := .builtin .append, args := #[s, x], argTypes := #[t, t] })
    (base : Nat) (e : TypeId) (z : Value) (size : Nat) (ht : P.underlying t = some (.slice e)) (hi : ∃ i, P.info? e = some i ∧ i.zero = some z ∧ i.size = size ∧ i.bytes ≤ 65536)
    (hzs : z.cells.size = size) (hsz : 0 < size) (v : Value) (n : Nat) (xs : List Value) (hs : a.eval s = v) (hown : w.ownsRow base e size v n xs)
    (g : Nat) (news : List Value) (hx : a.eval x = .slice (some ⟨g, 0, none⟩) 1 1) (hl : news.length = size) (hnews : w.heap[g]? = some (.cells news.toArray e (0, 0))) (h1 : ∀ u ∈ news, u.oneCell' = true)
    (hn : n + 1 ≤ 1048576) (hbase : base ≤ w.heap.size)
    (h : ∀ v' w', w'.ownsRow base e size v' (n + 1) (xs ++ news) → w.grownBy w' v.ownBlock → K (a.put o.dst v') w') : Oper.wp P o a w K Q := by
  obtain ⟨i, hi, hz, rfl, hb⟩ := hi
  have hnews' : ∀ j u, news[j]? = some u → w.cell? ((⟨g, 0, none⟩ : Addr).add j) = some u := by
    intro j u hj
    have e : (⟨g, 0, none⟩ : Addr).add j = ⟨g, j, none⟩ := by unfold Addr.add; split <;> simp_all
    rw [e]
    simp [World.cell?, hnews, hj]
  obtain ⟨v', w', hr, h2, h3, h4⟩ := run_append_own (P := P) w base t o.type e i z i.size i.bytes ht hi hz rfl rfl hzs hsz v n xs hown ⟨g, 0, none⟩ 1 1 news (by omega) hnews' h1 (by unfold maxLen; omega) (by have := Nat.mul_le_mul hn hb; omega) hbase
  unfold Oper.wp execOp
  simp only [ho, resolve, invoke, builtin, Sem.run_bind, Sem.run_pure, Result.andThen_ok, List.map_toArray, List.map_cons, List.map_nil, hs, hx, hr]
  exact h v' w' h2 h3

/-- A hold's text; an entry's. -/
def holdT (oa op ia ip : Nat → Nat) (i : Nat) : List UInt8 := withT 58 (oa i) (op i) ++ 61 :: withT 58 (ia i) (ip i)
def rowsT (r a p b q r2 a2 p2 b2 q2 st dl : Nat) (oa op ia ip : Nat → Nat) (n : Nat) : List (List UInt8) := [tupT r a p b q, [124], tupT r2 a2 p2 b2 q2, decDigits st, decDigits dl] ++ (List.range n).map (holdT oa op ia ip)
def entT (r a p b q r2 a2 p2 b2 q2 st dl : Nat) (oa op ia ip : Nat → Nat) (n : Nat) : List UInt8 := joinB (rowsT r a p b q r2 a2 p2 b2 q2 st dl oa op ia ip n)
theorem joinB_len (m : Nat) : ∀ ps : List (List UInt8), (∀ p ∈ ps, p.length ≤ m) → (joinB ps).length ≤ ps.length * (m + 1)
  | [], _ => by simp [joinB, List.intercalate]
  | [x], h => by have := h x (by simp); simp [joinB, List.intercalate]; omega
  | x :: y :: l, h => by
    have ih := joinB_len m (y :: l) (fun p hp => h p (by simp at hp ⊢; exact .inr hp))
    have := h x (by simp)
    have e : joinB (x :: y :: l) = x ++ 32 :: joinB (y :: l) := by simp [joinB, List.intercalate]
    rw [e]
    simp only [List.length_append, List.length_cons] at *
    have : (l.length + 1 + 1) * (m + 1) = (l.length + 1) * (m + 1) + (m + 1) := by rw [Nat.add_mul (l.length + 1) 1]; omega
    omega

end Go.Proofs.YtmghjaoodnkjlaaGreatDoor
