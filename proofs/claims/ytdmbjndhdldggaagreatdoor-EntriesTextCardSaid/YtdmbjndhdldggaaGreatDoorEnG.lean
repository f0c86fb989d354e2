/- Chapter 18: strings.Join of a row of texts; tuples.Text (written by genent.py). -/
import Derived.Test.YtdmbjndhdldggaaGreatDoorEnC
import Derived.Test.YtdmbjndhdldggaaGreatDoorEnA
namespace Go.Proofs.YtdmbjndhdldggaaGreatDoor
set_option linter.unusedVariables false
set_option linter.unusedSimpArgs false
open Go.RowKit Go.Lib Go.Sort

/-- Texts with a blank between. -/
def joinB (ps : List (List UInt8)) : List UInt8 := List.intercalate [32] ps
theorem join_lenB (ps : List (List UInt8)) : ps.length ≤ (joinB ps).length + 1 := by
  induction ps with
  | nil => simp
  | cons a l ih => cases l with
    | nil => simp [joinB, List.intercalate]
    | cons b l => simp [joinB, List.intercalate] at ih ⊢; omega
theorem join_ok (g n c : Nat) (ps : List (List UInt8)) (w : World) (hc : ∀ j x, ps[j]? = some x → w.cell? ⟨g, j, none⟩ = some (str x)) (hg : g < w.heap.size) (hn : ps.length = n) (hnc : n ≤ c) (hs : (joinB ps).length ≤ 100000) :
    Calls Tryz.prog 21 #[.slice (some ⟨g, 0, none⟩) n c, .string ⟨#[32]⟩] w (Ret1 (str (joinB ps)) w) := by
  subst hn
  have e : Lib.join ((ps.map fun p => (⟨p.toArray⟩ : ByteArray)).map (·.data.toList)) (⟨#[32]⟩ : ByteArray).data.toList = joinB ps := by
    have : ((ps.map fun p => (⟨p.toArray⟩ : ByteArray)).map (·.data.toList)) = ps := by simp [Function.comp_def]
    rw [this]; rfl
  have hj := Tryz.strings_Join g 0 c (ps.map fun p => (⟨p.toArray⟩ : ByteArray)) ⟨#[32]⟩ w (fun j x hx => by
    rw [List.getElem?_map] at hx
    rcases hp : ps[j]? with _ | p
    · simp [hp] at hx
    · simp only [hp, Option.map_some, Option.some.injEq] at hx
      rw [Nat.zero_add, ← hx]
      exact hc j p hp) hg (by simp; have := join_lenB ps; omega) (by simpa using hnc) (by rw [e]; omega)
  rw [e] at hj
  simp only [List.length_map] at hj
  refine (show Calls _ _ _ _ _ from hj).mono ?_
  rintro e w2 ⟨rfl, hb2⟩
  exact ⟨rfl, Fp.of_below hb2⟩

/-- A tuple's text. -/
def tupT (k a p b q : Nat) : List UInt8 := joinB [wordOf k, withT 58 a p, withT 58 b q]
theorem wordOf_len (k : Nat) : (wordOf k).length ≤ 4 := by unfold wordOf; split <;> (try split) <;> (try split) <;> simp
theorem withT_len (a p : Nat) (ha : a < 4294967296) (hp : p < 65536) : (withT 58 a p).length ≤ 40 := by
  have hl1 := addrT_len ha
  have hl2 := dec_len 5 p (by omega) (by omega)
  simp [withT]; omega
theorem tupT_len (k a p b q : Nat) (ha : a < 4294967296) (hp : p < 65536) (hb : b < 4294967296) (hq : q < 65536) : (tupT k a p b q).length ≤ 100 := by
  have h1 := wordOf_len k
  have h2 := withT_len a p ha hp
  have h3 := withT_len b q hb hq
  simp [tupT, joinB, List.intercalate]; omega

set_option maxHeartbeats 4000000 in
theorem tup_text (k a p b q : Nat) (hk : k < 256) (ha : a < 4294967296) (hpp : p < 65536) (hb : b < 4294967296) (hq : q < 65536) (h : tupB k p q = true) (w : World) (ht : Tb w) :
    Calls Tryz.prog 18 #[.agg #[.int .u8 k, .int .u32 a, .int .u16 p, .int .u32 b, .int .u16 q]] w (Ret1 (str (tupT k a p b q)) w) := by
  have Ht := Lib.hid ht
  have kt := fun W hW => tup_ok k a p b q hk W hW
  rw [h] at kt
  have Kt := Lib.hid kt
  have P1 := Lib.hid (fun W (hW : Tb W) => point_text a ha p hpp W hW)
  have P2 := Lib.hid (fun W (hW : Tb W) => point_text b hb q hq W hW)
  have Hl := Lib.hid (show (joinB [wordOf k, withT 58 a p, withT 58 b q]).length ≤ 100000 from Nat.le_trans (tupT_len k a p b q ha hpp hb hq) (by omega))
  have Hk := Lib.hid hk
  clear ht kt h ha hpp hb hq hk
  go_enter Tryz.func18, Tryz.ntmps18
  go_wp2_with fail
  have hw0 : NoW w (w.alloc (.cells #[.int .u8 k, .int .u32 a, .int .u16 p, .int .u32 b, .int .u16 q] 28)) := (Fp.refl _ _).alloc _
  have hb0 : (w.alloc (.cells #[.int .u8 k, .int .u32 a, .int .u16 p, .int .u32 b, .int .u16 q] 28)).heap[w.heap.size]? = some (.cells #[.int .u8 k, .int .u32 a, .int .u16 p, .int .u32 b, .int .u16 q] 28) := heap_alloc_new _ _
  generalize w.alloc (.cells #[.int .u8 k, .int .u32 a, .int .u16 p, .int .u32 b, .int .u16 q] 28) = w0 at *
  generalize w.heap.size = g at *
  refine (Kt.out _ (Ht.out.low hw0)).mono ?_
  rintro e v0 ⟨rfl, hp⟩
  have hb := (hp.block _ (Array.getElem?_eq_some_iff.1 hb0).1 id).trans hb0
  have Hn := Lib.hid (hw0.trans hp (fun _ _ h => h))
  clear hp hw0 hb0
  have x0 : v0.cell? ⟨g, 0, none⟩ = some (.int .u8 k) := by simp [World.cell?, hb]
  have x1 : v0.cell? ⟨g, 1, none⟩ = some (.int .u32 a) := by simp [World.cell?, hb]
  have x2 : v0.cell? ⟨g, 2, none⟩ = some (.int .u16 p) := by simp [World.cell?, hb]
  have x3 : v0.cell? ⟨g, 3, none⟩ = some (.int .u32 b) := by simp [World.cell?, hb]
  have x4 : v0.cell? ⟨g, 4, none⟩ = some (.int .u16 q) := by simp [World.cell?, hb]

  have lg : g < v0.heap.size := cell_lt x0
  clear hb
  obtain ⟨bm, o, hm1, hm2, hm3⟩ := (Ht.out.low Hn.out).words
  have lm := cell_lt hm1
  have lm2 := (Array.getElem?_eq_some_iff.1 hm2).1
  have Hm3 := Lib.hid hm3
  clear hm3
  go_wp2_with fail
  refine wp_region_held_drew (S := fun wx => NoW v0 wx) (by kernel_rfl) (Fp.drew (Fp.refl _ _)) (fun hHeld => ?_)
  (refine take_at 0 (some 6) rfl rfl (by kernel_rfl) (by kernel_rfl) (by kernel_rfl) (fun _ _ _ h => h) (v := ?_) (by kernel_rfl) ?_ (by assumption) ?_; rotate_left; (focus (intro wS hSw; have ym := (hSw.cell (p := ⟨0, 0, none⟩) lm id).trans hm1; go_simp; try with_reducible rfl)); (try simp only [Act.put, List.setIfInBounds_toArray, List.set_cons_zero, List.set_cons_succ]))
  (refine take_at 1 (some 7) rfl rfl (by kernel_rfl) (by kernel_rfl) (by kernel_rfl) (fun _ _ _ h => h) (v := ?_) (by kernel_rfl) ?_ (by assumption) ?_; rotate_left; (focus (intro wS hSw; skip; go_simp; try with_reducible rfl)); (try simp only [Act.put, List.setIfInBounds_toArray, List.set_cons_zero, List.set_cons_succ]))
  (refine take_at 2 (some 8) rfl rfl (by kernel_rfl) (by kernel_rfl) (by kernel_rfl) (fun _ _ _ h => h) (v := ?_) (by kernel_rfl) ?_ (by assumption) ?_; rotate_left; (focus (intro wS hSw; (have y0 := (hSw.cell (p := ⟨g, 0, none⟩) lg id).trans x0); go_simp; try with_reducible rfl)); (try simp only [Act.put, List.setIfInBounds_toArray, List.set_cons_zero, List.set_cons_succ]))
  (refine take_at 3 (some 9) rfl rfl (by kernel_rfl) (by kernel_rfl) (by kernel_rfl) (fun _ _ _ h => h) (v := ?_) (by kernel_rfl) ?_ (by assumption) ?_; rotate_left; (focus (intro wS hSw; have yl := (Hm3.out wS ((hSw.block _ lm2 id).trans hm2) k Hk.out).2; go_simp; try with_reducible rfl)); (try simp only [Act.put, List.setIfInBounds_toArray, List.set_cons_zero, List.set_cons_succ]))
  (refine take_at 4 (some 10) rfl rfl (by kernel_rfl) (by kernel_rfl) (by kernel_rfl) (fun _ _ _ h => h) (v := ?_) (by kernel_rfl) ?_ (by assumption) ?_; rotate_left; (focus (intro wS hSw; skip; go_simp; try with_reducible rfl)); (try simp only [Act.put, List.setIfInBounds_toArray, List.set_cons_zero, List.set_cons_succ]))
  (refine take_at 5 (some 11) rfl rfl (by kernel_rfl) (by kernel_rfl) (by kernel_rfl) (fun _ _ _ h => h) (v := ?_) (by kernel_rfl) ?_ (by assumption) ?_; rotate_left; (focus (intro wS hSw; (have y1 := (hSw.cell (p := ⟨g, 1, none⟩) lg id).trans x1); (have y2 := (hSw.cell (p := ⟨g, 2, none⟩) lg id).trans x2); go_simp; try with_reducible rfl)); (try simp only [Act.put, List.setIfInBounds_toArray, List.set_cons_zero, List.set_cons_succ]))
  (refine take_at 7 (some 13) rfl rfl (by kernel_rfl) (by kernel_rfl) (by kernel_rfl) (fun _ _ _ h => h) (v := ?_) (by kernel_rfl) ?_ (by assumption) ?_; rotate_left; (focus (intro wS hSw; skip; go_simp; try with_reducible rfl)); (try simp only [Act.put, List.setIfInBounds_toArray, List.set_cons_zero, List.set_cons_succ]))
  (refine take_at 8 (some 14) rfl rfl (by kernel_rfl) (by kernel_rfl) (by kernel_rfl) (fun _ _ _ h => h) (v := ?_) (by kernel_rfl) ?_ (by assumption) ?_; rotate_left; (focus (intro wS hSw; (have y3 := (hSw.cell (p := ⟨g, 3, none⟩) lg id).trans x3); (have y4 := (hSw.cell (p := ⟨g, 4, none⟩) lg id).trans x4); go_simp; try with_reducible rfl)); (try simp only [Act.put, List.setIfInBounds_toArray, List.set_cons_zero, List.set_cons_succ]))
  clear x0 x1 x2 x3 x4 hm1 hm2
  refine wpAnyH_ready (rs := [6]) (by kernel_rfl) (by simp) ?_
  refine AllReadyH.cons rfl (fun K hK => ?_) AllReadyH.nil
  go_simp
  go_at_call 20
  refine (P1.out _ (Ht.out.low (Hn.out.trans hHeld (fun _ _ h => h)))).mono ?_
  rintro e u ⟨rfl, hp⟩
  have hn : NoW v0 u := Fp.trans hHeld hp (fun _ _ h => h)
  clear hp hHeld
  refine hK.out _ _ hn (fun hHeld => ?_)
  clear hK K hn
  try simp only [Act.put, List.setIfInBounds_toArray, List.set_cons_zero, List.set_cons_succ]
  refine wpAnyH_ready (rs := [9]) (by kernel_rfl) (by simp) ?_
  refine AllReadyH.cons rfl (fun K hK => ?_) AllReadyH.nil
  go_simp
  go_at_call 20
  refine (P2.out _ (Ht.out.low (Hn.out.trans hHeld (fun _ _ h => h)))).mono ?_
  rintro e u ⟨rfl, hp⟩
  have hn : NoW v0 u := Fp.trans hHeld hp (fun _ _ h => h)
  clear hp hHeld
  refine hK.out _ _ hn (fun hHeld => ?_)
  clear hK K hn
  try simp only [Act.put, List.setIfInBounds_toArray, List.set_cons_zero, List.set_cons_succ]
  refine wpAnyH_ready (rs := [10]) (by kernel_rfl) (by simp) ?_
  refine AllReadyH.cons rfl (fun K hK => ?_) AllReadyH.nil
  go_simp
  refine hK.out _ _ (hHeld.alloc _) (fun hHeld2 => ?_)
  clear hK K
  try simp only [Act.put, List.setIfInBounds_toArray, List.set_cons_zero, List.set_cons_succ]
  refine wpAnyH_ready (rs := [11]) (by kernel_rfl) (by simp) ?_
  refine AllReadyH.cons rfl (fun K hK => ?_) AllReadyH.nil
  go_simp
  go_at_call 21
  refine (join_ok _ 3 3 [wordOf k, withT 58 a p, withT 58 b q] _ ?_ (by simp) rfl (by omega) Hl.out).mono ?_
  · intro j x hj; match j, hj with | 0, hj => (simp at hj; simp [← hj]) | 1, hj => (simp at hj; simp [← hj]) | 2, hj => (simp at hj; simp [← hj]) | j + 3, hj => simp at hj
  rintro e u2 ⟨rfl, hp⟩
  have hn : NoW v0 u2 := Fp.trans hHeld2 hp (fun _ _ h => h)
  clear hp hHeld hHeld2
  refine hK.out _ _ hn (fun hHeld => ?_)
  clear hK K hn
  try simp only [Act.put, List.setIfInBounds_toArray, List.set_cons_zero, List.set_cons_succ]
  refine wpAnyH_ready (rs := [12]) (by kernel_rfl) (by simp) ?_
  refine AllReadyH.cons rfl (fun K hK => ?_) AllReadyH.nil
  go_simp
  refine hK.out _ _ hHeld (fun hHeld => ?_)
  clear hK K
  try simp only [Act.put, List.setIfInBounds_toArray, List.set_cons_zero, List.set_cons_succ]
  refine wpAnyH_done (by kernel_rfl) ?_ _
  go_wp2_with fail
  go_ret
  exact ⟨rfl, Hn.out.trans hHeld (fun _ _ h => h)⟩
end Go.Proofs.YtdmbjndhdldggaaGreatDoor
