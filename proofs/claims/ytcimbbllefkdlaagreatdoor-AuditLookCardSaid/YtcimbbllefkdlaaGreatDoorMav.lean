/- Texts of this proof, merged: Avl. -/
import Derived.Test.YtcimbbllefkdlaaGreatDoorMaq
import Derived.Test.YtcimbbllefkdlaaGreatDoorMau
import Derived.Test.YtcimbbllefkdlaaGreatDoorMaa
import Derived.Test.YtcimbbllefkdlaaGreatDoorMab
import Derived.Test.YtcimbbllefkdlaaGreatDoorMac
import Derived.Test.YtcimbbllefkdlaaGreatDoorMad
import Derived.Test.YtcimbbllefkdlaaGreatDoorMae
import Derived.Test.YtcimbbllefkdlaaGreatDoorMaf
import Derived.Test.YtcimbbllefkdlaaGreatDoorMag
import Derived.Test.YtcimbbllefkdlaaGreatDoorMah
import Derived.Test.YtcimbbllefkdlaaGreatDoorMai
import Derived.Test.YtcimbbllefkdlaaGreatDoorMaj
import Derived.Test.YtcimbbllefkdlaaGreatDoorMak
import Derived.Test.YtcimbbllefkdlaaGreatDoorMal
import Derived.Test.YtcimbbllefkdlaaGreatDoorMam
import Derived.Test.YtcimbbllefkdlaaGreatDoorMan
import Derived.Test.YtcimbbllefkdlaaGreatDoorMao
import Derived.Test.YtcimbbllefkdlaaGreatDoorMap
import Derived.Test.YtcimbbllefkdlaaGreatDoorMar
import Derived.Test.YtcimbbllefkdlaaGreatDoorMas
import Derived.Test.YtcimbbllefkdlaaGreatDoorMat
namespace Go.Proofs.YtcimbbllefkdlaaGreatDoor
set_option linter.unusedVariables false
set_option linter.unusedSimpArgs false
open Go.RowKit Go.Lib Go.Sort
set_option maxHeartbeats 8000000 in
set_option maxRecDepth 100000 in
theorem doc_new (r a p b q r2 a2 p2 b2 q2 : Nat) (st dl : Int) (ad : Option Addr) (n c : Nat) (oa op ia ip : Nat → Nat) (hn : n ≤ 100) (w : World) (hh : HoldsIn w ad n (holdsV oa op ia ip n)) :
    Calls Tryz.prog 26 #[.agg #[.int .u8 r, .int .u32 a, .int .u16 p, .int .u32 b, .int .u16 q, .int .u8 r2, .int .u32 a2, .int .u16 p2, .int .u32 b2, .int .u16 q2, .int .i64 st, .int .i64 dl, .slice ad n c]] w fun e w' => ∃ o' c', e = .returned (.agg #[.int .u8 r, .int .u32 a, .int .u16 p, .int .u32 b, .int .u16 q, .int .u8 r2, .int .u32 a2, .int .u16 p2, .int .u32 b2, .int .u16 q2, .int .i64 st, .int .i64 dl, .slice o' n c']) ∧ n ≤ c' ∧ (0 < n → ∃ hb, o' = some ⟨hb, 0, none⟩ ∧ w.heap.size ≤ hb ∧ Holds w' hb 0 n (holdsV oa op ia ip n)) ∧ NoW w w' := by
  have Hh := Lib.hid hh
  clear hh
  go_enter Tryz.func26, Tryz.ntmps26
  go_wp2_with fail
  have hw0 : NoW w (((w.alloc (.cells #[.int .u8 r, .int .u32 a, .int .u16 p, .int .u32 b, .int .u16 q, .int .u8 r2, .int .u32 a2, .int .u16 p2, .int .u32 b2, .int .u16 q2, .int .i64 st, .int .i64 dl, .slice ad n c] 52)).alloc (.cells #[.int .u8 0, .int .u32 0, .int .u16 0, .int .u32 0, .int .u16 0, .int .u8 0, .int .u32 0, .int .u16 0, .int .u32 0, .int .u16 0, .int .i64 0, .int .i64 0, .slice none 0 0] 69)).alloc (.cells #[.int .u8 r, .int .u32 a, .int .u16 p, .int .u32 b, .int .u16 q, .int .u8 r2, .int .u32 a2, .int .u16 p2, .int .u32 b2, .int .u16 q2, .int .i64 st, .int .i64 dl, .slice none 0 0] 69)) := (((Fp.refl _ _).alloc _).alloc _).alloc _
  have h3 : (((w.alloc (.cells #[.int .u8 r, .int .u32 a, .int .u16 p, .int .u32 b, .int .u16 q, .int .u8 r2, .int .u32 a2, .int .u16 p2, .int .u32 b2, .int .u16 q2, .int .i64 st, .int .i64 dl, .slice ad n c] 52)).alloc (.cells #[.int .u8 0, .int .u32 0, .int .u16 0, .int .u32 0, .int .u16 0, .int .u8 0, .int .u32 0, .int .u16 0, .int .u32 0, .int .u16 0, .int .i64 0, .int .i64 0, .slice none 0 0] 69)).alloc (.cells #[.int .u8 r, .int .u32 a, .int .u16 p, .int .u32 b, .int .u16 q, .int .u8 r2, .int .u32 a2, .int .u16 p2, .int .u32 b2, .int .u16 q2, .int .i64 st, .int .i64 dl, .slice none 0 0] 69)).heap[w.heap.size + 1 + 1]? = some (.cells #[.int .u8 r, .int .u32 a, .int .u16 p, .int .u32 b, .int .u16 q, .int .u8 r2, .int .u32 a2, .int .u16 p2, .int .u32 b2, .int .u16 q2, .int .i64 st, .int .i64 dl, .slice none 0 0] 69) := by simpa using heap_alloc_new ((w.alloc (.cells #[.int .u8 r, .int .u32 a, .int .u16 p, .int .u32 b, .int .u16 q, .int .u8 r2, .int .u32 a2, .int .u16 p2, .int .u32 b2, .int .u16 q2, .int .i64 st, .int .i64 dl, .slice ad n c] 52)).alloc (.cells #[.int .u8 0, .int .u32 0, .int .u16 0, .int .u32 0, .int .u16 0, .int .u8 0, .int .u32 0, .int .u16 0, .int .u32 0, .int .u16 0, .int .i64 0, .int .i64 0, .slice none 0 0] 69)) (.cells #[.int .u8 r, .int .u32 a, .int .u16 p, .int .u32 b, .int .u16 q, .int .u8 r2, .int .u32 a2, .int .u16 p2, .int .u32 b2, .int .u16 q2, .int .i64 st, .int .i64 dl, .slice none 0 0] 69)
  obtain ⟨h1', h2'⟩ := box2 w (.cells #[.int .u8 r, .int .u32 a, .int .u16 p, .int .u32 b, .int .u16 q, .int .u8 r2, .int .u32 a2, .int .u16 p2, .int .u32 b2, .int .u16 q2, .int .i64 st, .int .i64 dl, .slice ad n c] 52) (.cells #[.int .u8 0, .int .u32 0, .int .u16 0, .int .u32 0, .int .u16 0, .int .u8 0, .int .u32 0, .int .u16 0, .int .u32 0, .int .u16 0, .int .i64 0, .int .i64 0, .slice none 0 0] 69)
  have hq : NoW ((w.alloc (.cells #[.int .u8 r, .int .u32 a, .int .u16 p, .int .u32 b, .int .u16 q, .int .u8 r2, .int .u32 a2, .int .u16 p2, .int .u32 b2, .int .u16 q2, .int .i64 st, .int .i64 dl, .slice ad n c] 52)).alloc (.cells #[.int .u8 0, .int .u32 0, .int .u16 0, .int .u32 0, .int .u16 0, .int .u8 0, .int .u32 0, .int .u16 0, .int .u32 0, .int .u16 0, .int .i64 0, .int .i64 0, .slice none 0 0] 69)) (((w.alloc (.cells #[.int .u8 r, .int .u32 a, .int .u16 p, .int .u32 b, .int .u16 q, .int .u8 r2, .int .u32 a2, .int .u16 p2, .int .u32 b2, .int .u16 q2, .int .i64 st, .int .i64 dl, .slice ad n c] 52)).alloc (.cells #[.int .u8 0, .int .u32 0, .int .u16 0, .int .u32 0, .int .u16 0, .int .u8 0, .int .u32 0, .int .u16 0, .int .u32 0, .int .u16 0, .int .i64 0, .int .i64 0, .slice none 0 0] 69)).alloc (.cells #[.int .u8 r, .int .u32 a, .int .u16 p, .int .u32 b, .int .u16 q, .int .u8 r2, .int .u32 a2, .int .u16 p2, .int .u32 b2, .int .u16 q2, .int .i64 st, .int .i64 dl, .slice none 0 0] 69)) := (Fp.refl _ _).alloc _
  have h1 := (hq.block _ (Array.getElem?_eq_some_iff.1 h1').1 id).trans h1'
  have h2 := (hq.block _ (Array.getElem?_eq_some_iff.1 h2').1 id).trans h2'
  clear hq h1' h2'
  generalize (((w.alloc (.cells #[.int .u8 r, .int .u32 a, .int .u16 p, .int .u32 b, .int .u16 q, .int .u8 r2, .int .u32 a2, .int .u16 p2, .int .u32 b2, .int .u16 q2, .int .i64 st, .int .i64 dl, .slice ad n c] 52)).alloc (.cells #[.int .u8 0, .int .u32 0, .int .u16 0, .int .u32 0, .int .u16 0, .int .u8 0, .int .u32 0, .int .u16 0, .int .u32 0, .int .u16 0, .int .i64 0, .int .i64 0, .slice none 0 0] 69)).alloc (.cells #[.int .u8 r, .int .u32 a, .int .u16 p, .int .u32 b, .int .u16 q, .int .u8 r2, .int .u32 a2, .int .u16 p2, .int .u32 b2, .int .u16 q2, .int .i64 st, .int .i64 dl, .slice none 0 0] 69)) = w0 at *
  obtain ⟨g1, hg1⟩ : ∃ g1, g1 = w.heap.size := ⟨_, rfl⟩
  rw [← hg1] at h1 h2 h3 ⊢
  obtain ⟨g2, hg2⟩ : ∃ g2, g2 = g1 + 1 := ⟨_, rfl⟩
  obtain ⟨g3, hg3⟩ : ∃ g3, g3 = g1 + 1 + 1 := ⟨_, rfl⟩
  rw [← hg3] at h3 ⊢
  rw [← hg2] at h2 ⊢
  have hlt12 : g1 < g2 := by omega
  have hlt23 : g2 < g3 := by omega
  have Hg3 := Lib.hid (show w.heap.size ≤ g3 by omega)
  have Hg1 := Lib.hid hg1
  have Hw0 := Lib.hid hw0
  have H1 := Lib.hid h1
  have H2 := Lib.hid h2
  have H3 := Lib.hid h3
  obtain ⟨B, hB⟩ : ∃ B, B = g3 + 1 := ⟨_, rfl⟩
  have HB := Lib.hid hB
  clear h1 h2 h3 hw0 hg1 hg2 hg3 hB
  go_loopg [4] (n + 1) (fun gg iv wx => ∃ (k : Nat) (v : Value), k ≤ n ∧ gg = n + 1 - k ∧ iv = .int .i64 (k : Int) ∧ wx.heap[g1]? = some (.cells #[.int .u8 r, .int .u32 a, .int .u16 p, .int .u32 b, .int .u16 q, .int .u8 r2, .int .u32 a2, .int .u16 p2, .int .u32 b2, .int .u16 q2, .int .i64 st, .int .i64 dl, .slice ad n c] 52) ∧ wx.heap[g2]? = some (.cells #[.int .u8 0, .int .u32 0, .int .u16 0, .int .u32 0, .int .u16 0, .int .u8 0, .int .u32 0, .int .u16 0, .int .u32 0, .int .u16 0, .int .i64 0, .int .i64 0, .slice none 0 0] 69) ∧ wx.heap[g3]? = some (.cells #[.int .u8 r, .int .u32 a, .int .u16 p, .int .u32 b, .int .u16 q, .int .u8 r2, .int .u32 a2, .int .u16 p2, .int .u32 b2, .int .u16 q2, .int .i64 st, .int .i64 dl, v] 69) ∧ wx.ownsRow B 114 4 v k (holdsV oa op ia ip k) ∧ NoW w wx)
  case atStart => exact ⟨0, _, by omega, by omega, rfl, H1.out, H2.out, H3.out, World.ownsRow_nil _ _ _ 4, Hw0.out⟩
  case round =>
    obtain ⟨k, v, hk, hg, rfl, hb1, hb2, hb3, hown, hf⟩ := hrel
    have Hg := Lib.hid hg
    have Hf := Lib.hid hf
    have Hown := Lib.hid hown
    have B1 := Lib.hid hb1
    have B2 := Lib.hid hb2
    have B3 := Lib.hid hb3
    have x12 : wr.cell? ⟨g1, 12, none⟩ = some (.slice ad n c) := by simp [World.cell?, hb1]
    have lg1 : g1 < wr.heap.size := cell_lt x12
    have y12 : wr.cell? ⟨g3, 12, none⟩ = some v := by simp [World.cell?, hb3]
    have lg3 : g3 < wr.heap.size := cell_lt y12
    clear hg hf hown hb1 hb2 hb3
    by_cases hlt : k < n
    · obtain ⟨hb, ho, rfl, hh⟩ := Hh.out (by omega)
      have hhr := hh.low Hf.out
      have h0 : wr.cell? ⟨hb, ho + k * 4, none⟩ = some (.int .u32 (oa k)) := hhr.cell (k * 4 + 0) _ (holdsV_get oa op ia ip n k 0 hlt (by omega))
      have h1 : wr.cell? ⟨hb, ho + k * 4 + 1, none⟩ = some (.int .u16 (op k)) := hhr.cell (k * 4 + 1) _ (holdsV_get oa op ia ip n k 1 hlt (by omega))
      have h2 : wr.cell? ⟨hb, ho + k * 4 + 2, none⟩ = some (.int .u32 (ia k)) := hhr.cell (k * 4 + 2) _ (holdsV_get oa op ia ip n k 2 hlt (by omega))
      have h3 : wr.cell? ⟨hb, ho + k * 4 + 3, none⟩ = some (.int .u16 (ip k)) := hhr.cell (k * 4 + 3) _ (holdsV_get oa op ia ip n k 3 hlt (by omega))

      have lhb : hb < wr.heap.size := hhr.lt
      have hbw : hb < w.heap.size := hh.lt
      have hn1 : ¬ g3 ≤ g1 := by omega
      have hnh : ¬ g3 ≤ hb := by have h1 := Hg1.out; omega
      have hBw : B ≤ wr.heap.size := by have h1 := HB.out; omega
      have hB3 : g3 < B := by have h1 := HB.out; omega
      have hkk : decide ((k : Int) < (n : Int)) = true := decide_eq_true (by omega)
      clear hh hhr hbw
      go_wp2_with fail
      have hHf := Hf.out
      refine wp_region_held_drew (S := fun wx => Fp (fun b => g3 ≤ b) wr wx) (by kernel_rfl) (Fp.drew (Fp.refl _ _)) (fun hHeld => ?_)
      (refine tk 0 (some 21) ?_ ?_ ?_; rotate_left; (focus (intro wS hSw; go_simp; try with_reducible rfl)); (try simp only [Act.put, List.setIfInBounds_toArray, List.set_cons_zero, List.set_cons_succ]))
      (refine tk 2 (some 23) ?_ ?_ ?_; rotate_left; (focus (intro wS hSw; go_simp; try with_reducible rfl)); (try simp only [Act.put, List.setIfInBounds_toArray, List.set_cons_zero, List.set_cons_succ]))
      (refine tk 3 (some 24) ?_ ?_ ?_; rotate_left; (focus (intro wS hSw; (have q12 := (hSw.cell (p := ⟨g1, 12, none⟩) lg1 hn1).trans x12); go_simp; try with_reducible rfl)); (try simp only [Act.put, List.setIfInBounds_toArray, List.set_cons_zero, List.set_cons_succ]))
      (refine tk 4 (some 25) ?_ ?_ ?_; rotate_left; (focus (intro wS hSw; go_simp; try with_reducible rfl)); (try simp only [Act.put, List.setIfInBounds_toArray, List.set_cons_zero, List.set_cons_succ]))
      (refine tk 5 (some 26) ?_ ?_ ?_; rotate_left; (focus (intro wS hSw; go_simp; try with_reducible rfl)); (try simp only [Act.put, List.setIfInBounds_toArray, List.set_cons_zero, List.set_cons_succ]))
      (refine tk 6 (some 27) ?_ ?_ ?_; rotate_left; (focus (intro wS hSw; (have q0 := (hSw.cell (p := ⟨hb, ho + k * 4, none⟩) lhb hnh).trans h0); (have q1 := (hSw.cell (p := ⟨hb, ho + k * 4 + 1, none⟩) lhb hnh).trans h1); (have q2 := (hSw.cell (p := ⟨hb, ho + k * 4 + 2, none⟩) lhb hnh).trans h2); (have q3 := (hSw.cell (p := ⟨hb, ho + k * 4 + 3, none⟩) lhb hnh).trans h3); go_simp; try with_reducible rfl)); (try simp only [Act.put, List.setIfInBounds_toArray, List.set_cons_zero, List.set_cons_succ]))
      refine wpAnyH_ready (rs := [1, 7]) (by kernel_rfl) (by simp) ?_
      refine AllReadyH.cons rfl (fun K hK => ?_) (AllReadyH.cons rfl (fun K hK => ?_) AllReadyH.nil)
      · have c12 : wr.drew.cell? ⟨g3, 12, none⟩ = some v := y12
        go_simp
        refine hK.out _ _ hHeld (fun hHeld2 => ?_)
        clear hK K
        try simp only [Act.put, List.setIfInBounds_toArray, List.set_cons_zero, List.set_cons_succ]
        refine wpAnyH_ready (rs := [7]) (by kernel_rfl) (by simp) ?_
        refine AllReadyH.cons rfl (fun K hK => ?_) AllReadyH.nil
        go_simp
        refine hK.out _ _ (Fp.drew ((Fp.refl _ _).alloc (.cells #[.int .u32 (oa k), .int .u16 (op k), .int .u32 (ia k), .int .u16 (ip k)] 114))) (fun hHeld9 => ?_)
        clear hK K hHeld hHeld2 c12
        try simp only [Act.put, List.setIfInBounds_toArray, List.set_cons_zero, List.set_cons_succ]
        have hown1 : ((wr.alloc (.cells #[.int .u32 (oa k), .int .u16 (op k), .int .u32 (ia k), .int .u16 (ip k)] 114)).drew).ownsRow B 114 4 v k (holdsV oa op ia ip k) := ownsRow_of_block Hown.out fun x e => ((Fp.refl (fun _ => False) wr).alloc (.cells #[.int .u32 (oa k), .int .u16 (op k), .int .u32 (ia k), .int .u16 (ip k)] 114)).block x (World.ownsRow.lt Hown.out x e).2 id
        have hub : ((wr.alloc (.cells #[.int .u32 (oa k), .int .u16 (op k), .int .u32 (ia k), .int .u16 (ip k)] 114)).drew).heap[wr.heap.size]? = some (.cells #[.int .u32 (oa k), .int .u16 (op k), .int .u32 (ia k), .int .u16 (ip k)] 114) := heap_alloc_new wr (.cells #[.int .u32 (oa k), .int .u16 (op k), .int .u32 (ia k), .int .u16 (ip k)] 114)
        have hf1 : Fp (fun b => g3 < b) wr ((wr.alloc (.cells #[.int .u32 (oa k), .int .u16 (op k), .int .u32 (ia k), .int .u16 (ip k)] 114)).drew) := Fp.drew ((Fp.refl _ wr).alloc (.cells #[.int .u32 (oa k), .int .u16 (op k), .int .u32 (ia k), .int .u16 (ip k)] 114))
        have hsu : B ≤ ((wr.alloc (.cells #[.int .u32 (oa k), .int .u16 (op k), .int .u32 (ia k), .int .u16 (ip k)] 114)).drew).heap.size := Nat.le_trans hBw hf1.size
        clear Hown
        generalize (wr.alloc (.cells #[.int .u32 (oa k), .int .u16 (op k), .int .u32 (ia k), .int .u16 (ip k)] 114)).drew = u9 at *
        refine wpAnyH_ready (rs := [8]) (by kernel_rfl) (by simp) ?_
        refine AllReadyH.cons rfl (fun K hK => ?_) AllReadyH.nil
        rw [if_pos (by kernel_rfl)]
        refine op_append1 _ _ 67 rfl B 114 rholdZ 4 Tryz.underlying67 infoRHold rfl (by decide) v k _ rfl hown1 wr.heap.size [.int .u32 (oa k), .int .u16 (op k), .int .u32 (ia k), .int .u16 (ip k)] rfl rfl hub ?_ ?_ ?_ ?_
        · intro x hx; simp at hx; rcases hx with rfl | rfl | rfl | rfl <;> rfl
        · omega
        · exact hsu
        intro v2 w3 hown3 hgr3
        obtain ⟨gv, cv, rfl⟩ : ∃ gv cv, v2 = .slice (some ⟨gv, 0, none⟩) (k + 1) cv := by rcases hown3.2 with ⟨_, h⟩ | ⟨g, cap, cur, e, _⟩; (omega); exact ⟨g, cap, e⟩
        have hf3 : Fp (fun b => g3 < b) wr w3 := Fp.grown hf1 hgr3 (fun x e => Or.inr (by have h1 := (World.ownsRow.lt hown1 x e).1; omega))
        have b1 := (hf3.block _ (Array.getElem?_eq_some_iff.1 B1.out).1 (by omega)).trans B1.out
        have b2 := (hf3.block _ (Array.getElem?_eq_some_iff.1 B2.out).1 (by omega)).trans B2.out
        have b3 := (hf3.block _ (Array.getElem?_eq_some_iff.1 B3.out).1 (by omega)).trans B3.out
        refine hK.out _ _ (hf3.mono (fun i _ h => Nat.le_of_lt h)) (fun hHeld3 => ?_)
        clear hK K
        try simp only [Act.put, List.setIfInBounds_toArray, List.set_cons_zero, List.set_cons_succ]
        have Hf3 := Lib.hid hf3
        have Hown3 := Lib.hid hown3
        have C1 := Lib.hid b1
        have C2 := Lib.hid b2
        have C3 := Lib.hid b3
        have k12 : w3.cell? ⟨g3, 12, none⟩ = some v := by simp [World.cell?, b3]
        have z12 : w3.frozen? ⟨g3, 12, none⟩ = false := by simp [World.frozen?, b3]
        clear b1 b2 b3 hf3 hown3 hgr3 hown1 hub hf1 hsu y12
        have hHeld := hHeld3
        (refine tk 9 (some 30) ?_ ?_ ?_; rotate_left; (focus (intro wS hSw; go_simp; try with_reducible rfl)); (try simp only [Act.put, List.setIfInBounds_toArray, List.set_cons_zero, List.set_cons_succ]))
        clear hHeld
        refine wpAnyH_ready (rs := [10]) (by kernel_rfl) (by simp) ?_
        refine AllReadyH.cons rfl (fun K hK => ?_) AllReadyH.nil
        go_simp
        refine hK.out _ _ (hHeld3.setCell (p := ⟨g3, 12, none⟩) (Or.inr (Nat.le_refl _)) (.slice (some ⟨gv, 0, none⟩) (k + 1) cv)) (fun hHeld4 => ?_)
        clear hK K hHeld3 k12 z12
        try simp only [Act.put, List.setIfInBounds_toArray, List.set_cons_zero, List.set_cons_succ]
        refine wpAnyH_done (by kernel_rfl) ?_ _
        have hb3 := heap_set w3 g3 12 _ _ (.slice (some ⟨gv, 0, none⟩) (k + 1) cv) C3.out
        simp only [List.setIfInBounds_toArray, List.set_cons_zero, List.set_cons_succ] at hb3
        have hb1 := (heap_set_other w3 g3 g1 12 (.slice (some ⟨gv, 0, none⟩) (k + 1) cv) (by omega)).trans C1.out
        have hb2 := (heap_set_other w3 g3 g2 12 (.slice (some ⟨gv, 0, none⟩) (k + 1) cv) (by omega)).trans C2.out
        have hrow : holdsV oa op ia ip (k + 1) = holdsV oa op ia ip k ++ [.int .u32 (oa k), .int .u16 (op k), .int .u32 (ia k), .int .u16 (ip k)] := holdsV_succ _ _ _ _ _
        have hown4 : (w3.setCell ⟨g3, 12, none⟩ (.slice (some ⟨gv, 0, none⟩) (k + 1) cv)).ownsRow B 114 4 (.slice (some ⟨gv, 0, none⟩) (k + 1) cv) (k + 1) (holdsV oa op ia ip (k + 1)) := by rw [hrow]; exact ownsRow_of_block Hown3.out fun x e => heap_set_other w3 g3 x 12 (.slice (some ⟨gv, 0, none⟩) (k + 1) cv) (by have := (World.ownsRow.lt Hown3.out x e).1; omega)
        have hnw : NoW w (w3.setCell ⟨g3, 12, none⟩ (.slice (some ⟨gv, 0, none⟩) (k + 1) cv)) := (Hf.out.trans Hf3.out (fun i hi e => by have h1 : g3 < i := e; have h2 := Hg3.out; omega)).setCell (p := ⟨g3, 12, none⟩) (Or.inl (by have h1 := Hg3.out; omega)) (.slice (some ⟨gv, 0, none⟩) (k + 1) cv)
        have D1 := Lib.hid hb1
        have D2 := Lib.hid hb2
        have D3 := Lib.hid hb3
        have D4 := Lib.hid hown4
        have D5 := Lib.hid hnw
        clear hb1 hb2 hb3 hown4 hnw hrow Hown3 Hf3 C1 C2 C3 hHeld4
        generalize w3.setCell ⟨g3, 12, none⟩ (.slice (some ⟨gv, 0, none⟩) (k + 1) cv) = w4 at *
        go_wp2_with fail
        go_roundg (n - k)
        case measure => have := Hg.out; omega
        case rel => exact ⟨k + 1, (.slice (some ⟨gv, 0, none⟩) (k + 1) cv), by omega, by omega, by go_num, D1.out, D2.out, D3.out, D4.out, D5.out⟩
      · go_simp
        refine hK.out _ _ (Fp.drew ((Fp.refl _ _).alloc (.cells #[.int .u32 (oa k), .int .u16 (op k), .int .u32 (ia k), .int .u16 (ip k)] 114))) (fun hHeld9 => ?_)
        clear hK K
        try simp only [Act.put, List.setIfInBounds_toArray, List.set_cons_zero, List.set_cons_succ]
        have c12 : (wr.alloc (.cells #[.int .u32 (oa k), .int .u16 (op k), .int .u32 (ia k), .int .u16 (ip k)] 114)).drew.cell? ⟨g3, 12, none⟩ = some v := (((Fp.refl (fun _ => False) wr).alloc (.cells #[.int .u32 (oa k), .int .u16 (op k), .int .u32 (ia k), .int .u16 (ip k)] 114)).cell (p := ⟨g3, 12, none⟩) lg3 id).trans y12
        refine wpAnyH_ready (rs := [1]) (by kernel_rfl) (by simp) ?_
        refine AllReadyH.cons rfl (fun K hK => ?_) AllReadyH.nil
        go_simp
        refine hK.out _ _ hHeld9 (fun hHeld2 => ?_)
        clear hK K hHeld hHeld9 hHeld2 c12
        try simp only [Act.put, List.setIfInBounds_toArray, List.set_cons_zero, List.set_cons_succ]
        have hown1 : ((wr.alloc (.cells #[.int .u32 (oa k), .int .u16 (op k), .int .u32 (ia k), .int .u16 (ip k)] 114)).drew).ownsRow B 114 4 v k (holdsV oa op ia ip k) := ownsRow_of_block Hown.out fun x e => ((Fp.refl (fun _ => False) wr).alloc (.cells #[.int .u32 (oa k), .int .u16 (op k), .int .u32 (ia k), .int .u16 (ip k)] 114)).block x (World.ownsRow.lt Hown.out x e).2 id
        have hub : ((wr.alloc (.cells #[.int .u32 (oa k), .int .u16 (op k), .int .u32 (ia k), .int .u16 (ip k)] 114)).drew).heap[wr.heap.size]? = some (.cells #[.int .u32 (oa k), .int .u16 (op k), .int .u32 (ia k), .int .u16 (ip k)] 114) := heap_alloc_new wr (.cells #[.int .u32 (oa k), .int .u16 (op k), .int .u32 (ia k), .int .u16 (ip k)] 114)
        have hf1 : Fp (fun b => g3 < b) wr ((wr.alloc (.cells #[.int .u32 (oa k), .int .u16 (op k), .int .u32 (ia k), .int .u16 (ip k)] 114)).drew) := Fp.drew ((Fp.refl _ wr).alloc (.cells #[.int .u32 (oa k), .int .u16 (op k), .int .u32 (ia k), .int .u16 (ip k)] 114))
        have hsu : B ≤ ((wr.alloc (.cells #[.int .u32 (oa k), .int .u16 (op k), .int .u32 (ia k), .int .u16 (ip k)] 114)).drew).heap.size := Nat.le_trans hBw hf1.size
        clear Hown
        generalize (wr.alloc (.cells #[.int .u32 (oa k), .int .u16 (op k), .int .u32 (ia k), .int .u16 (ip k)] 114)).drew = u9 at *
        refine wpAnyH_ready (rs := [8]) (by kernel_rfl) (by simp) ?_
        refine AllReadyH.cons rfl (fun K hK => ?_) AllReadyH.nil
        rw [if_pos (by kernel_rfl)]
        refine op_append1 _ _ 67 rfl B 114 rholdZ 4 Tryz.underlying67 infoRHold rfl (by decide) v k _ rfl hown1 wr.heap.size [.int .u32 (oa k), .int .u16 (op k), .int .u32 (ia k), .int .u16 (ip k)] rfl rfl hub ?_ ?_ ?_ ?_
        · intro x hx; simp at hx; rcases hx with rfl | rfl | rfl | rfl <;> rfl
        · omega
        · exact hsu
        intro v2 w3 hown3 hgr3
        obtain ⟨gv, cv, rfl⟩ : ∃ gv cv, v2 = .slice (some ⟨gv, 0, none⟩) (k + 1) cv := by rcases hown3.2 with ⟨_, h⟩ | ⟨g, cap, cur, e, _⟩; (omega); exact ⟨g, cap, e⟩
        have hf3 : Fp (fun b => g3 < b) wr w3 := Fp.grown hf1 hgr3 (fun x e => Or.inr (by have h1 := (World.ownsRow.lt hown1 x e).1; omega))
        have b1 := (hf3.block _ (Array.getElem?_eq_some_iff.1 B1.out).1 (by omega)).trans B1.out
        have b2 := (hf3.block _ (Array.getElem?_eq_some_iff.1 B2.out).1 (by omega)).trans B2.out
        have b3 := (hf3.block _ (Array.getElem?_eq_some_iff.1 B3.out).1 (by omega)).trans B3.out
        refine hK.out _ _ (hf3.mono (fun i _ h => Nat.le_of_lt h)) (fun hHeld3 => ?_)
        clear hK K
        try simp only [Act.put, List.setIfInBounds_toArray, List.set_cons_zero, List.set_cons_succ]
        have Hf3 := Lib.hid hf3
        have Hown3 := Lib.hid hown3
        have C1 := Lib.hid b1
        have C2 := Lib.hid b2
        have C3 := Lib.hid b3
        have k12 : w3.cell? ⟨g3, 12, none⟩ = some v := by simp [World.cell?, b3]
        have z12 : w3.frozen? ⟨g3, 12, none⟩ = false := by simp [World.frozen?, b3]
        clear b1 b2 b3 hf3 hown3 hgr3 hown1 hub hf1 hsu y12
        have hHeld := hHeld3
        (refine tk 9 (some 30) ?_ ?_ ?_; rotate_left; (focus (intro wS hSw; go_simp; try with_reducible rfl)); (try simp only [Act.put, List.setIfInBounds_toArray, List.set_cons_zero, List.set_cons_succ]))
        clear hHeld
        refine wpAnyH_ready (rs := [10]) (by kernel_rfl) (by simp) ?_
        refine AllReadyH.cons rfl (fun K hK => ?_) AllReadyH.nil
        go_simp
        refine hK.out _ _ (hHeld3.setCell (p := ⟨g3, 12, none⟩) (Or.inr (Nat.le_refl _)) (.slice (some ⟨gv, 0, none⟩) (k + 1) cv)) (fun hHeld4 => ?_)
        clear hK K hHeld3 k12 z12
        try simp only [Act.put, List.setIfInBounds_toArray, List.set_cons_zero, List.set_cons_succ]
        refine wpAnyH_done (by kernel_rfl) ?_ _
        have hb3 := heap_set w3 g3 12 _ _ (.slice (some ⟨gv, 0, none⟩) (k + 1) cv) C3.out
        simp only [List.setIfInBounds_toArray, List.set_cons_zero, List.set_cons_succ] at hb3
        have hb1 := (heap_set_other w3 g3 g1 12 (.slice (some ⟨gv, 0, none⟩) (k + 1) cv) (by omega)).trans C1.out
        have hb2 := (heap_set_other w3 g3 g2 12 (.slice (some ⟨gv, 0, none⟩) (k + 1) cv) (by omega)).trans C2.out
        have hrow : holdsV oa op ia ip (k + 1) = holdsV oa op ia ip k ++ [.int .u32 (oa k), .int .u16 (op k), .int .u32 (ia k), .int .u16 (ip k)] := holdsV_succ _ _ _ _ _
        have hown4 : (w3.setCell ⟨g3, 12, none⟩ (.slice (some ⟨gv, 0, none⟩) (k + 1) cv)).ownsRow B 114 4 (.slice (some ⟨gv, 0, none⟩) (k + 1) cv) (k + 1) (holdsV oa op ia ip (k + 1)) := by rw [hrow]; exact ownsRow_of_block Hown3.out fun x e => heap_set_other w3 g3 x 12 (.slice (some ⟨gv, 0, none⟩) (k + 1) cv) (by have := (World.ownsRow.lt Hown3.out x e).1; omega)
        have hnw : NoW w (w3.setCell ⟨g3, 12, none⟩ (.slice (some ⟨gv, 0, none⟩) (k + 1) cv)) := (Hf.out.trans Hf3.out (fun i hi e => by have h1 : g3 < i := e; have h2 := Hg3.out; omega)).setCell (p := ⟨g3, 12, none⟩) (Or.inl (by have h1 := Hg3.out; omega)) (.slice (some ⟨gv, 0, none⟩) (k + 1) cv)
        have D1 := Lib.hid hb1
        have D2 := Lib.hid hb2
        have D3 := Lib.hid hb3
        have D4 := Lib.hid hown4
        have D5 := Lib.hid hnw
        clear hb1 hb2 hb3 hown4 hnw hrow Hown3 Hf3 C1 C2 C3 hHeld4
        generalize w3.setCell ⟨g3, 12, none⟩ (.slice (some ⟨gv, 0, none⟩) (k + 1) cv) = w4 at *
        go_wp2_with fail
        go_roundg (n - k)
        case measure => have := Hg.out; omega
        case rel => exact ⟨k + 1, (.slice (some ⟨gv, 0, none⟩) (k + 1) cv), by omega, by omega, by go_num, D1.out, D2.out, D3.out, D4.out, D5.out⟩

    · obtain rfl : k = n := by omega
      obtain ⟨o', c', rfl, hnc, hin⟩ : ∃ o' c', v = .slice o' k c' ∧ k ≤ c' ∧ (0 < k → ∃ b', o' = some ⟨b', 0, none⟩ ∧ Holds wr b' 0 k (holdsV oa op ia ip k) ∧ B ≤ b') := by
        by_cases hv : v = .slice none 0 0
        · subst hv
          have h0 : k = 0 := by
            rcases Hown.out.2 with ⟨_, h⟩ | ⟨g, cap, cur, e, _⟩
            · exact h
            · cases e
          subst h0
          exact ⟨none, 0, rfl, Nat.le_refl _, fun h => absurd h (by omega)⟩
        · obtain ⟨b', c', e, hc', hB', hh'⟩ := holds_of_ownR Hown.out (holdsV_one oa op ia ip k) hv
          exact ⟨_, c', e, hc', fun _ => ⟨b', rfl, hh', hB'⟩⟩
      have Hin := Lib.hid hin
      have Hnc := Lib.hid hnc
      clear hin hnc y12 Hown
      have y0 : wr.cell? ⟨g3, 0, none⟩ = some (.int .u8 r) := by simp [World.cell?, B3.out]
      have y1 : wr.cell? ⟨g3, 1, none⟩ = some (.int .u32 a) := by simp [World.cell?, B3.out]
      have y2 : wr.cell? ⟨g3, 2, none⟩ = some (.int .u16 p) := by simp [World.cell?, B3.out]
      have y3 : wr.cell? ⟨g3, 3, none⟩ = some (.int .u32 b) := by simp [World.cell?, B3.out]
      have y4 : wr.cell? ⟨g3, 4, none⟩ = some (.int .u16 q) := by simp [World.cell?, B3.out]
      have y5 : wr.cell? ⟨g3, 5, none⟩ = some (.int .u8 r2) := by simp [World.cell?, B3.out]
      have y6 : wr.cell? ⟨g3, 6, none⟩ = some (.int .u32 a2) := by simp [World.cell?, B3.out]
      have y7 : wr.cell? ⟨g3, 7, none⟩ = some (.int .u16 p2) := by simp [World.cell?, B3.out]
      have y8 : wr.cell? ⟨g3, 8, none⟩ = some (.int .u32 b2) := by simp [World.cell?, B3.out]
      have y9 : wr.cell? ⟨g3, 9, none⟩ = some (.int .u16 q2) := by simp [World.cell?, B3.out]
      have y10 : wr.cell? ⟨g3, 10, none⟩ = some (.int .i64 st) := by simp [World.cell?, B3.out]
      have y11 : wr.cell? ⟨g3, 11, none⟩ = some (.int .i64 dl) := by simp [World.cell?, B3.out]
      have y12 : wr.cell? ⟨g3, 12, none⟩ = some (.slice o' k c') := by simp [World.cell?, B3.out]
      have z0 : wr.cell? ⟨g2, 0, none⟩ = some (.int .u8 0) := by simp [World.cell?, B2.out]
      have zz0 : wr.frozen? ⟨g2, 0, none⟩ = false := by simp [World.frozen?, B2.out]
      have z1 : wr.cell? ⟨g2, 1, none⟩ = some (.int .u32 0) := by simp [World.cell?, B2.out]
      have zz1 : wr.frozen? ⟨g2, 1, none⟩ = false := by simp [World.frozen?, B2.out]
      have z2 : wr.cell? ⟨g2, 2, none⟩ = some (.int .u16 0) := by simp [World.cell?, B2.out]
      have zz2 : wr.frozen? ⟨g2, 2, none⟩ = false := by simp [World.frozen?, B2.out]
      have z3 : wr.cell? ⟨g2, 3, none⟩ = some (.int .u32 0) := by simp [World.cell?, B2.out]
      have zz3 : wr.frozen? ⟨g2, 3, none⟩ = false := by simp [World.frozen?, B2.out]
      have z4 : wr.cell? ⟨g2, 4, none⟩ = some (.int .u16 0) := by simp [World.cell?, B2.out]
      have zz4 : wr.frozen? ⟨g2, 4, none⟩ = false := by simp [World.frozen?, B2.out]
      have z5 : wr.cell? ⟨g2, 5, none⟩ = some (.int .u8 0) := by simp [World.cell?, B2.out]
      have zz5 : wr.frozen? ⟨g2, 5, none⟩ = false := by simp [World.frozen?, B2.out]
      have z6 : wr.cell? ⟨g2, 6, none⟩ = some (.int .u32 0) := by simp [World.cell?, B2.out]
      have zz6 : wr.frozen? ⟨g2, 6, none⟩ = false := by simp [World.frozen?, B2.out]
      have z7 : wr.cell? ⟨g2, 7, none⟩ = some (.int .u16 0) := by simp [World.cell?, B2.out]
      have zz7 : wr.frozen? ⟨g2, 7, none⟩ = false := by simp [World.frozen?, B2.out]
      have z8 : wr.cell? ⟨g2, 8, none⟩ = some (.int .u32 0) := by simp [World.cell?, B2.out]
      have zz8 : wr.frozen? ⟨g2, 8, none⟩ = false := by simp [World.frozen?, B2.out]
      have z9 : wr.cell? ⟨g2, 9, none⟩ = some (.int .u16 0) := by simp [World.cell?, B2.out]
      have zz9 : wr.frozen? ⟨g2, 9, none⟩ = false := by simp [World.frozen?, B2.out]
      have z10 : wr.cell? ⟨g2, 10, none⟩ = some (.int .i64 0) := by simp [World.cell?, B2.out]
      have zz10 : wr.frozen? ⟨g2, 10, none⟩ = false := by simp [World.frozen?, B2.out]
      have z11 : wr.cell? ⟨g2, 11, none⟩ = some (.int .i64 0) := by simp [World.cell?, B2.out]
      have zz11 : wr.frozen? ⟨g2, 11, none⟩ = false := by simp [World.frozen?, B2.out]
      have z12 : wr.cell? ⟨g2, 12, none⟩ = some (.slice none 0 0) := by simp [World.cell?, B2.out]
      have zz12 : wr.frozen? ⟨g2, 12, none⟩ = false := by simp [World.frozen?, B2.out]

      go_wp2_with fail
      obtain ⟨W, hW, hb2, hf2⟩ := set13 wr g2 69 (.int .u8 0) (.int .u32 0) (.int .u16 0) (.int .u32 0) (.int .u16 0) (.int .u8 0) (.int .u32 0) (.int .u16 0) (.int .u32 0) (.int .u16 0) (.int .i64 0) (.int .i64 0) (.slice none 0 0) B2.out (.int .u8 r) (.int .u32 a) (.int .u16 p) (.int .u32 b) (.int .u16 q) (.int .u8 r2) (.int .u32 a2) (.int .u16 p2) (.int .u32 b2) (.int .u16 q2) (.int .i64 st) (.int .i64 dl) (.slice o' k c')
      rw [← hW]
      have Hf2 := Lib.hid hf2
      clear hW hf2
      clear y0 y1 y2 y3 y4 y5 y6 y7 y8 y9 y10 y11 y12
      clear z0 zz0 z1 zz1 z2 zz2 z3 zz3 z4 zz4 z5 zz5 z6 zz6 z7 zz7 z8 zz8 z9 zz9 z10 zz10 z11 zz11 z12 zz12
      have y0 : W.cell? ⟨g2, 0, none⟩ = some (.int .u8 r) := by simp [World.cell?, (Lib.hid hb2).out]
      have y1 : W.cell? ⟨g2, 1, none⟩ = some (.int .u32 a) := by simp [World.cell?, (Lib.hid hb2).out]
      have y2 : W.cell? ⟨g2, 2, none⟩ = some (.int .u16 p) := by simp [World.cell?, (Lib.hid hb2).out]
      have y3 : W.cell? ⟨g2, 3, none⟩ = some (.int .u32 b) := by simp [World.cell?, (Lib.hid hb2).out]
      have y4 : W.cell? ⟨g2, 4, none⟩ = some (.int .u16 q) := by simp [World.cell?, (Lib.hid hb2).out]
      have y5 : W.cell? ⟨g2, 5, none⟩ = some (.int .u8 r2) := by simp [World.cell?, (Lib.hid hb2).out]
      have y6 : W.cell? ⟨g2, 6, none⟩ = some (.int .u32 a2) := by simp [World.cell?, (Lib.hid hb2).out]
      have y7 : W.cell? ⟨g2, 7, none⟩ = some (.int .u16 p2) := by simp [World.cell?, (Lib.hid hb2).out]
      have y8 : W.cell? ⟨g2, 8, none⟩ = some (.int .u32 b2) := by simp [World.cell?, (Lib.hid hb2).out]
      have y9 : W.cell? ⟨g2, 9, none⟩ = some (.int .u16 q2) := by simp [World.cell?, (Lib.hid hb2).out]
      have y10 : W.cell? ⟨g2, 10, none⟩ = some (.int .i64 st) := by simp [World.cell?, (Lib.hid hb2).out]
      have y11 : W.cell? ⟨g2, 11, none⟩ = some (.int .i64 dl) := by simp [World.cell?, (Lib.hid hb2).out]
      have y12 : W.cell? ⟨g2, 12, none⟩ = some (.slice o' k c') := by simp [World.cell?, (Lib.hid hb2).out]

      refine bodyPost_ret (v := .agg #[.int .u8 r, .int .u32 a, .int .u16 p, .int .u32 b, .int .u16 q, .int .u8 r2, .int .u32 a2, .int .u16 p2, .int .u32 b2, .int .u16 q2, .int .i64 st, .int .i64 dl, .slice o' k c']) (by simp only [results, Tryz.results26]; go_simp) rfl ⟨o', c', rfl, Hnc.out, ?_, ?_⟩
      · intro hk0
        obtain ⟨b', e, hh', hB'⟩ := Hin.out hk0
        exact ⟨b', e, (by have h1 := HB.out; have h2 := Hg3.out; omega), hh'.len, fun j x hj => (Hf2.out.cell (p := ⟨b', 0 + j, none⟩) hh'.lt (fun e => by have h1 := HB.out; have h2 : b' = g2 := e; omega)).trans (hh'.cell j x hj), hh'.one, Nat.lt_of_lt_of_le hh'.lt Hf2.out.size⟩
      · exact Hf.out.trans Hf2.out (fun i hi e => by have h1 : i = g2 := e; have h2 := Hg1.out; omega)
/-- append of one element, in a drawn region: where it lies is told too. -/
theorem op_append1w {P : Program} {w : World} {o : Oper} {a : Act} {K : Act → World → Prop} {Q : Exit → Act → World → Prop} (s x : Operand) (t : TypeId)
    (ho : o.op = .call { callee := .builtin .append, args := #[s, x], argTypes := #[t, t] })
    (base : Nat) (e : TypeId) (z : Value) (size : Nat) (ht : P.underlying t = some (.slice e)) (hi : ∃ i, P.info? e = some i ∧ i.zero = some z ∧ i.size = size ∧ i.bytes ≤ 65536)
    (hzs : z.cells.size = size) (hsz : 0 < size) (v : Value) (n : Nat) (xs : List Value) (hs : a.eval s = v) (hown : w.ownsRow base e size v n xs)
    (g : Nat) (news : List Value) (hx : a.eval x = .slice (some ⟨g, 0, none⟩) 1 1) (hl : news.length = size) (hnews : w.heap[g]? = some (.cells news.toArray e (0, 0))) (h1 : ∀ u ∈ news, u.oneCell' = true)
    (hn : n + 1 ≤ 1048576) (hbase : base ≤ w.heap.size)
    (h : ∀ v' w', w'.ownsRow base e size v' (n + 1) (xs ++ news) → w.grownBy w' v.ownBlock → v' ≠ .slice none 0 0 → (v'.ownBlock = v.ownBlock ∨ v'.ownBlock = some w.heap.size) → K (a.put o.dst v') w') : Oper.wp P o a w K Q := by
  obtain ⟨i, hi, hz, rfl, hb⟩ := hi
  have hnews' : ∀ j u, news[j]? = some u → w.cell? ((⟨g, 0, none⟩ : Addr).add j) = some u := by
    intro j u hj
    have e : (⟨g, 0, none⟩ : Addr).add j = ⟨g, j, none⟩ := by unfold Addr.add; split <;> simp_all
    rw [e]
    simp [World.cell?, hnews, hj]
  obtain ⟨v', w', hr, h2, h3, h4⟩ := run_append_own (P := P) w base t o.type e i z i.size i.bytes ht hi hz rfl rfl hzs hsz v n xs hown ⟨g, 0, none⟩ 1 1 news (by omega) hnews' h1 (by unfold maxLen; omega) (by have := Nat.mul_le_mul hn hb; omega) hbase
  have h5 := append_where base t o.type e i z ht hi hz v n xs hown ⟨g, 0, none⟩ 1 1 news (by omega) hnews' h1 (by unfold maxLen; omega) (by have := Nat.mul_le_mul hn hb; omega) hr
  unfold Oper.wp execOp
  simp only [ho, resolve, invoke, builtin, Sem.run_bind, Sem.run_pure, Result.andThen_ok, List.map_toArray, List.map_cons, List.map_nil, hs, hx, hr]
  exact h v' w' h2 h3 (fun e => by have := h4.1 e; omega) h5
/-- The document's slot: the slot's cells, its holds elsewhere, a handle of nothing. -/
def slot18 (x : SlotD) (ad : Option Addr) (c : Nat) : List Value := ({ x with e := { x.e with ad := ad, c := c } } : SlotD).cs ++ [.int .i64 0, .int .u32 (0 : Nat)]
theorem slot18_len (x : SlotD) (ad : Option Addr) (c : Nat) : (slot18 x ad c).length = 18 := rfl
theorem slot18_one (x : SlotD) (ad : Option Addr) (c : Nat) : ∀ u ∈ slot18 x ad c, u.oneCell' = true := by
  intro u hu
  simp only [slot18, SlotD.cs, List.cons_append, List.nil_append, List.mem_cons, List.not_mem_nil, or_false] at hu
  rcases hu with rfl | rfl | rfl | rfl | rfl | rfl | rfl | rfl | rfl | rfl | rfl | rfl | rfl | rfl | rfl | rfl | rfl | rfl <;> rfl
/-- The first k elements el i have been appended to a list of the call's own; what some of them refer to (ys i) lies in blocks of its own. -/
structure LsAt (B : Nat) (w : World) (T : TypeId) (size k : Nat) (fv : Value) (el : Nat → List Value) (P : Nat → Prop) (ad : Nat → Option Addr) (ys : Nat → List Value) : Prop where
  row : w.ownsRow B T size fv k ((List.range k).flatMap el)
  own : ∀ i, i < k → P i → ∃ hb, ad i = some ⟨hb, 0, none⟩ ∧ B ≤ hb ∧ fv.ownBlock ≠ some hb ∧ hb < w.heap.size ∧ ∀ j x, (ys i)[j]? = some x → w.cell? ⟨hb, j, none⟩ = some x
section
variable {B : Nat} {w w' : World} {T : TypeId} {size k : Nat} {fv : Value} {el : Nat → List Value} {P : Nat → Prop} {ad : Nat → Option Addr} {ys : Nat → List Value}
theorem LsAt.fp {S : Nat → Prop} (h : LsAt B w T size k fv el P ad ys) (hf : Fp S w w') (hS : ∀ b, B ≤ b → ¬ S b) : LsAt B w' T size k fv el P ad ys :=
  ⟨ownsRow_of_block h.row fun x e => hf.block x (World.ownsRow.lt h.row x e).2 (hS x (World.ownsRow.lt h.row x e).1), fun i hi hp => by
    obtain ⟨hb, e, h1, h2, h3, h4⟩ := h.own i hi hp
    exact ⟨hb, e, h1, h2, Nat.lt_of_lt_of_le h3 hf.size, fun j x hj => (hf.cell (p := ⟨hb, j, none⟩) h3 (hS hb h1)).trans (h4 j x hj)⟩⟩
theorem LsAt.low (h : LsAt B w T size k fv el P ad ys) (hp : NoW w w') : LsAt B w' T size k fv el P ad ys := h.fp hp (fun _ _ h => h)
theorem LsAt.nil (B : Nat) (w : World) (T : TypeId) (size : Nat) (el : Nat → List Value) (P : Nat → Prop) (ad : Nat → Option Addr) (ys : Nat → List Value) : LsAt B w T size 0 (.slice none 0 0) el P ad ys := ⟨World.ownsRow_nil _ _ _ size, fun i hi => absurd hi (by omega)⟩
theorem grown_fp {row : Option Nat} (hg : w.grownBy w' row) : Fp (fun b => row = some b) w w' := Fp.grown (Fp.refl _ w) hg (fun k e => Or.inr e)
/-- What is new, and lies in a block that was made behind the list's own one. -/
def NewAt (B : Nat) (w : World) (fv : Value) (ad : Option Addr) (ys : List Value) : Prop := ∃ hb, ad = some ⟨hb, 0, none⟩ ∧ B ≤ hb ∧ fv.ownBlock ≠ some hb ∧ hb < w.heap.size ∧ ∀ j x, ys[j]? = some x → w.cell? ⟨hb, j, none⟩ = some x
theorem NewAt.low {a : Option Addr} {y : List Value} (h : NewAt B w fv a y) (hp : NoW w w') : NewAt B w' fv a y := by
  obtain ⟨hb, e, h1, h2, h3, h4⟩ := h
  exact ⟨hb, e, h1, h2, Nat.lt_of_lt_of_le h3 hp.size, fun j x hj => (hp.cell (p := ⟨hb, j, none⟩) h3 id).trans (h4 j x hj)⟩
theorem flatMap_range_congr {f g : Nat → List Value} (h : ∀ i, i < k → f i = g i) : (List.range k).flatMap f = (List.range k).flatMap g := by
  have hm : (List.range k).map f = (List.range k).map g := List.map_congr_left fun i hi => h i (List.mem_range.1 hi)
  simp only [List.flatMap_def]
  rw [hm]
theorem LsAt.push {v' : Value} {el' : Nat → List Value} {ad' : Nat → Option Addr} {news : List Value} (h : LsAt B w T size k fv el P ad ys) (hel : ∀ i, i < k → el' i = el i) (hel2 : el' k = news) (had : ∀ i, i < k → ad' i = ad i)
    (hn : P k → NewAt B w fv (ad' k) (ys k))
    (hown : w'.ownsRow B T size v' (k + 1) (((List.range k).flatMap el) ++ news)) (hg : w.grownBy w' fv.ownBlock) (hw : v'.ownBlock = fv.ownBlock ∨ v'.ownBlock = some w.heap.size) : LsAt B w' T size (k + 1) v' el' P ad' ys := by
  have hne : ∀ hb, fv.ownBlock ≠ some hb → hb < w.heap.size → v'.ownBlock ≠ some hb := by
    intro hb h1 h2 e
    rcases hw with h3 | h3
    · exact h1 (h3.symm.trans e)
    · rw [h3] at e; cases e; omega
  refine ⟨?_, fun i hi hp => ?_⟩
  · rw [List.range_succ, List.flatMap_append, flatMap_range_congr hel]
    simp only [List.flatMap_cons, List.flatMap_nil, List.append_nil]
    rw [hel2]
    exact hown
  · have key : NewAt B w fv (ad' i) (ys i) := by
      by_cases hik : i = k
      · subst hik; exact hn hp
      · obtain ⟨hb, e, h1⟩ := h.own i (by omega) hp
        exact ⟨hb, (had i (by omega)).trans e, h1⟩
    obtain ⟨hb, e, h1, h2, h3, h4⟩ := key
    exact ⟨hb, e, h1, hne hb h2 h3, Nat.lt_of_lt_of_le h3 hg.size, fun j x hj => ((grown_fp hg).cell (p := ⟨hb, j, none⟩) h3 h2).trans (h4 j x hj)⟩
theorem LsAt.lt (h : LsAt B w T size k fv el P ad ys) {b : Nat} (hb : fv.ownBlock = some b) : B ≤ b ∧ b < w.heap.size := World.ownsRow.lt h.row b hb
/-- The list's own blocks lie at B and beyond. -/
theorem LsAt.ne (h : LsAt B w T size k fv el P ad ys) {b : Nat} (hb : b < B) : ¬ fv.ownBlock = some b := fun e => by have := (h.lt e).1; omega
/-- The list, told element by element. -/
theorem LsAt.at' (h : LsAt B w T size k fv el P ad ys) (hl : ∀ i, (el i).length = size) : ∃ a c, fv = .slice a k c ∧ k ≤ c ∧ AtC w a k size el := by
  obtain ⟨hlen, h2⟩ := h.row
  rcases h2 with ⟨rfl, rfl⟩ | ⟨g, cap, cur, rfl, hg, hh, hcap, hcap2, hcs, htk⟩
  · exact ⟨none, 0, rfl, Nat.le_refl _, fun i hi => absurd hi (by omega)⟩
  · refine ⟨_, cap, rfl, hcap, fun i hi => ⟨g, 0, rfl, (Array.getElem?_eq_some_iff.1 hh).1, fun j x hj => ?_⟩⟩
    have hjl : j < size := by rw [← hl i]; exact (List.getElem?_eq_some_iff.1 hj).1
    have h5 : ((List.range k).flatMap el)[i * size + j]? = some x := by
      have hsum : ∀ m, m ≤ k → ((List.range m).flatMap el).length = m * size := by
        intro m
        induction m with
        | zero => intro _; simp
        | succ m ih => intro hm; rw [List.range_succ, List.flatMap_append, List.length_append, ih (by omega)]; simp [hl, Nat.succ_mul]
      obtain ⟨r, hr⟩ : ∃ r, (List.range k).flatMap el = (List.range i).flatMap el ++ (el i ++ r) := by
        obtain ⟨m, rfl⟩ : ∃ m, k = i + 1 + m := ⟨k - (i + 1), by omega⟩
        refine ⟨((List.range m).map (fun x => i + 1 + x)).flatMap el, ?_⟩
        rw [List.range_add, List.flatMap_append, List.range_succ, List.flatMap_append]
        simp
      rw [hr, List.getElem?_append_right (by rw [hsum i (by omega)]; omega), hsum i (by omega), Nat.add_sub_cancel_left, List.getElem?_append_left (by rw [hl]; exact hjl)]
      exact hj
    have := World.ownsRow.cells h.row (g := g) rfl (i * size + j) x h5
    rw [add_eq0] at this
    simpa using this
end
def upd {α : Type} (f : Nat → α) (k : Nat) (x : α) : Nat → α := fun i => if i = k then x else f i
theorem upd_same {α : Type} (f : Nat → α) (k : Nat) (x : α) : upd f k x k = x := by simp [upd]
theorem upd_lt {α : Type} (f : Nat → α) {k i : Nat} (x : α) (h : i < k) : upd f k x i = f i := by simp [upd]; omega
end Go.Proofs.YtcimbbllefkdlaaGreatDoor
