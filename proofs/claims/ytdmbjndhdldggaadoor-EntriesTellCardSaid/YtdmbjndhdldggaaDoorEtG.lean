/- The document's Touch (written by gentouch.py). -/
import Derived.Test.YtdmbjndhdldggaaDoorEtF
namespace Go.Proofs.YtdmbjndhdldggaaDoor
set_option linter.unusedVariables false
set_option linter.unusedSimpArgs false
open Go.RowKit Go.Lib Go.Sort

theorem holds_of_ownR {w : World} {B n : Nat} {v : Value} {ys : List Value} (h : w.ownsRow B 82 4 v n ys) (h1 : ∀ x ∈ ys, x.oneCell' = true) (hn : v ≠ .slice none 0 0) :
    ∃ b c, v = .slice (some ⟨b, 0, none⟩) n c ∧ n ≤ c ∧ B ≤ b ∧ Holds w b 0 n ys := by
  have hc := h
  obtain ⟨hl, h2⟩ := h
  rcases h2 with ⟨rfl, _⟩ | ⟨g, cap, cur, rfl, hB, hg, hcap, _⟩
  · exact absurd rfl hn
  · refine ⟨g, cap, rfl, hcap, hB, hl, fun j x hj => ?_, h1, (Array.getElem?_eq_some_iff.1 hg).1⟩
    have := World.ownsRow.cells hc rfl j x hj
    rw [add_eq] at this
    simpa using this

set_option maxHeartbeats 8000000 in
set_option maxRecDepth 100000 in
theorem rtouch_core (r a p b q r2 a2 p2 b2 q2 : Nat) (st dl : Int) (hb ho n c : Nat) (ys : List Value) (hn : n ≤ 100) (hn1 : 1 ≤ n) (bk : Bool) (fl now f nx tm : Int) (w : World) (ht : Tb w) (hh : Holds w hb ho n ys)
    (hd0 : decide (now < 0) = false) (hd1 : decide (1099511627776 < now) = false) (htm : IntKind.i64.wrap (now + tm) = now + tm)
    (k0 : ∀ W, Tb W → Calls Tryd.prog 23 #[.agg #[.int .u8 r, .int .u32 a, .int .u16 p, .int .u32 b, .int .u16 q, .int .u8 r2, .int .u32 a2, .int .u16 p2, .int .u32 b2, .int .u16 q2, .int .i64 st, .int .i64 dl, .slice (some ⟨hb, ho, none⟩) n c]] W (Ret1 (.bool true) W))
    (k1 : ∀ W, Calls Tryd.prog 47 #[.int .u8 r] W fun e w' => e = .returned (.int .i64 f) ∧ w' = W)
    (k2 : ∀ W, Calls Tryd.prog 48 #[.int .i64 f, .int .i64 st, .bool bk, .int .u8 fl] W fun e w' => e = .returned (.int .i64 nx) ∧ w' = W)
    (k3 : ∀ W, Calls Tryd.prog 49 #[.int .i64 f, .int .i64 nx] W (Ret1 (.int .i64 tm) W)) :
    Calls Tryd.prog 22 #[.agg #[.int .u8 r, .int .u32 a, .int .u16 p, .int .u32 b, .int .u16 q, .int .u8 r2, .int .u32 a2, .int .u16 p2, .int .u32 b2, .int .u16 q2, .int .i64 st, .int .i64 dl, .slice (some ⟨hb, ho, none⟩) n c], .bool bk, .int .u8 fl, .int .i64 now] w fun e w' => ∃ b' c', e = .returned (.tuple #[.agg #[.int .u8 r, .int .u32 a, .int .u16 p, .int .u32 b, .int .u16 q, .int .u8 r2, .int .u32 a2, .int .u16 p2, .int .u32 b2, .int .u16 q2, .int .i64 nx, .int .i64 (now + tm), .slice (some ⟨b', 0, none⟩) n c'], .int .i64 0]) ∧ n ≤ c' ∧ w.heap.size ≤ b' ∧ Holds w' b' 0 n ys ∧ NoW w w' := by
  have Hh := Lib.hid hh
  have Ht := Lib.hid ht
  have K0 := Lib.hid k0
  have K1 := Lib.hid k1
  have K2 := Lib.hid k2
  have K3 := Lib.hid k3
  clear hh ht k0 k1 k2 k3
  go_enter Tryd.func22, Tryd.ntmps22
  go_wp2_with fail
  have hw0 : NoW w ((w.alloc (.cells #[.int .u8 r, .int .u32 a, .int .u16 p, .int .u32 b, .int .u16 q, .int .u8 r2, .int .u32 a2, .int .u16 p2, .int .u32 b2, .int .u16 q2, .int .i64 st, .int .i64 dl, .slice (some ⟨hb, ho, none⟩) n c] 50)).alloc (.cells #[.int .u8 0, .int .u32 0, .int .u16 0, .int .u32 0, .int .u16 0, .int .u8 0, .int .u32 0, .int .u16 0, .int .u32 0, .int .u16 0, .int .i64 0, .int .i64 0, .slice none 0 0] 50)) := ((Fp.refl _ _).alloc _).alloc _
  obtain ⟨hc0, hr0⟩ := box2 w (.cells #[.int .u8 r, .int .u32 a, .int .u16 p, .int .u32 b, .int .u16 q, .int .u8 r2, .int .u32 a2, .int .u16 p2, .int .u32 b2, .int .u16 q2, .int .i64 st, .int .i64 dl, .slice (some ⟨hb, ho, none⟩) n c] 50) (.cells #[.int .u8 0, .int .u32 0, .int .u16 0, .int .u32 0, .int .u16 0, .int .u8 0, .int .u32 0, .int .u16 0, .int .u32 0, .int .u16 0, .int .i64 0, .int .i64 0, .slice none 0 0] 50)
  generalize (w.alloc (.cells #[.int .u8 r, .int .u32 a, .int .u16 p, .int .u32 b, .int .u16 q, .int .u8 r2, .int .u32 a2, .int .u16 p2, .int .u32 b2, .int .u16 q2, .int .i64 st, .int .i64 dl, .slice (some ⟨hb, ho, none⟩) n c] 50)).alloc (.cells #[.int .u8 0, .int .u32 0, .int .u16 0, .int .u32 0, .int .u16 0, .int .u8 0, .int .u32 0, .int .u16 0, .int .u32 0, .int .u16 0, .int .i64 0, .int .i64 0, .slice none 0 0] 50) = w0 at *
  have hge : w.heap.size ≤ w.heap.size + 1 := Nat.le_succ _
  have hne : ¬ w.heap.size = w.heap.size + 1 := by omega
  have Bc := Lib.hid hc0
  have By := Lib.hid hr0
  have Hw := Lib.hid hw0
  clear hc0 hr0 hw0
  generalize w.heap.size + 1 = g2 at *
  have Hge := Lib.hid hge
  obtain ⟨g, hg⟩ : ∃ g, g = w.heap.size := ⟨_, rfl⟩
  have Hg := Lib.hid hg
  rw [← hg] at hne Bc ⊢
  clear hg hge
  refine (K0.out _ (Ht.out.low Hw.out)).mono ?_
  rintro e v0 ⟨rfl, hp⟩
  have Hm0 := Lib.hid (Hw.out.trans hp (fun _ _ h => h))
  have hb0 := (hp.block _ (Array.getElem?_eq_some_iff.1 Bc.out).1 id).trans Bc.out
  clear Bc
  have Bc := Lib.hid hb0
  clear hb0
  have hb0 := (hp.block _ (Array.getElem?_eq_some_iff.1 By.out).1 id).trans By.out
  clear By
  have By := Lib.hid hb0
  clear hb0
  clear hp Hw
  have x0 : v0.cell? ⟨g, 0, none⟩ = some (.int .u8 r) := by simp [World.cell?, Bc.out]
  have x1 : v0.cell? ⟨g, 1, none⟩ = some (.int .u32 a) := by simp [World.cell?, Bc.out]
  have x2 : v0.cell? ⟨g, 2, none⟩ = some (.int .u16 p) := by simp [World.cell?, Bc.out]
  have x3 : v0.cell? ⟨g, 3, none⟩ = some (.int .u32 b) := by simp [World.cell?, Bc.out]
  have x4 : v0.cell? ⟨g, 4, none⟩ = some (.int .u16 q) := by simp [World.cell?, Bc.out]
  have x5 : v0.cell? ⟨g, 5, none⟩ = some (.int .u8 r2) := by simp [World.cell?, Bc.out]
  have x6 : v0.cell? ⟨g, 6, none⟩ = some (.int .u32 a2) := by simp [World.cell?, Bc.out]
  have x7 : v0.cell? ⟨g, 7, none⟩ = some (.int .u16 p2) := by simp [World.cell?, Bc.out]
  have x8 : v0.cell? ⟨g, 8, none⟩ = some (.int .u32 b2) := by simp [World.cell?, Bc.out]
  have x9 : v0.cell? ⟨g, 9, none⟩ = some (.int .u16 q2) := by simp [World.cell?, Bc.out]
  have x10 : v0.cell? ⟨g, 10, none⟩ = some (.int .i64 st) := by simp [World.cell?, Bc.out]
  have x11 : v0.cell? ⟨g, 11, none⟩ = some (.int .i64 dl) := by simp [World.cell?, Bc.out]
  have x12 : v0.cell? ⟨g, 12, none⟩ = some (.slice (some ⟨hb, ho, none⟩) n c) := by simp [World.cell?, Bc.out]
  have lg : g < v0.heap.size := cell_lt x0
  go_wp2_with fail
  refine (K1.out _).mono ?_
  rintro e v0y ⟨rfl, rfl⟩
  go_wp2_with fail
  refine (K2.out _).mono ?_
  rintro e v0z ⟨rfl, rfl⟩
  go_wp2_with fail
  refine wp_region_held_drew (S := fun wx => Fp (fun k => k = g2) v0z wx) (by kernel_rfl) (Fp.drew (Fp.refl _ _)) (fun hHeld => ?_)
  (refine take_at 0 (some 34) rfl rfl (by kernel_rfl) (by kernel_rfl) (by kernel_rfl) (fun _ _ _ h => h) (v := ?_) (by kernel_rfl) ?_ (by assumption) ?_; rotate_left; (focus (intro wS hSw; skip; go_simp; try with_reducible rfl)); (try simp only [Act.put, List.setIfInBounds_toArray, List.set_cons_zero, List.set_cons_succ]))
  (refine take_at 1 (some 35) rfl rfl (by kernel_rfl) (by kernel_rfl) (by kernel_rfl) (fun _ _ _ h => h) (v := ?_) (by kernel_rfl) ?_ (by assumption) ?_; rotate_left; (focus (intro wS hSw; (have q0 := (hSw.cell (p := ⟨g, 0, none⟩) lg hne).trans x0); (have q1 := (hSw.cell (p := ⟨g, 1, none⟩) lg hne).trans x1); (have q2 := (hSw.cell (p := ⟨g, 2, none⟩) lg hne).trans x2); (have q3 := (hSw.cell (p := ⟨g, 3, none⟩) lg hne).trans x3); (have q4 := (hSw.cell (p := ⟨g, 4, none⟩) lg hne).trans x4); go_simp; try with_reducible rfl)); (try simp only [Act.put, List.setIfInBounds_toArray, List.set_cons_zero, List.set_cons_succ]))
  (refine take_at 2 (some 36) rfl rfl (by kernel_rfl) (by kernel_rfl) (by kernel_rfl) (fun _ _ _ h => h) (v := ?_) (by kernel_rfl) ?_ (by assumption) ?_; rotate_left; (focus (intro wS hSw; skip; go_simp; try with_reducible rfl)); (try simp only [Act.put, List.setIfInBounds_toArray, List.set_cons_zero, List.set_cons_succ]))
  (refine take_at 3 (some 37) rfl rfl (by kernel_rfl) (by kernel_rfl) (by kernel_rfl) (fun _ _ _ h => h) (v := ?_) (by kernel_rfl) ?_ (by assumption) ?_; rotate_left; (focus (intro wS hSw; (have q5 := (hSw.cell (p := ⟨g, 5, none⟩) lg hne).trans x5); (have q6 := (hSw.cell (p := ⟨g, 6, none⟩) lg hne).trans x6); (have q7 := (hSw.cell (p := ⟨g, 7, none⟩) lg hne).trans x7); (have q8 := (hSw.cell (p := ⟨g, 8, none⟩) lg hne).trans x8); (have q9 := (hSw.cell (p := ⟨g, 9, none⟩) lg hne).trans x9); go_simp; try with_reducible rfl)); (try simp only [Act.put, List.setIfInBounds_toArray, List.set_cons_zero, List.set_cons_succ]))
  (refine take_at 4 (some 38) rfl rfl (by kernel_rfl) (by kernel_rfl) (by kernel_rfl) (fun _ _ _ h => h) (v := ?_) (by kernel_rfl) ?_ (by assumption) ?_; rotate_left; (focus (intro wS hSw; skip; go_simp; try with_reducible rfl)); (try simp only [Act.put, List.setIfInBounds_toArray, List.set_cons_zero, List.set_cons_succ]))
  (refine take_at 5 (some 39) rfl rfl (by kernel_rfl) (by kernel_rfl) (by kernel_rfl) (fun _ _ _ h => h) (v := ?_) (by kernel_rfl) ?_ (by assumption) ?_; rotate_left; (focus (intro wS hSw; skip; go_simp; try with_reducible rfl)); (try simp only [Act.put, List.setIfInBounds_toArray, List.set_cons_zero, List.set_cons_succ]))
  (refine take_at 6 (some 40) rfl rfl (by kernel_rfl) (by kernel_rfl) (by kernel_rfl) (fun _ _ _ h => h) (v := ?_) (by kernel_rfl) ?_ (by assumption) ?_; rotate_left; (focus (intro wS hSw; skip; go_simp; try with_reducible rfl)); (try simp only [Act.put, List.setIfInBounds_toArray, List.set_cons_zero, List.set_cons_succ]))
  (refine take_at 7 (some 41) rfl rfl (by kernel_rfl) (by kernel_rfl) (by kernel_rfl) (fun _ _ _ h => h) (v := ?_) (by kernel_rfl) ?_ (by assumption) ?_; rotate_left; (focus (intro wS hSw; skip; go_simp; try with_reducible rfl)); (try simp only [Act.put, List.setIfInBounds_toArray, List.set_cons_zero, List.set_cons_succ]))
  (refine take_at 10 (some 44) rfl rfl (by kernel_rfl) (by kernel_rfl) (by kernel_rfl) (fun _ _ _ h => h) (v := ?_) (by kernel_rfl) ?_ (by assumption) ?_; rotate_left; (focus (intro wS hSw; skip; go_simp; try with_reducible rfl)); (try simp only [Act.put, List.setIfInBounds_toArray, List.set_cons_zero, List.set_cons_succ]))
  (refine take_at 11 (some 45) rfl rfl (by kernel_rfl) (by kernel_rfl) (by kernel_rfl) (fun _ _ _ h => h) (v := ?_) (by kernel_rfl) ?_ (by assumption) ?_; rotate_left; (focus (intro wS hSw; (have q12 := (hSw.cell (p := ⟨g, 12, none⟩) lg hne).trans x12); go_simp; try with_reducible rfl)); (try simp only [Act.put, List.setIfInBounds_toArray, List.set_cons_zero, List.set_cons_succ]))
  clear x0 x1 x2 x3 x4 x5 x6 x7 x8 x9 x10 x11 x12
  refine wpAnyH_ready (rs := [8]) (by kernel_rfl) (by simp) ?_
  refine AllReadyH.cons rfl (fun K hK => ?_) AllReadyH.nil
  go_simp
  go_at_call 49
  refine (K3.out _).mono ?_
  rintro e u1 ⟨rfl, hp⟩
  have hn1 : Fp (fun k => k = g2) v0z u1 := Fp.trans hHeld hp (fun _ _ h => h.elim)
  have hby := (hp.block _ (Array.getElem?_eq_some_iff.1 By.out).1 id).trans By.out
  clear hp hHeld
  refine hK.out _ _ hn1 (fun hHeld => ?_)
  clear hK K
  try simp only [Act.put, List.setIfInBounds_toArray, List.set_cons_zero, List.set_cons_succ]
  (refine take_at 9 (some 43) rfl rfl (by kernel_rfl) (by kernel_rfl) (by kernel_rfl) (fun _ _ _ h => h) (v := ?_) (by kernel_rfl) ?_ (by assumption) ?_; rotate_left; (focus (intro wS hSw; skip; go_simp; try with_reducible rfl)); (try simp only [Act.put, List.setIfInBounds_toArray, List.set_cons_zero, List.set_cons_succ]))
  refine wpAnyH_ready (rs := [12]) (by kernel_rfl) (by simp) ?_
  refine AllReadyH.cons rfl (fun K hK => ?_) AllReadyH.nil
  rw [if_pos (by kernel_rfl)]
  have hhs := Hh.out.low (Hm0.out.trans hHeld (fun i hi e => by have h1 : i = g2 := e; have := Hge.out; omega))
  have hsz : v0z.heap.size ≤ u1.heap.size := hHeld.size
  refine op_append_at _ _ 48 rfl u1.heap.size 82 rholdZ 4 Tryd.underlying48 infoRHold rfl (by decide) (.slice none 0 0) 0 [] rfl (World.ownsRow_nil _ _ _ 4) ⟨hb, ho, none⟩ n c ys rfl hhs.len (fun j u hj => by rw [add_eq]; exact hhs.cell j u hj) hhs.one (by omega) (Nat.le_refl _) ?_
  intro v' w3 hown hgr hnil
  have hnw : NoW u1 w3 := (Fp.refl _ _).grown hgr (fun k e => by simp [Value.ownBlock] at e)
  have hne0 : v' ≠ .slice none 0 0 := fun e => by have := (hnil.1 e).2; omega
  rw [Nat.zero_add, List.nil_append] at hown
  obtain ⟨b', c', rfl, hc', hB', hh'⟩ := holds_of_ownR hown hhs.one hne0
  have hbw := (hnw.block _ (Array.getElem?_eq_some_iff.1 hby).1 id).trans hby
  refine hK.out _ _ (hHeld.trans hnw (fun _ _ h => h.elim)) (fun hHeld3 => ?_)
  clear hK K hown hgr hnil hnw hHeld hby hne0
  try simp only [Act.put, List.setIfInBounds_toArray, List.set_cons_zero, List.set_cons_succ]
  have Hbw := Lib.hid hbw
  have Hh2 := Lib.hid hh'
  have Hc2 := Lib.hid hc'
  have hbg2 : g2 ≠ b' := by have h1 := (Array.getElem?_eq_some_iff.1 By.out).1; omega
  have Hwb := Lib.hid (show w.heap.size ≤ b' from Nat.le_trans Hm0.out.size (Nat.le_trans hsz hB'))
  clear hbw hh' hc' hB' hsz hhs
  have hHeld := hHeld3
  clear hHeld3
  (refine take_at 13 (some 47) rfl rfl (by kernel_rfl) (by kernel_rfl) (by kernel_rfl) (fun _ _ _ h => h) (v := ?_) (by kernel_rfl) ?_ (by assumption) ?_; rotate_left; (focus (intro wS hSw; skip; go_simp; try with_reducible rfl)); (try simp only [Act.put, List.setIfInBounds_toArray, List.set_cons_zero, List.set_cons_succ]))
  have y0 : w3.cell? ⟨g2, 0, none⟩ = some (.int .u8 0) := by simp [World.cell?, Hbw.out]
  have zy0 : w3.frozen? ⟨g2, 0, none⟩ = false := by simp [World.frozen?, Hbw.out]
  have y1 : w3.cell? ⟨g2, 1, none⟩ = some (.int .u32 0) := by simp [World.cell?, Hbw.out]
  have zy1 : w3.frozen? ⟨g2, 1, none⟩ = false := by simp [World.frozen?, Hbw.out]
  have y2 : w3.cell? ⟨g2, 2, none⟩ = some (.int .u16 0) := by simp [World.cell?, Hbw.out]
  have zy2 : w3.frozen? ⟨g2, 2, none⟩ = false := by simp [World.frozen?, Hbw.out]
  have y3 : w3.cell? ⟨g2, 3, none⟩ = some (.int .u32 0) := by simp [World.cell?, Hbw.out]
  have zy3 : w3.frozen? ⟨g2, 3, none⟩ = false := by simp [World.frozen?, Hbw.out]
  have y4 : w3.cell? ⟨g2, 4, none⟩ = some (.int .u16 0) := by simp [World.cell?, Hbw.out]
  have zy4 : w3.frozen? ⟨g2, 4, none⟩ = false := by simp [World.frozen?, Hbw.out]
  have y5 : w3.cell? ⟨g2, 5, none⟩ = some (.int .u8 0) := by simp [World.cell?, Hbw.out]
  have zy5 : w3.frozen? ⟨g2, 5, none⟩ = false := by simp [World.frozen?, Hbw.out]
  have y6 : w3.cell? ⟨g2, 6, none⟩ = some (.int .u32 0) := by simp [World.cell?, Hbw.out]
  have zy6 : w3.frozen? ⟨g2, 6, none⟩ = false := by simp [World.frozen?, Hbw.out]
  have y7 : w3.cell? ⟨g2, 7, none⟩ = some (.int .u16 0) := by simp [World.cell?, Hbw.out]
  have zy7 : w3.frozen? ⟨g2, 7, none⟩ = false := by simp [World.frozen?, Hbw.out]
  have y8 : w3.cell? ⟨g2, 8, none⟩ = some (.int .u32 0) := by simp [World.cell?, Hbw.out]
  have zy8 : w3.frozen? ⟨g2, 8, none⟩ = false := by simp [World.frozen?, Hbw.out]
  have y9 : w3.cell? ⟨g2, 9, none⟩ = some (.int .u16 0) := by simp [World.cell?, Hbw.out]
  have zy9 : w3.frozen? ⟨g2, 9, none⟩ = false := by simp [World.frozen?, Hbw.out]
  have y10 : w3.cell? ⟨g2, 10, none⟩ = some (.int .i64 0) := by simp [World.cell?, Hbw.out]
  have zy10 : w3.frozen? ⟨g2, 10, none⟩ = false := by simp [World.frozen?, Hbw.out]
  have y11 : w3.cell? ⟨g2, 11, none⟩ = some (.int .i64 0) := by simp [World.cell?, Hbw.out]
  have zy11 : w3.frozen? ⟨g2, 11, none⟩ = false := by simp [World.frozen?, Hbw.out]
  have y12 : w3.cell? ⟨g2, 12, none⟩ = some (.slice none 0 0) := by simp [World.cell?, Hbw.out]
  have zy12 : w3.frozen? ⟨g2, 12, none⟩ = false := by simp [World.frozen?, Hbw.out]
  obtain ⟨W, hW, hb2, hf2⟩ := set13 w3 g2 50 (.int .u8 0) (.int .u32 0) (.int .u16 0) (.int .u32 0) (.int .u16 0) (.int .u8 0) (.int .u32 0) (.int .u16 0) (.int .u32 0) (.int .u16 0) (.int .i64 0) (.int .i64 0) (.slice none 0 0) Hbw.out (.int .u8 r) (.int .u32 a) (.int .u16 p) (.int .u32 b) (.int .u16 q) (.int .u8 r2) (.int .u32 a2) (.int .u16 p2) (.int .u32 b2) (.int .u16 q2) (.int .i64 nx) (.int .i64 (now + tm)) (.slice (some ⟨b', 0, none⟩) n c')
  refine wpAnyH_ready (rs := [14]) (by kernel_rfl) (by simp) ?_
  refine AllReadyH.cons rfl (fun K hK => ?_) AllReadyH.nil
  go_simp
  rw [← hW]
  clear hW y0 zy0 y1 zy1 y2 zy2 y3 zy3 y4 zy4 y5 zy5 y6 zy6 y7 zy7 y8 zy8 y9 zy9 y10 zy10 y11 zy11 y12 zy12
  refine hK.out _ _ (hHeld.trans hf2 (fun _ _ h => h)) (fun hHeld3 => ?_)
  clear hK K
  try simp only [Act.put, List.setIfInBounds_toArray, List.set_cons_zero, List.set_cons_succ]
  refine wpAnyH_ready (rs := [15]) (by kernel_rfl) (by simp) ?_
  refine AllReadyH.cons rfl (fun K hK => ?_) AllReadyH.nil
  go_simp
  refine hK.out _ _ hHeld3 (fun hHeld4 => ?_)
  clear hK K
  try simp only [Act.put, List.setIfInBounds_toArray, List.set_cons_zero, List.set_cons_succ]
  refine wpAnyH_done (by kernel_rfl) ?_ _
  have Hf2 := Lib.hid hf2
  have Hq := Lib.hid hHeld4
  clear hf2 hHeld hHeld3 hHeld4
  have y0 : W.cell? ⟨g2, 0, none⟩ = some (.int .u8 r) := by simp [World.cell?, (Lib.hid hb2).out]
  have y1 : W.cell? ⟨g2, 1, none⟩ = some (.int .u32 a) := by simp [World.cell?, (Lib.hid hb2).out]
  have y2 : W.cell? ⟨g2, 2, none⟩ = some (.int .u16 p) := by simp [World.cell?, (Lib.hid hb2).out]
  have y3 : W.cell? ⟨g2, 3, none⟩ = some (.int .u32 b) := by simp [World.cell?, (Lib.hid hb2).out]
  have y4 : W.cell? ⟨g2, 4, none⟩ = some (.int .u16 q) := by simp [World.cell?, (Lib.hid hb2).out]
  have y5 : W.cell? ⟨g2, 5, none⟩ = some (.int .u8 r2) := by simp [World.cell?, (Lib.hid hb2).out]
  have y6 : W.cell? ⟨g2, 6, none⟩ = some (.int .u32 a2) := by simp [World.cell?, (Lib.hid hb2).out]
  have y7 : W.cell? ⟨g2, 7, none⟩ = some (.int .u16 p2) := by simp [World.cell?, (Lib.hid hb2).out]
  have y8 : W.cell? ⟨g2, 8, none⟩ = some (.int .u32 b2) := by simp [World.cell?, (Lib.hid hb2).out]
  have y9 : W.cell? ⟨g2, 9, none⟩ = some (.int .u16 q2) := by simp [World.cell?, (Lib.hid hb2).out]
  have y10 : W.cell? ⟨g2, 10, none⟩ = some (.int .i64 nx) := by simp [World.cell?, (Lib.hid hb2).out]
  have y11 : W.cell? ⟨g2, 11, none⟩ = some (.int .i64 (now + tm)) := by simp [World.cell?, (Lib.hid hb2).out]
  have y12 : W.cell? ⟨g2, 12, none⟩ = some (.slice (some ⟨b', 0, none⟩) n c') := by simp [World.cell?, (Lib.hid hb2).out]
  go_wp2_with fail
  refine bodyPost_ret (v := .tuple #[.agg #[.int .u8 r, .int .u32 a, .int .u16 p, .int .u32 b, .int .u16 q, .int .u8 r2, .int .u32 a2, .int .u16 p2, .int .u32 b2, .int .u16 q2, .int .i64 nx, .int .i64 (now + tm), .slice (some ⟨b', 0, none⟩) n c'], .int .i64 0]) (by simp only [results, Tryd.results22]; go_simp) rfl ⟨b', c', rfl, Hc2.out, Hwb.out, ?_, ?_⟩
  · exact ⟨Hh2.out.len, fun j x hj => (Hf2.out.cell (p := ⟨b', 0 + j, none⟩) Hh2.out.lt (fun e => hbg2 e.symm)).trans (Hh2.out.cell j x hj), Hh2.out.one, Nat.lt_of_lt_of_le Hh2.out.lt Hf2.out.size⟩
  · exact Hm0.out.trans Hq.out (fun i hi e => by have h1 : i = g2 := e; have := Hge.out; omega)
end Go.Proofs.YtdmbjndhdldggaaDoor
