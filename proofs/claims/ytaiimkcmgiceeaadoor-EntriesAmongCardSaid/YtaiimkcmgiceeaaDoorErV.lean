/- Chapter 18: Victim (written by genvic.py). -/
import Derived.Test.YtaiimkcmgiceeaaDoorErA
import Derived.Test.YtaiimkcmgiceeaaDoorEnP
namespace Go.Proofs.YtaiimkcmgiceeaaDoor
set_option linter.unusedVariables false
set_option linter.unusedSimpArgs false
open Go.RowKit Go.Lib Go.Sort

/-- An entry's cells. -/
structure EntD where
  r : Nat
  a : Nat
  p : Nat
  b : Nat
  q : Nat
  r2 : Nat
  a2 : Nat
  p2 : Nat
  b2 : Nat
  q2 : Nat
  st : Int
  dl : Int
  ad : Option Addr
  n : Nat
  c : Nat
def EntD.cs (x : EntD) : List Value := [.int .u8 x.r, .int .u32 x.a, .int .u16 x.p, .int .u32 x.b, .int .u16 x.q, .int .u8 x.r2, .int .u32 x.a2, .int .u16 x.p2, .int .u32 x.b2, .int .u16 x.q2, .int .i64 x.st, .int .i64 x.dl, .slice x.ad x.n x.c]
structure EntD.Ok (x : EntD) : Prop where
  r : x.r < 256
  a : x.a < 4294967296
  p : x.p < 65536
  b : x.b < 4294967296
  q : x.q < 65536
  r2 : x.r2 < 256
  a2 : x.a2 < 4294967296
  p2 : x.p2 < 65536
  b2 : x.b2 < 4294967296
  q2 : x.q2 < 65536
  st : -9223372036854775808 ≤ x.st ∧ x.st ≤ 9223372036854775807
  dl : -9223372036854775808 ≤ x.dl ∧ x.dl ≤ 9223372036854775807
  nm : x.n ≤ maxLen
def EntD.key (x : EntD) : Nat := tkey x.r x.a x.p x.b x.q
def EntD.may (now : Int) (x : EntD) : Bool := decide (now < x.dl) && earlyB (flowN x.r) x.st
def EntD.less (x y : EntD) : Bool := elB x.dl x.key y.dl y.key
/-- A slice of entries. -/
structure Ents (w : World) (a : Option Addr) (n : Nat) (E : Nat → EntD) : Prop where
  ok : ∀ i, i < n → (E i).Ok
  at' : ∀ i, i < n → ∃ b o, a = some ⟨b, o, none⟩ ∧ ∀ j v, (E i).cs[j]? = some v → w.cell? ⟨b, o + i * 13 + j, none⟩ = some v
theorem Ents.low {w w' : World} {a : Option Addr} {n : Nat} {E : Nat → EntD} (h : Ents w a n E) (hf : NoW w w') : Ents w' a n E :=
  ⟨h.ok, fun i hi => by
    obtain ⟨b, o, e, hc⟩ := h.at' i hi
    exact ⟨b, o, e, fun j v hj => (hf.cell (p := ⟨b, o + i * 13 + j, none⟩) (cell_lt (hc j v hj)) id).trans (hc j v hj)⟩⟩
/-- Who makes room, of the first k. -/
def VicP (k : Nat) (E : Nat → EntD) (now at' : Int) : Prop := (at' = -1 ∧ ∀ i, i < k → (E i).may now = false) ∨
  ∃ m : Nat, at' = m ∧ m < k ∧ (E m).may now = true ∧ (∀ i, i < k → (E i).may now = true → (E i).less (E m) = false) ∧ (∀ i, i < m → (E i).may now = true → (E m).less (E i) = true)
theorem vic_no {k : Nat} {E : Nat → EntD} {now at' : Int} (h : VicP k E now at') (hk : (E k).may now = false) : VicP (k + 1) E now at' := by
  rcases h with ⟨rfl, h⟩ | ⟨m, rfl, hm, h1, h2, h3⟩
  · exact .inl ⟨rfl, fun i hi => by by_cases e : i = k; (rw [e]; exact hk); exact h i (by omega)⟩
  · exact .inr ⟨m, rfl, by omega, h1, fun i hi hmi => by by_cases e : i = k; (rw [e, hk] at hmi; cases hmi); exact h2 i (by omega) hmi, h3⟩
theorem less_irr (x : EntD) : x.less x = false := by simp [EntD.less, elB]
theorem vic_first {k : Nat} {E : Nat → EntD} {now : Int} (h : VicP k E now (-1)) (hk : (E k).may now = true) : VicP (k + 1) E now k := by
  rcases h with ⟨_, h⟩ | ⟨m, e, _⟩
  · refine .inr ⟨k, rfl, by omega, hk, fun i hi hmi => ?_, fun i hi hmi => ?_⟩
    · by_cases e : i = k
      · rw [e]; exact less_irr _
      · rw [h i (by omega)] at hmi; cases hmi
    · rw [h i (by omega)] at hmi; cases hmi
  · omega
theorem vic_keep {k m : Nat} {E : Nat → EntD} {now : Int} (h : VicP k E now m) (hl : (E k).less (E m) = false) : VicP (k + 1) E now m := by
  rcases h with ⟨e, _⟩ | ⟨m', e, hm, h1, h2, h3⟩
  · omega
  · obtain rfl : m = m' := by omega
    exact .inr ⟨m, rfl, by omega, h1, fun i hi hmi => by by_cases e : i = k; (rw [e]; exact hl); exact h2 i (by omega) hmi, h3⟩
theorem vic_less {k m : Nat} {E : Nat → EntD} {now : Int} (h : VicP k E now m) (hk : (E k).may now = true) (hl : (E k).less (E m) = true) : VicP (k + 1) E now k := by
  rcases h with ⟨e, _⟩ | ⟨m', e, hm, h1, h2, h3⟩
  · omega
  · obtain rfl : m = m' := by omega
    simp only [EntD.less, elB, decide_eq_true_eq, decide_eq_false_iff_not] at *
    refine .inr ⟨k, rfl, by omega, hk, fun i hi hmi => ?_, fun i hi hmi => ?_⟩
    · simp only [EntD.less, elB, decide_eq_false_iff_not]
      by_cases e : i = k
      · rw [e]; omega
      · have := h2 i (by omega) hmi; omega
    · simp only [EntD.less, elB, decide_eq_true_eq]
      have := h2 i (by omega) hmi; omega

set_option maxHeartbeats 8000000 in
set_option maxRecDepth 100000 in
theorem victim_ok (sl : Option Addr) (n c : Nat) (E : Nat → EntD) (now : Int) (hnm : n ≤ maxLen) (hnc : n ≤ c) (w : World) (ht : Tb w) (hE : Ents w sl n E) :
    Calls Tryd.prog 9 #[.slice sl n c, .int .i64 now] w fun e w' => ∃ at' : Int, e = .returned (.int .i64 at') ∧ VicP n E now at' ∧ NoW w w' := by
  have Ht := Lib.hid ht
  have HE := Lib.hid hE
  unfold maxLen at hnm
  clear ht hE
  go_enter Tryd.func9, Tryd.ntmps9
  go_wp2_with fail
  go_loopg [5, 10] (n + 1) (fun gg av iv wx => ∃ (k : Nat) (at' : Int), k ≤ n ∧ gg = n + 1 - k ∧ av = .int .i64 at' ∧ iv = .int .i64 (k : Int) ∧ VicP k E now at' ∧ NoW w wx)
  case atStart => exact ⟨0, -1, by omega, by omega, rfl, rfl, .inl ⟨rfl, fun i hi => by omega⟩, Fp.refl _ _⟩
  case round =>
    obtain ⟨k, at', hk, hg, rfl, rfl, hvp, hf⟩ := hrel
    have Hg := Lib.hid hg
    have Hf := Lib.hid hf
    have Hvp := Lib.hid hvp
    clear hg hf hvp
    by_cases hlt : k < n
    · obtain ⟨b0, o0, rfl, hc0⟩ := HE.out.at' k hlt
      have hok := HE.out.ok k hlt
      have hcw : ∀ j v, (E k).cs[j]? = some v → wr.cell? ⟨b0, o0 + k * 13 + j, none⟩ = some v := fun j v hj => (Hf.out.cell (p := ⟨b0, o0 + k * 13 + j, none⟩) (cell_lt (hc0 j v hj)) id).trans (hc0 j v hj)
      rcases hek : E k with ⟨r, a, p, b, q, r2, a2, p2, b2, q2, st, dl, ad, hn, hc⟩
      rw [hek] at hcw hok
      have y0 : wr.cell? ⟨b0, o0 + k * 13, none⟩ = some (.int .u8 r) := hcw 0 _ rfl
      have y1 : wr.cell? ⟨b0, o0 + k * 13 + 1, none⟩ = some (.int .u32 a) := hcw 1 _ rfl
      have y2 : wr.cell? ⟨b0, o0 + k * 13 + 2, none⟩ = some (.int .u16 p) := hcw 2 _ rfl
      have y3 : wr.cell? ⟨b0, o0 + k * 13 + 3, none⟩ = some (.int .u32 b) := hcw 3 _ rfl
      have y4 : wr.cell? ⟨b0, o0 + k * 13 + 4, none⟩ = some (.int .u16 q) := hcw 4 _ rfl
      have y5 : wr.cell? ⟨b0, o0 + k * 13 + 5, none⟩ = some (.int .u8 r2) := hcw 5 _ rfl
      have y6 : wr.cell? ⟨b0, o0 + k * 13 + 6, none⟩ = some (.int .u32 a2) := hcw 6 _ rfl
      have y7 : wr.cell? ⟨b0, o0 + k * 13 + 7, none⟩ = some (.int .u16 p2) := hcw 7 _ rfl
      have y8 : wr.cell? ⟨b0, o0 + k * 13 + 8, none⟩ = some (.int .u32 b2) := hcw 8 _ rfl
      have y9 : wr.cell? ⟨b0, o0 + k * 13 + 9, none⟩ = some (.int .u16 q2) := hcw 9 _ rfl
      have y10 : wr.cell? ⟨b0, o0 + k * 13 + 10, none⟩ = some (.int .i64 st) := hcw 10 _ rfl
      have y11 : wr.cell? ⟨b0, o0 + k * 13 + 11, none⟩ = some (.int .i64 dl) := hcw 11 _ rfl
      have y12 : wr.cell? ⟨b0, o0 + k * 13 + 12, none⟩ = some (.slice ad hn hc) := hcw 12 _ rfl

      have Hok := Lib.hid hok
      have Hek := Lib.hid hek
      clear hc0 hcw hok hek
      go_wp2_with fail
      clear y0 y1 y2 y3 y4 y5 y6 y7 y8 y9 y10 y11 y12
      have hq : NoW wr (wr.alloc (.cells #[.int .u8 r, .int .u32 a, .int .u16 p, .int .u32 b, .int .u16 q, .int .u8 r2, .int .u32 a2, .int .u16 p2, .int .u32 b2, .int .u16 q2, .int .i64 st, .int .i64 dl, .slice ad hn hc] 32)) := (Fp.refl _ _).alloc _
      have hb7 := heap_alloc_new wr (.cells #[.int .u8 r, .int .u32 a, .int .u16 p, .int .u32 b, .int .u16 q, .int .u8 r2, .int .u32 a2, .int .u16 p2, .int .u32 b2, .int .u16 q2, .int .i64 st, .int .i64 dl, .slice ad hn hc] 32)
      have Hw1 := Lib.hid (Hf.out.trans hq (fun _ _ h => h))
      clear hq
      generalize wr.alloc (.cells #[.int .u8 r, .int .u32 a, .int .u16 p, .int .u32 b, .int .u16 q, .int .u8 r2, .int .u32 a2, .int .u16 p2, .int .u32 b2, .int .u16 q2, .int .i64 st, .int .i64 dl, .slice ad hn hc] 32) = w1 at *
      generalize wr.heap.size = g7 at *
      have x0 : w1.cell? ⟨g7, 0, none⟩ = some (.int .u8 r) := by simp [World.cell?, hb7]
      have x1 : w1.cell? ⟨g7, 1, none⟩ = some (.int .u32 a) := by simp [World.cell?, hb7]
      have x2 : w1.cell? ⟨g7, 2, none⟩ = some (.int .u16 p) := by simp [World.cell?, hb7]
      have x3 : w1.cell? ⟨g7, 3, none⟩ = some (.int .u32 b) := by simp [World.cell?, hb7]
      have x4 : w1.cell? ⟨g7, 4, none⟩ = some (.int .u16 q) := by simp [World.cell?, hb7]
      have x5 : w1.cell? ⟨g7, 5, none⟩ = some (.int .u8 r2) := by simp [World.cell?, hb7]
      have x6 : w1.cell? ⟨g7, 6, none⟩ = some (.int .u32 a2) := by simp [World.cell?, hb7]
      have x7 : w1.cell? ⟨g7, 7, none⟩ = some (.int .u16 p2) := by simp [World.cell?, hb7]
      have x8 : w1.cell? ⟨g7, 8, none⟩ = some (.int .u32 b2) := by simp [World.cell?, hb7]
      have x9 : w1.cell? ⟨g7, 9, none⟩ = some (.int .u16 q2) := by simp [World.cell?, hb7]
      have x10 : w1.cell? ⟨g7, 10, none⟩ = some (.int .i64 st) := by simp [World.cell?, hb7]
      have x11 : w1.cell? ⟨g7, 11, none⟩ = some (.int .i64 dl) := by simp [World.cell?, hb7]
      have x12 : w1.cell? ⟨g7, 12, none⟩ = some (.slice ad hn hc) := by simp [World.cell?, hb7]

      have l7 : g7 < w1.heap.size := cell_lt x0
      clear hb7
      have k1 := fun W => live_ok r a p b q r2 a2 p2 b2 q2 st dl (.slice ad hn hc) now W
      have K2 := Lib.hid (fun W => (show Calls Tryd.prog 27 #[.int .u8 r] W (Ret1 (.int .i64 (flowN r : Nat)) W) from (flow_ok r W).mono fun e w' ⟨h1, h2⟩ => ⟨h1, by rw [h2]; exact Fp.refl _ _⟩))
      have k3 := fun W hW => (show Calls Tryd.prog 26 #[.int .i64 (flowN r : Nat), .int .i64 st] W (Ret1 (.bool (earlyB (flowN r) st)) W) from (early_ok (flowN r) (flowN_lt r) st W hW).mono fun e w' ⟨h1, h2⟩ => ⟨h1, by rw [h2]; exact Fp.refl _ _⟩)
      have hmay : (E k).may now = (decide (now < dl) && earlyB (flowN r) st) := by rw [Hek.out]; rfl
      rcases hlv : decide (now < dl) with _ | _
      · rw [hlv] at k1 hmay
        rw [Bool.false_and] at hmay
        have K1 := Lib.hid k1
        have Hmay := Lib.hid hmay
        clear k1 k3 hmay hlv
        refine wp_region_held_drew (S := fun wx => NoW w1 wx) (by kernel_rfl) (Fp.drew (Fp.refl _ _)) (fun hHeld => ?_)
        (refine take_at 0 (some 15) rfl rfl (by kernel_rfl) (by kernel_rfl) (by kernel_rfl) (fun _ _ _ h => h) (v := ?_) (by kernel_rfl) ?_ (by assumption) ?_; rotate_left; (focus (intro wS hSw; (have y0 := (hSw.cell (p := ⟨g7, 0, none⟩) l7 id).trans x0); (have y1 := (hSw.cell (p := ⟨g7, 1, none⟩) l7 id).trans x1); (have y2 := (hSw.cell (p := ⟨g7, 2, none⟩) l7 id).trans x2); (have y3 := (hSw.cell (p := ⟨g7, 3, none⟩) l7 id).trans x3); (have y4 := (hSw.cell (p := ⟨g7, 4, none⟩) l7 id).trans x4); (have y5 := (hSw.cell (p := ⟨g7, 5, none⟩) l7 id).trans x5); (have y6 := (hSw.cell (p := ⟨g7, 6, none⟩) l7 id).trans x6); (have y7 := (hSw.cell (p := ⟨g7, 7, none⟩) l7 id).trans x7); (have y8 := (hSw.cell (p := ⟨g7, 8, none⟩) l7 id).trans x8); (have y9 := (hSw.cell (p := ⟨g7, 9, none⟩) l7 id).trans x9); (have y10 := (hSw.cell (p := ⟨g7, 10, none⟩) l7 id).trans x10); (have y11 := (hSw.cell (p := ⟨g7, 11, none⟩) l7 id).trans x11); (have y12 := (hSw.cell (p := ⟨g7, 12, none⟩) l7 id).trans x12); go_simp; try with_reducible rfl)); (try simp only [Act.put, List.setIfInBounds_toArray, List.set_cons_zero, List.set_cons_succ]))
        (refine take_at 1 (some 16) rfl rfl (by kernel_rfl) (by kernel_rfl) (by kernel_rfl) (fun _ _ _ h => h) (v := ?_) (by kernel_rfl) ?_ (by assumption) ?_; rotate_left; (focus (intro wS hSw; skip; go_simp; try with_reducible rfl)); (try simp only [Act.put, List.setIfInBounds_toArray, List.set_cons_zero, List.set_cons_succ]))
        refine wpAnyH_ready (rs := [2]) (by kernel_rfl) (by simp) ?_
        refine AllReadyH.cons rfl (fun K hK => ?_) AllReadyH.nil
        go_simp
        go_at_call 20
        refine (K1.out _).mono ?_
        rintro e u1 ⟨rfl, hp⟩
        have hn1 : NoW w1 u1 := Fp.trans hHeld hp (fun _ _ h => h)
        skip
        clear hp hHeld
        refine hK.out _ _ hn1 (fun hHeld => ?_)
        clear hK K
        try simp only [Act.put, List.setIfInBounds_toArray, List.set_cons_zero, List.set_cons_succ]
        (refine take_at 3 (some 18) rfl rfl (by kernel_rfl) (by kernel_rfl) (by kernel_rfl) (fun _ _ _ h => h) (v := ?_) (by kernel_rfl) ?_ (by assumption) ?_; rotate_left; (focus (intro wS hSw; skip; go_simp; try with_reducible rfl)); (try simp only [Act.put, List.setIfInBounds_toArray, List.set_cons_zero, List.set_cons_succ]))
        (refine drop_at 4 (some 19) rfl rfl (by kernel_rfl) (by kernel_rfl) (by kernel_rfl) (fun _ _ _ h => h) (by kernel_rfl) (by assumption) ?_; (try simp only [Act.put, List.setIfInBounds_toArray, List.set_cons_zero, List.set_cons_succ]))
        (refine drop_at 5 (some 20) rfl rfl (by kernel_rfl) (by kernel_rfl) (by kernel_rfl) (fun _ _ _ h => h) (by kernel_rfl) (by assumption) ?_; (try simp only [Act.put, List.setIfInBounds_toArray, List.set_cons_zero, List.set_cons_succ]))
        (refine drop_at 6 (some 21) rfl rfl (by kernel_rfl) (by kernel_rfl) (by kernel_rfl) (fun _ _ _ h => h) (by kernel_rfl) (by assumption) ?_; (try simp only [Act.put, List.setIfInBounds_toArray, List.set_cons_zero, List.set_cons_succ]))
        (refine drop_at 7 (some 22) rfl rfl (by kernel_rfl) (by kernel_rfl) (by kernel_rfl) (fun _ _ _ h => h) (by kernel_rfl) (by assumption) ?_; (try simp only [Act.put, List.setIfInBounds_toArray, List.set_cons_zero, List.set_cons_succ]))
        (refine drop_at 8 (some 23) rfl rfl (by kernel_rfl) (by kernel_rfl) (by kernel_rfl) (fun _ _ _ h => h) (by kernel_rfl) (by assumption) ?_; (try simp only [Act.put, List.setIfInBounds_toArray, List.set_cons_zero, List.set_cons_succ]))
        (refine drop_at 9 (some 24) rfl rfl (by kernel_rfl) (by kernel_rfl) (by kernel_rfl) (fun _ _ _ h => h) (by kernel_rfl) (by assumption) ?_; (try simp only [Act.put, List.setIfInBounds_toArray, List.set_cons_zero, List.set_cons_succ]))
        (refine drop_at 10 (some 25) rfl rfl (by kernel_rfl) (by kernel_rfl) (by kernel_rfl) (fun _ _ _ h => h) (by kernel_rfl) (by assumption) ?_; (try simp only [Act.put, List.setIfInBounds_toArray, List.set_cons_zero, List.set_cons_succ]))
        (refine take_at 11 (some 26) rfl rfl (by kernel_rfl) (by kernel_rfl) (by kernel_rfl) (fun _ _ _ h => h) (v := ?_) (by kernel_rfl) ?_ (by assumption) ?_; rotate_left; (focus (intro wS hSw; skip; go_simp; try with_reducible rfl)); (try simp only [Act.put, List.setIfInBounds_toArray, List.set_cons_zero, List.set_cons_succ]))
        (refine take_at 12 (some 27) rfl rfl (by kernel_rfl) (by kernel_rfl) (by kernel_rfl) (fun _ _ _ h => h) (v := ?_) (by kernel_rfl) ?_ (by assumption) ?_; rotate_left; (focus (intro wS hSw; skip; go_simp; try with_reducible rfl)); (try simp only [Act.put, List.setIfInBounds_toArray, List.set_cons_zero, List.set_cons_succ]))
        (refine drop_at 13 (some 28) rfl rfl (by kernel_rfl) (by kernel_rfl) (by kernel_rfl) (fun _ _ _ h => h) (by kernel_rfl) (by assumption) ?_; (try simp only [Act.put, List.setIfInBounds_toArray, List.set_cons_zero, List.set_cons_succ]))
        (refine drop_at 14 (some 29) rfl rfl (by kernel_rfl) (by kernel_rfl) (by kernel_rfl) (fun _ _ _ h => h) (by kernel_rfl) (by assumption) ?_; (try simp only [Act.put, List.setIfInBounds_toArray, List.set_cons_zero, List.set_cons_succ]))
        (refine drop_at 15 (some 30) rfl rfl (by kernel_rfl) (by kernel_rfl) (by kernel_rfl) (fun _ _ _ h => h) (by kernel_rfl) (by assumption) ?_; (try simp only [Act.put, List.setIfInBounds_toArray, List.set_cons_zero, List.set_cons_succ]))
        (refine drop_at 16 (some 31) rfl rfl (by kernel_rfl) (by kernel_rfl) (by kernel_rfl) (fun _ _ _ h => h) (by kernel_rfl) (by assumption) ?_; (try simp only [Act.put, List.setIfInBounds_toArray, List.set_cons_zero, List.set_cons_succ]))
        (refine drop_at 17 (some 32) rfl rfl (by kernel_rfl) (by kernel_rfl) (by kernel_rfl) (fun _ _ _ h => h) (by kernel_rfl) (by assumption) ?_; (try simp only [Act.put, List.setIfInBounds_toArray, List.set_cons_zero, List.set_cons_succ]))
        (refine drop_at 18 (some 33) rfl rfl (by kernel_rfl) (by kernel_rfl) (by kernel_rfl) (fun _ _ _ h => h) (by kernel_rfl) (by assumption) ?_; (try simp only [Act.put, List.setIfInBounds_toArray, List.set_cons_zero, List.set_cons_succ]))
        (refine drop_at 19 (some 34) rfl rfl (by kernel_rfl) (by kernel_rfl) (by kernel_rfl) (fun _ _ _ h => h) (by kernel_rfl) (by assumption) ?_; (try simp only [Act.put, List.setIfInBounds_toArray, List.set_cons_zero, List.set_cons_succ]))
        (refine drop_at 20 (some 35) rfl rfl (by kernel_rfl) (by kernel_rfl) (by kernel_rfl) (fun _ _ _ h => h) (by kernel_rfl) (by assumption) ?_; (try simp only [Act.put, List.setIfInBounds_toArray, List.set_cons_zero, List.set_cons_succ]))
        (refine drop_at 21 (some 36) rfl rfl (by kernel_rfl) (by kernel_rfl) (by kernel_rfl) (fun _ _ _ h => h) (by kernel_rfl) (by assumption) ?_; (try simp only [Act.put, List.setIfInBounds_toArray, List.set_cons_zero, List.set_cons_succ]))
        (refine drop_at 22 (some 37) rfl rfl (by kernel_rfl) (by kernel_rfl) (by kernel_rfl) (fun _ _ _ h => h) (by kernel_rfl) (by assumption) ?_; (try simp only [Act.put, List.setIfInBounds_toArray, List.set_cons_zero, List.set_cons_succ]))
        (refine take_at 23 (some 38) rfl rfl (by kernel_rfl) (by kernel_rfl) (by kernel_rfl) (fun _ _ _ h => h) (v := ?_) (by kernel_rfl) ?_ (by assumption) ?_; rotate_left; (focus (intro wS hSw; skip; go_simp; try with_reducible rfl)); (try simp only [Act.put, List.setIfInBounds_toArray, List.set_cons_zero, List.set_cons_succ]))
        clear x0 x1 x2 x3 x4 x5 x6 x7 x8 x9 x10 x11 x12
        refine wpAnyH_done (by kernel_rfl) ?_ _
        have Hf2 := Lib.hid (Hw1.out.trans hHeld (fun _ _ h => h))
        clear hHeld
        go_wp2_with fail
        go_roundg (n - k)
        case measure => have := Hg.out; omega
        case rel => exact ⟨k + 1, _, by omega, by omega, rfl, by go_num, vic_no Hvp.out Hmay.out, Hf2.out⟩

      · rw [hlv] at k1 hmay
        rw [Bool.true_and] at hmay
        have K1 := Lib.hid k1
        clear k1 hlv
        rcases hea : earlyB (flowN r) st with _ | _
        · rw [hea] at k3 hmay
          have K3 := Lib.hid k3
          have Hmay := Lib.hid hmay
          clear k3 hea hmay
          refine wp_region_held_drew (S := fun wx => NoW w1 wx) (by kernel_rfl) (Fp.drew (Fp.refl _ _)) (fun hHeld => ?_)
          (refine take_at 0 (some 15) rfl rfl (by kernel_rfl) (by kernel_rfl) (by kernel_rfl) (fun _ _ _ h => h) (v := ?_) (by kernel_rfl) ?_ (by assumption) ?_; rotate_left; (focus (intro wS hSw; (have y0 := (hSw.cell (p := ⟨g7, 0, none⟩) l7 id).trans x0); (have y1 := (hSw.cell (p := ⟨g7, 1, none⟩) l7 id).trans x1); (have y2 := (hSw.cell (p := ⟨g7, 2, none⟩) l7 id).trans x2); (have y3 := (hSw.cell (p := ⟨g7, 3, none⟩) l7 id).trans x3); (have y4 := (hSw.cell (p := ⟨g7, 4, none⟩) l7 id).trans x4); (have y5 := (hSw.cell (p := ⟨g7, 5, none⟩) l7 id).trans x5); (have y6 := (hSw.cell (p := ⟨g7, 6, none⟩) l7 id).trans x6); (have y7 := (hSw.cell (p := ⟨g7, 7, none⟩) l7 id).trans x7); (have y8 := (hSw.cell (p := ⟨g7, 8, none⟩) l7 id).trans x8); (have y9 := (hSw.cell (p := ⟨g7, 9, none⟩) l7 id).trans x9); (have y10 := (hSw.cell (p := ⟨g7, 10, none⟩) l7 id).trans x10); (have y11 := (hSw.cell (p := ⟨g7, 11, none⟩) l7 id).trans x11); (have y12 := (hSw.cell (p := ⟨g7, 12, none⟩) l7 id).trans x12); go_simp; try with_reducible rfl)); (try simp only [Act.put, List.setIfInBounds_toArray, List.set_cons_zero, List.set_cons_succ]))
          (refine take_at 1 (some 16) rfl rfl (by kernel_rfl) (by kernel_rfl) (by kernel_rfl) (fun _ _ _ h => h) (v := ?_) (by kernel_rfl) ?_ (by assumption) ?_; rotate_left; (focus (intro wS hSw; skip; go_simp; try with_reducible rfl)); (try simp only [Act.put, List.setIfInBounds_toArray, List.set_cons_zero, List.set_cons_succ]))
          refine wpAnyH_ready (rs := [2]) (by kernel_rfl) (by simp) ?_
          refine AllReadyH.cons rfl (fun K hK => ?_) AllReadyH.nil
          go_simp
          go_at_call 20
          refine (K1.out _).mono ?_
          rintro e u1 ⟨rfl, hp⟩
          have hn1 : NoW w1 u1 := Fp.trans hHeld hp (fun _ _ h => h)
          skip
          clear hp hHeld
          refine hK.out _ _ hn1 (fun hHeld => ?_)
          clear hK K
          try simp only [Act.put, List.setIfInBounds_toArray, List.set_cons_zero, List.set_cons_succ]
          (refine take_at 3 (some 18) rfl rfl (by kernel_rfl) (by kernel_rfl) (by kernel_rfl) (fun _ _ _ h => h) (v := ?_) (by kernel_rfl) ?_ (by assumption) ?_; rotate_left; (focus (intro wS hSw; skip; go_simp; try with_reducible rfl)); (try simp only [Act.put, List.setIfInBounds_toArray, List.set_cons_zero, List.set_cons_succ]))
          (refine take_at 4 (some 19) rfl rfl (by kernel_rfl) (by kernel_rfl) (by kernel_rfl) (fun _ _ _ h => h) (v := ?_) (by kernel_rfl) ?_ (by assumption) ?_; rotate_left; (focus (intro wS hSw; skip; go_simp; try with_reducible rfl)); (try simp only [Act.put, List.setIfInBounds_toArray, List.set_cons_zero, List.set_cons_succ]))
          (refine take_at 5 (some 20) rfl rfl (by kernel_rfl) (by kernel_rfl) (by kernel_rfl) (fun _ _ _ h => h) (v := ?_) (by kernel_rfl) ?_ (by assumption) ?_; rotate_left; (focus (intro wS hSw; skip; go_simp; try with_reducible rfl)); (try simp only [Act.put, List.setIfInBounds_toArray, List.set_cons_zero, List.set_cons_succ]))
          (refine take_at 6 (some 21) rfl rfl (by kernel_rfl) (by kernel_rfl) (by kernel_rfl) (fun _ _ _ h => h) (v := ?_) (by kernel_rfl) ?_ (by assumption) ?_; rotate_left; (focus (intro wS hSw; (have y0 := (hSw.cell (p := ⟨g7, 0, none⟩) l7 id).trans x0); go_simp; try with_reducible rfl)); (try simp only [Act.put, List.setIfInBounds_toArray, List.set_cons_zero, List.set_cons_succ]))
          (refine take_at 8 (some 23) rfl rfl (by kernel_rfl) (by kernel_rfl) (by kernel_rfl) (fun _ _ _ h => h) (v := ?_) (by kernel_rfl) ?_ (by assumption) ?_; rotate_left; (focus (intro wS hSw; skip; go_simp; try with_reducible rfl)); (try simp only [Act.put, List.setIfInBounds_toArray, List.set_cons_zero, List.set_cons_succ]))
          (refine take_at 9 (some 24) rfl rfl (by kernel_rfl) (by kernel_rfl) (by kernel_rfl) (fun _ _ _ h => h) (v := ?_) (by kernel_rfl) ?_ (by assumption) ?_; rotate_left; (focus (intro wS hSw; (have y10 := (hSw.cell (p := ⟨g7, 10, none⟩) l7 id).trans x10); go_simp; try with_reducible rfl)); (try simp only [Act.put, List.setIfInBounds_toArray, List.set_cons_zero, List.set_cons_succ]))
          refine wpAnyH_ready (rs := [7]) (by kernel_rfl) (by simp) ?_
          refine AllReadyH.cons rfl (fun K hK => ?_) AllReadyH.nil
          go_simp
          go_at_call 27
          refine (K2.out _).mono ?_
          rintro e u2 ⟨rfl, hp⟩
          have hn2 : NoW w1 u2 := Fp.trans hHeld hp (fun _ _ h => h)
          skip
          clear hp hHeld hn1
          refine hK.out _ _ hn2 (fun hHeld => ?_)
          clear hK K
          try simp only [Act.put, List.setIfInBounds_toArray, List.set_cons_zero, List.set_cons_succ]
          refine wpAnyH_ready (rs := [10]) (by kernel_rfl) (by simp) ?_
          refine AllReadyH.cons rfl (fun K hK => ?_) AllReadyH.nil
          go_simp
          go_at_call 26
          refine (K3.out _ (Ht.out.low (Hw1.out.trans hHeld (fun _ _ h => h)))).mono ?_
          rintro e u3 ⟨rfl, hp⟩
          have hn3 : NoW w1 u3 := Fp.trans hHeld hp (fun _ _ h => h)
          skip
          clear hp hHeld hn2
          refine hK.out _ _ hn3 (fun hHeld => ?_)
          clear hK K
          try simp only [Act.put, List.setIfInBounds_toArray, List.set_cons_zero, List.set_cons_succ]
          (refine take_at 11 (some 26) rfl rfl (by kernel_rfl) (by kernel_rfl) (by kernel_rfl) (fun _ _ _ h => h) (v := ?_) (by kernel_rfl) ?_ (by assumption) ?_; rotate_left; (focus (intro wS hSw; skip; go_simp; try with_reducible rfl)); (try simp only [Act.put, List.setIfInBounds_toArray, List.set_cons_zero, List.set_cons_succ]))
          (refine take_at 12 (some 27) rfl rfl (by kernel_rfl) (by kernel_rfl) (by kernel_rfl) (fun _ _ _ h => h) (v := ?_) (by kernel_rfl) ?_ (by assumption) ?_; rotate_left; (focus (intro wS hSw; skip; go_simp; try with_reducible rfl)); (try simp only [Act.put, List.setIfInBounds_toArray, List.set_cons_zero, List.set_cons_succ]))
          (refine drop_at 13 (some 28) rfl rfl (by kernel_rfl) (by kernel_rfl) (by kernel_rfl) (fun _ _ _ h => h) (by kernel_rfl) (by assumption) ?_; (try simp only [Act.put, List.setIfInBounds_toArray, List.set_cons_zero, List.set_cons_succ]))
          (refine drop_at 14 (some 29) rfl rfl (by kernel_rfl) (by kernel_rfl) (by kernel_rfl) (fun _ _ _ h => h) (by kernel_rfl) (by assumption) ?_; (try simp only [Act.put, List.setIfInBounds_toArray, List.set_cons_zero, List.set_cons_succ]))
          (refine drop_at 15 (some 30) rfl rfl (by kernel_rfl) (by kernel_rfl) (by kernel_rfl) (fun _ _ _ h => h) (by kernel_rfl) (by assumption) ?_; (try simp only [Act.put, List.setIfInBounds_toArray, List.set_cons_zero, List.set_cons_succ]))
          (refine drop_at 16 (some 31) rfl rfl (by kernel_rfl) (by kernel_rfl) (by kernel_rfl) (fun _ _ _ h => h) (by kernel_rfl) (by assumption) ?_; (try simp only [Act.put, List.setIfInBounds_toArray, List.set_cons_zero, List.set_cons_succ]))
          (refine drop_at 17 (some 32) rfl rfl (by kernel_rfl) (by kernel_rfl) (by kernel_rfl) (fun _ _ _ h => h) (by kernel_rfl) (by assumption) ?_; (try simp only [Act.put, List.setIfInBounds_toArray, List.set_cons_zero, List.set_cons_succ]))
          (refine drop_at 18 (some 33) rfl rfl (by kernel_rfl) (by kernel_rfl) (by kernel_rfl) (fun _ _ _ h => h) (by kernel_rfl) (by assumption) ?_; (try simp only [Act.put, List.setIfInBounds_toArray, List.set_cons_zero, List.set_cons_succ]))
          (refine drop_at 19 (some 34) rfl rfl (by kernel_rfl) (by kernel_rfl) (by kernel_rfl) (fun _ _ _ h => h) (by kernel_rfl) (by assumption) ?_; (try simp only [Act.put, List.setIfInBounds_toArray, List.set_cons_zero, List.set_cons_succ]))
          (refine drop_at 20 (some 35) rfl rfl (by kernel_rfl) (by kernel_rfl) (by kernel_rfl) (fun _ _ _ h => h) (by kernel_rfl) (by assumption) ?_; (try simp only [Act.put, List.setIfInBounds_toArray, List.set_cons_zero, List.set_cons_succ]))
          (refine drop_at 21 (some 36) rfl rfl (by kernel_rfl) (by kernel_rfl) (by kernel_rfl) (fun _ _ _ h => h) (by kernel_rfl) (by assumption) ?_; (try simp only [Act.put, List.setIfInBounds_toArray, List.set_cons_zero, List.set_cons_succ]))
          (refine drop_at 22 (some 37) rfl rfl (by kernel_rfl) (by kernel_rfl) (by kernel_rfl) (fun _ _ _ h => h) (by kernel_rfl) (by assumption) ?_; (try simp only [Act.put, List.setIfInBounds_toArray, List.set_cons_zero, List.set_cons_succ]))
          (refine take_at 23 (some 38) rfl rfl (by kernel_rfl) (by kernel_rfl) (by kernel_rfl) (fun _ _ _ h => h) (v := ?_) (by kernel_rfl) ?_ (by assumption) ?_; rotate_left; (focus (intro wS hSw; skip; go_simp; try with_reducible rfl)); (try simp only [Act.put, List.setIfInBounds_toArray, List.set_cons_zero, List.set_cons_succ]))
          clear x0 x1 x2 x3 x4 x5 x6 x7 x8 x9 x10 x11 x12
          refine wpAnyH_done (by kernel_rfl) ?_ _
          have Hf2 := Lib.hid (Hw1.out.trans hHeld (fun _ _ h => h))
          clear hHeld
          go_wp2_with fail
          go_roundg (n - k)
          case measure => have := Hg.out; omega
          case rel => exact ⟨k + 1, _, by omega, by omega, rfl, by go_num, vic_no Hvp.out Hmay.out, Hf2.out⟩

        · rw [hea] at k3 hmay
          have K3 := Lib.hid k3
          have Hmay := Lib.hid hmay
          clear k3 hea hmay
          rcases Hvp.out with ⟨rfl, _⟩ | ⟨m, rfl, hm, _⟩
          · refine wp_region_held_drew (S := fun wx => NoW w1 wx) (by kernel_rfl) (Fp.drew (Fp.refl _ _)) (fun hHeld => ?_)
            (refine take_at 0 (some 15) rfl rfl (by kernel_rfl) (by kernel_rfl) (by kernel_rfl) (fun _ _ _ h => h) (v := ?_) (by kernel_rfl) ?_ (by assumption) ?_; rotate_left; (focus (intro wS hSw; (have y0 := (hSw.cell (p := ⟨g7, 0, none⟩) l7 id).trans x0); (have y1 := (hSw.cell (p := ⟨g7, 1, none⟩) l7 id).trans x1); (have y2 := (hSw.cell (p := ⟨g7, 2, none⟩) l7 id).trans x2); (have y3 := (hSw.cell (p := ⟨g7, 3, none⟩) l7 id).trans x3); (have y4 := (hSw.cell (p := ⟨g7, 4, none⟩) l7 id).trans x4); (have y5 := (hSw.cell (p := ⟨g7, 5, none⟩) l7 id).trans x5); (have y6 := (hSw.cell (p := ⟨g7, 6, none⟩) l7 id).trans x6); (have y7 := (hSw.cell (p := ⟨g7, 7, none⟩) l7 id).trans x7); (have y8 := (hSw.cell (p := ⟨g7, 8, none⟩) l7 id).trans x8); (have y9 := (hSw.cell (p := ⟨g7, 9, none⟩) l7 id).trans x9); (have y10 := (hSw.cell (p := ⟨g7, 10, none⟩) l7 id).trans x10); (have y11 := (hSw.cell (p := ⟨g7, 11, none⟩) l7 id).trans x11); (have y12 := (hSw.cell (p := ⟨g7, 12, none⟩) l7 id).trans x12); go_simp; try with_reducible rfl)); (try simp only [Act.put, List.setIfInBounds_toArray, List.set_cons_zero, List.set_cons_succ]))
            (refine take_at 1 (some 16) rfl rfl (by kernel_rfl) (by kernel_rfl) (by kernel_rfl) (fun _ _ _ h => h) (v := ?_) (by kernel_rfl) ?_ (by assumption) ?_; rotate_left; (focus (intro wS hSw; skip; go_simp; try with_reducible rfl)); (try simp only [Act.put, List.setIfInBounds_toArray, List.set_cons_zero, List.set_cons_succ]))
            refine wpAnyH_ready (rs := [2]) (by kernel_rfl) (by simp) ?_
            refine AllReadyH.cons rfl (fun K hK => ?_) AllReadyH.nil
            go_simp
            go_at_call 20
            refine (K1.out _).mono ?_
            rintro e u1 ⟨rfl, hp⟩
            have hn1 : NoW w1 u1 := Fp.trans hHeld hp (fun _ _ h => h)
            skip
            clear hp hHeld
            refine hK.out _ _ hn1 (fun hHeld => ?_)
            clear hK K
            try simp only [Act.put, List.setIfInBounds_toArray, List.set_cons_zero, List.set_cons_succ]
            (refine take_at 3 (some 18) rfl rfl (by kernel_rfl) (by kernel_rfl) (by kernel_rfl) (fun _ _ _ h => h) (v := ?_) (by kernel_rfl) ?_ (by assumption) ?_; rotate_left; (focus (intro wS hSw; skip; go_simp; try with_reducible rfl)); (try simp only [Act.put, List.setIfInBounds_toArray, List.set_cons_zero, List.set_cons_succ]))
            (refine take_at 4 (some 19) rfl rfl (by kernel_rfl) (by kernel_rfl) (by kernel_rfl) (fun _ _ _ h => h) (v := ?_) (by kernel_rfl) ?_ (by assumption) ?_; rotate_left; (focus (intro wS hSw; skip; go_simp; try with_reducible rfl)); (try simp only [Act.put, List.setIfInBounds_toArray, List.set_cons_zero, List.set_cons_succ]))
            (refine take_at 5 (some 20) rfl rfl (by kernel_rfl) (by kernel_rfl) (by kernel_rfl) (fun _ _ _ h => h) (v := ?_) (by kernel_rfl) ?_ (by assumption) ?_; rotate_left; (focus (intro wS hSw; skip; go_simp; try with_reducible rfl)); (try simp only [Act.put, List.setIfInBounds_toArray, List.set_cons_zero, List.set_cons_succ]))
            (refine take_at 6 (some 21) rfl rfl (by kernel_rfl) (by kernel_rfl) (by kernel_rfl) (fun _ _ _ h => h) (v := ?_) (by kernel_rfl) ?_ (by assumption) ?_; rotate_left; (focus (intro wS hSw; (have y0 := (hSw.cell (p := ⟨g7, 0, none⟩) l7 id).trans x0); go_simp; try with_reducible rfl)); (try simp only [Act.put, List.setIfInBounds_toArray, List.set_cons_zero, List.set_cons_succ]))
            (refine take_at 8 (some 23) rfl rfl (by kernel_rfl) (by kernel_rfl) (by kernel_rfl) (fun _ _ _ h => h) (v := ?_) (by kernel_rfl) ?_ (by assumption) ?_; rotate_left; (focus (intro wS hSw; skip; go_simp; try with_reducible rfl)); (try simp only [Act.put, List.setIfInBounds_toArray, List.set_cons_zero, List.set_cons_succ]))
            (refine take_at 9 (some 24) rfl rfl (by kernel_rfl) (by kernel_rfl) (by kernel_rfl) (fun _ _ _ h => h) (v := ?_) (by kernel_rfl) ?_ (by assumption) ?_; rotate_left; (focus (intro wS hSw; (have y10 := (hSw.cell (p := ⟨g7, 10, none⟩) l7 id).trans x10); go_simp; try with_reducible rfl)); (try simp only [Act.put, List.setIfInBounds_toArray, List.set_cons_zero, List.set_cons_succ]))
            refine wpAnyH_ready (rs := [7]) (by kernel_rfl) (by simp) ?_
            refine AllReadyH.cons rfl (fun K hK => ?_) AllReadyH.nil
            go_simp
            go_at_call 27
            refine (K2.out _).mono ?_
            rintro e u2 ⟨rfl, hp⟩
            have hn2 : NoW w1 u2 := Fp.trans hHeld hp (fun _ _ h => h)
            skip
            clear hp hHeld hn1
            refine hK.out _ _ hn2 (fun hHeld => ?_)
            clear hK K
            try simp only [Act.put, List.setIfInBounds_toArray, List.set_cons_zero, List.set_cons_succ]
            refine wpAnyH_ready (rs := [10]) (by kernel_rfl) (by simp) ?_
            refine AllReadyH.cons rfl (fun K hK => ?_) AllReadyH.nil
            go_simp
            go_at_call 26
            refine (K3.out _ (Ht.out.low (Hw1.out.trans hHeld (fun _ _ h => h)))).mono ?_
            rintro e u3 ⟨rfl, hp⟩
            have hn3 : NoW w1 u3 := Fp.trans hHeld hp (fun _ _ h => h)
            skip
            clear hp hHeld hn2
            refine hK.out _ _ hn3 (fun hHeld => ?_)
            clear hK K
            try simp only [Act.put, List.setIfInBounds_toArray, List.set_cons_zero, List.set_cons_succ]
            (refine take_at 11 (some 26) rfl rfl (by kernel_rfl) (by kernel_rfl) (by kernel_rfl) (fun _ _ _ h => h) (v := ?_) (by kernel_rfl) ?_ (by assumption) ?_; rotate_left; (focus (intro wS hSw; skip; go_simp; try with_reducible rfl)); (try simp only [Act.put, List.setIfInBounds_toArray, List.set_cons_zero, List.set_cons_succ]))
            (refine take_at 12 (some 27) rfl rfl (by kernel_rfl) (by kernel_rfl) (by kernel_rfl) (fun _ _ _ h => h) (v := ?_) (by kernel_rfl) ?_ (by assumption) ?_; rotate_left; (focus (intro wS hSw; skip; go_simp; try with_reducible rfl)); (try simp only [Act.put, List.setIfInBounds_toArray, List.set_cons_zero, List.set_cons_succ]))
            (refine take_at 13 (some 28) rfl rfl (by kernel_rfl) (by kernel_rfl) (by kernel_rfl) (fun _ _ _ h => h) (v := ?_) (by kernel_rfl) ?_ (by assumption) ?_; rotate_left; (focus (intro wS hSw; skip; go_simp; try with_reducible rfl)); (try simp only [Act.put, List.setIfInBounds_toArray, List.set_cons_zero, List.set_cons_succ]))
            (refine take_at 14 (some 29) rfl rfl (by kernel_rfl) (by kernel_rfl) (by kernel_rfl) (fun _ _ _ h => h) (v := ?_) (by kernel_rfl) ?_ (by assumption) ?_; rotate_left; (focus (intro wS hSw; skip; go_simp; try with_reducible rfl)); (try simp only [Act.put, List.setIfInBounds_toArray, List.set_cons_zero, List.set_cons_succ]))
            (refine take_at 15 (some 30) rfl rfl (by kernel_rfl) (by kernel_rfl) (by kernel_rfl) (fun _ _ _ h => h) (v := ?_) (by kernel_rfl) ?_ (by assumption) ?_; rotate_left; (focus (intro wS hSw; skip; go_simp; try with_reducible rfl)); (try simp only [Act.put, List.setIfInBounds_toArray, List.set_cons_zero, List.set_cons_succ]))
            (refine drop_at 16 (some 31) rfl rfl (by kernel_rfl) (by kernel_rfl) (by kernel_rfl) (fun _ _ _ h => h) (by kernel_rfl) (by assumption) ?_; (try simp only [Act.put, List.setIfInBounds_toArray, List.set_cons_zero, List.set_cons_succ]))
            (refine drop_at 17 (some 32) rfl rfl (by kernel_rfl) (by kernel_rfl) (by kernel_rfl) (fun _ _ _ h => h) (by kernel_rfl) (by assumption) ?_; (try simp only [Act.put, List.setIfInBounds_toArray, List.set_cons_zero, List.set_cons_succ]))
            (refine drop_at 18 (some 33) rfl rfl (by kernel_rfl) (by kernel_rfl) (by kernel_rfl) (fun _ _ _ h => h) (by kernel_rfl) (by assumption) ?_; (try simp only [Act.put, List.setIfInBounds_toArray, List.set_cons_zero, List.set_cons_succ]))
            (refine drop_at 19 (some 34) rfl rfl (by kernel_rfl) (by kernel_rfl) (by kernel_rfl) (fun _ _ _ h => h) (by kernel_rfl) (by assumption) ?_; (try simp only [Act.put, List.setIfInBounds_toArray, List.set_cons_zero, List.set_cons_succ]))
            (refine drop_at 20 (some 35) rfl rfl (by kernel_rfl) (by kernel_rfl) (by kernel_rfl) (fun _ _ _ h => h) (by kernel_rfl) (by assumption) ?_; (try simp only [Act.put, List.setIfInBounds_toArray, List.set_cons_zero, List.set_cons_succ]))
            (refine drop_at 21 (some 36) rfl rfl (by kernel_rfl) (by kernel_rfl) (by kernel_rfl) (fun _ _ _ h => h) (by kernel_rfl) (by assumption) ?_; (try simp only [Act.put, List.setIfInBounds_toArray, List.set_cons_zero, List.set_cons_succ]))
            (refine take_at 22 (some 37) rfl rfl (by kernel_rfl) (by kernel_rfl) (by kernel_rfl) (fun _ _ _ h => h) (v := ?_) (by kernel_rfl) ?_ (by assumption) ?_; rotate_left; (focus (intro wS hSw; skip; go_simp; try with_reducible rfl)); (try simp only [Act.put, List.setIfInBounds_toArray, List.set_cons_zero, List.set_cons_succ]))
            (refine take_at 23 (some 38) rfl rfl (by kernel_rfl) (by kernel_rfl) (by kernel_rfl) (fun _ _ _ h => h) (v := ?_) (by kernel_rfl) ?_ (by assumption) ?_; rotate_left; (focus (intro wS hSw; skip; go_simp; try with_reducible rfl)); (try simp only [Act.put, List.setIfInBounds_toArray, List.set_cons_zero, List.set_cons_succ]))
            clear x0 x1 x2 x3 x4 x5 x6 x7 x8 x9 x10 x11 x12
            refine wpAnyH_done (by kernel_rfl) ?_ _
            have Hf2 := Lib.hid (Hw1.out.trans hHeld (fun _ _ h => h))
            clear hHeld
            go_wp2_with fail
            go_roundg (n - k)
            case measure => have := Hg.out; omega
            case rel => exact ⟨k + 1, _, by omega, by omega, rfl, by go_num, vic_first Hvp.out Hmay.out, Hf2.out⟩

          · have hmn : m < n := by omega
            obtain ⟨b1, o1, e1, hc1⟩ := HE.out.at' m hmn
            obtain ⟨rfl, rfl⟩ : b0 = b1 ∧ o0 = o1 := by simpa using e1
            have hokm := HE.out.ok m hmn
            have hcw : ∀ j v, (E m).cs[j]? = some v → w1.cell? ⟨b0, o0 + m * 13 + j, none⟩ = some v := fun j v hj => (Hw1.out.cell (p := ⟨b0, o0 + m * 13 + j, none⟩) (cell_lt (hc1 j v hj)) id).trans (hc1 j v hj)
            rcases hem : E m with ⟨r', a', p', b', q', r2', a2', p2', b2', q2', st', dl', ad', hn', hc'⟩
            rw [hem] at hcw hokm
            have z0 : w1.cell? ⟨b0, o0 + m * 13, none⟩ = some (.int .u8 r') := hcw 0 _ rfl
            have z1 : w1.cell? ⟨b0, o0 + m * 13 + 1, none⟩ = some (.int .u32 a') := hcw 1 _ rfl
            have z2 : w1.cell? ⟨b0, o0 + m * 13 + 2, none⟩ = some (.int .u16 p') := hcw 2 _ rfl
            have z3 : w1.cell? ⟨b0, o0 + m * 13 + 3, none⟩ = some (.int .u32 b') := hcw 3 _ rfl
            have z4 : w1.cell? ⟨b0, o0 + m * 13 + 4, none⟩ = some (.int .u16 q') := hcw 4 _ rfl
            have z5 : w1.cell? ⟨b0, o0 + m * 13 + 5, none⟩ = some (.int .u8 r2') := hcw 5 _ rfl
            have z6 : w1.cell? ⟨b0, o0 + m * 13 + 6, none⟩ = some (.int .u32 a2') := hcw 6 _ rfl
            have z7 : w1.cell? ⟨b0, o0 + m * 13 + 7, none⟩ = some (.int .u16 p2') := hcw 7 _ rfl
            have z8 : w1.cell? ⟨b0, o0 + m * 13 + 8, none⟩ = some (.int .u32 b2') := hcw 8 _ rfl
            have z9 : w1.cell? ⟨b0, o0 + m * 13 + 9, none⟩ = some (.int .u16 q2') := hcw 9 _ rfl
            have z10 : w1.cell? ⟨b0, o0 + m * 13 + 10, none⟩ = some (.int .i64 st') := hcw 10 _ rfl
            have z11 : w1.cell? ⟨b0, o0 + m * 13 + 11, none⟩ = some (.int .i64 dl') := hcw 11 _ rfl
            have z12 : w1.cell? ⟨b0, o0 + m * 13 + 12, none⟩ = some (.slice ad' hn' hc') := hcw 12 _ rfl

            have lb : b0 < w1.heap.size := cell_lt z0
            have k4 := fun W => eless_ok r a p b q r' a' p' b' q' r2 a2 p2 b2 q2 r2' a2' p2' b2' q2' st st' dl dl' (.slice ad hn hc) (.slice ad' hn' hc') Hok.out.a Hok.out.p Hok.out.b Hok.out.q hokm.a hokm.p hokm.b hokm.q W
            have hle : (E k).less (E m) = elB dl (tkey r a p b q) dl' (tkey r' a' p' b' q') := by rw [Hek.out, hem]; rfl
            have hm0 : decide ((m : Int) < 0) = false := by simp
            clear hc1 hcw hokm hem e1
            rcases hz : elB dl (tkey r a p b q) dl' (tkey r' a' p' b' q') with _ | _
            · rw [hz] at k4 hle
              have K4 := Lib.hid k4
              have Hle := Lib.hid hle
              clear k4 hz hle
              refine wp_region_held_drew (S := fun wx => NoW w1 wx) (by kernel_rfl) (Fp.drew (Fp.refl _ _)) (fun hHeld => ?_)
              (refine take_at 0 (some 15) rfl rfl (by kernel_rfl) (by kernel_rfl) (by kernel_rfl) (fun _ _ _ h => h) (v := ?_) (by kernel_rfl) ?_ (by assumption) ?_; rotate_left; (focus (intro wS hSw; (have y0 := (hSw.cell (p := ⟨g7, 0, none⟩) l7 id).trans x0); (have y1 := (hSw.cell (p := ⟨g7, 1, none⟩) l7 id).trans x1); (have y2 := (hSw.cell (p := ⟨g7, 2, none⟩) l7 id).trans x2); (have y3 := (hSw.cell (p := ⟨g7, 3, none⟩) l7 id).trans x3); (have y4 := (hSw.cell (p := ⟨g7, 4, none⟩) l7 id).trans x4); (have y5 := (hSw.cell (p := ⟨g7, 5, none⟩) l7 id).trans x5); (have y6 := (hSw.cell (p := ⟨g7, 6, none⟩) l7 id).trans x6); (have y7 := (hSw.cell (p := ⟨g7, 7, none⟩) l7 id).trans x7); (have y8 := (hSw.cell (p := ⟨g7, 8, none⟩) l7 id).trans x8); (have y9 := (hSw.cell (p := ⟨g7, 9, none⟩) l7 id).trans x9); (have y10 := (hSw.cell (p := ⟨g7, 10, none⟩) l7 id).trans x10); (have y11 := (hSw.cell (p := ⟨g7, 11, none⟩) l7 id).trans x11); (have y12 := (hSw.cell (p := ⟨g7, 12, none⟩) l7 id).trans x12); go_simp; try with_reducible rfl)); (try simp only [Act.put, List.setIfInBounds_toArray, List.set_cons_zero, List.set_cons_succ]))
              (refine take_at 1 (some 16) rfl rfl (by kernel_rfl) (by kernel_rfl) (by kernel_rfl) (fun _ _ _ h => h) (v := ?_) (by kernel_rfl) ?_ (by assumption) ?_; rotate_left; (focus (intro wS hSw; skip; go_simp; try with_reducible rfl)); (try simp only [Act.put, List.setIfInBounds_toArray, List.set_cons_zero, List.set_cons_succ]))
              refine wpAnyH_ready (rs := [2]) (by kernel_rfl) (by simp) ?_
              refine AllReadyH.cons rfl (fun K hK => ?_) AllReadyH.nil
              go_simp
              go_at_call 20
              refine (K1.out _).mono ?_
              rintro e u1 ⟨rfl, hp⟩
              have hn1 : NoW w1 u1 := Fp.trans hHeld hp (fun _ _ h => h)
              skip
              clear hp hHeld
              refine hK.out _ _ hn1 (fun hHeld => ?_)
              clear hK K
              try simp only [Act.put, List.setIfInBounds_toArray, List.set_cons_zero, List.set_cons_succ]
              (refine take_at 3 (some 18) rfl rfl (by kernel_rfl) (by kernel_rfl) (by kernel_rfl) (fun _ _ _ h => h) (v := ?_) (by kernel_rfl) ?_ (by assumption) ?_; rotate_left; (focus (intro wS hSw; skip; go_simp; try with_reducible rfl)); (try simp only [Act.put, List.setIfInBounds_toArray, List.set_cons_zero, List.set_cons_succ]))
              (refine take_at 4 (some 19) rfl rfl (by kernel_rfl) (by kernel_rfl) (by kernel_rfl) (fun _ _ _ h => h) (v := ?_) (by kernel_rfl) ?_ (by assumption) ?_; rotate_left; (focus (intro wS hSw; skip; go_simp; try with_reducible rfl)); (try simp only [Act.put, List.setIfInBounds_toArray, List.set_cons_zero, List.set_cons_succ]))
              (refine take_at 5 (some 20) rfl rfl (by kernel_rfl) (by kernel_rfl) (by kernel_rfl) (fun _ _ _ h => h) (v := ?_) (by kernel_rfl) ?_ (by assumption) ?_; rotate_left; (focus (intro wS hSw; skip; go_simp; try with_reducible rfl)); (try simp only [Act.put, List.setIfInBounds_toArray, List.set_cons_zero, List.set_cons_succ]))
              (refine take_at 6 (some 21) rfl rfl (by kernel_rfl) (by kernel_rfl) (by kernel_rfl) (fun _ _ _ h => h) (v := ?_) (by kernel_rfl) ?_ (by assumption) ?_; rotate_left; (focus (intro wS hSw; (have y0 := (hSw.cell (p := ⟨g7, 0, none⟩) l7 id).trans x0); go_simp; try with_reducible rfl)); (try simp only [Act.put, List.setIfInBounds_toArray, List.set_cons_zero, List.set_cons_succ]))
              (refine take_at 8 (some 23) rfl rfl (by kernel_rfl) (by kernel_rfl) (by kernel_rfl) (fun _ _ _ h => h) (v := ?_) (by kernel_rfl) ?_ (by assumption) ?_; rotate_left; (focus (intro wS hSw; skip; go_simp; try with_reducible rfl)); (try simp only [Act.put, List.setIfInBounds_toArray, List.set_cons_zero, List.set_cons_succ]))
              (refine take_at 9 (some 24) rfl rfl (by kernel_rfl) (by kernel_rfl) (by kernel_rfl) (fun _ _ _ h => h) (v := ?_) (by kernel_rfl) ?_ (by assumption) ?_; rotate_left; (focus (intro wS hSw; (have y10 := (hSw.cell (p := ⟨g7, 10, none⟩) l7 id).trans x10); go_simp; try with_reducible rfl)); (try simp only [Act.put, List.setIfInBounds_toArray, List.set_cons_zero, List.set_cons_succ]))
              refine wpAnyH_ready (rs := [7]) (by kernel_rfl) (by simp) ?_
              refine AllReadyH.cons rfl (fun K hK => ?_) AllReadyH.nil
              go_simp
              go_at_call 27
              refine (K2.out _).mono ?_
              rintro e u2 ⟨rfl, hp⟩
              have hn2 : NoW w1 u2 := Fp.trans hHeld hp (fun _ _ h => h)
              skip
              clear hp hHeld hn1
              refine hK.out _ _ hn2 (fun hHeld => ?_)
              clear hK K
              try simp only [Act.put, List.setIfInBounds_toArray, List.set_cons_zero, List.set_cons_succ]
              refine wpAnyH_ready (rs := [10]) (by kernel_rfl) (by simp) ?_
              refine AllReadyH.cons rfl (fun K hK => ?_) AllReadyH.nil
              go_simp
              go_at_call 26
              refine (K3.out _ (Ht.out.low (Hw1.out.trans hHeld (fun _ _ h => h)))).mono ?_
              rintro e u3 ⟨rfl, hp⟩
              have hn3 : NoW w1 u3 := Fp.trans hHeld hp (fun _ _ h => h)
              skip
              clear hp hHeld hn2
              refine hK.out _ _ hn3 (fun hHeld => ?_)
              clear hK K
              try simp only [Act.put, List.setIfInBounds_toArray, List.set_cons_zero, List.set_cons_succ]
              (refine take_at 11 (some 26) rfl rfl (by kernel_rfl) (by kernel_rfl) (by kernel_rfl) (fun _ _ _ h => h) (v := ?_) (by kernel_rfl) ?_ (by assumption) ?_; rotate_left; (focus (intro wS hSw; skip; go_simp; try with_reducible rfl)); (try simp only [Act.put, List.setIfInBounds_toArray, List.set_cons_zero, List.set_cons_succ]))
              (refine take_at 12 (some 27) rfl rfl (by kernel_rfl) (by kernel_rfl) (by kernel_rfl) (fun _ _ _ h => h) (v := ?_) (by kernel_rfl) ?_ (by assumption) ?_; rotate_left; (focus (intro wS hSw; skip; go_simp; try with_reducible rfl)); (try simp only [Act.put, List.setIfInBounds_toArray, List.set_cons_zero, List.set_cons_succ]))
              (refine take_at 13 (some 28) rfl rfl (by kernel_rfl) (by kernel_rfl) (by kernel_rfl) (fun _ _ _ h => h) (v := ?_) (by kernel_rfl) ?_ (by assumption) ?_; rotate_left; (focus (intro wS hSw; skip; go_simp; try with_reducible rfl)); (try simp only [Act.put, List.setIfInBounds_toArray, List.set_cons_zero, List.set_cons_succ]))
              (refine take_at 14 (some 29) rfl rfl (by kernel_rfl) (by kernel_rfl) (by kernel_rfl) (fun _ _ _ h => h) (v := ?_) (by kernel_rfl) ?_ (by assumption) ?_; rotate_left; (focus (intro wS hSw; skip; go_simp; try with_reducible rfl)); (try simp only [Act.put, List.setIfInBounds_toArray, List.set_cons_zero, List.set_cons_succ]))
              (refine take_at 15 (some 30) rfl rfl (by kernel_rfl) (by kernel_rfl) (by kernel_rfl) (fun _ _ _ h => h) (v := ?_) (by kernel_rfl) ?_ (by assumption) ?_; rotate_left; (focus (intro wS hSw; skip; go_simp; try with_reducible rfl)); (try simp only [Act.put, List.setIfInBounds_toArray, List.set_cons_zero, List.set_cons_succ]))
              (refine take_at 16 (some 31) rfl rfl (by kernel_rfl) (by kernel_rfl) (by kernel_rfl) (fun _ _ _ h => h) (v := ?_) (by kernel_rfl) ?_ (by assumption) ?_; rotate_left; (focus (intro wS hSw; (have y0 := (hSw.cell (p := ⟨g7, 0, none⟩) l7 id).trans x0); (have y1 := (hSw.cell (p := ⟨g7, 1, none⟩) l7 id).trans x1); (have y2 := (hSw.cell (p := ⟨g7, 2, none⟩) l7 id).trans x2); (have y3 := (hSw.cell (p := ⟨g7, 3, none⟩) l7 id).trans x3); (have y4 := (hSw.cell (p := ⟨g7, 4, none⟩) l7 id).trans x4); (have y5 := (hSw.cell (p := ⟨g7, 5, none⟩) l7 id).trans x5); (have y6 := (hSw.cell (p := ⟨g7, 6, none⟩) l7 id).trans x6); (have y7 := (hSw.cell (p := ⟨g7, 7, none⟩) l7 id).trans x7); (have y8 := (hSw.cell (p := ⟨g7, 8, none⟩) l7 id).trans x8); (have y9 := (hSw.cell (p := ⟨g7, 9, none⟩) l7 id).trans x9); (have y10 := (hSw.cell (p := ⟨g7, 10, none⟩) l7 id).trans x10); (have y11 := (hSw.cell (p := ⟨g7, 11, none⟩) l7 id).trans x11); (have y12 := (hSw.cell (p := ⟨g7, 12, none⟩) l7 id).trans x12); go_simp; try with_reducible rfl)); (try simp only [Act.put, List.setIfInBounds_toArray, List.set_cons_zero, List.set_cons_succ]))
              (refine take_at 17 (some 32) rfl rfl (by kernel_rfl) (by kernel_rfl) (by kernel_rfl) (fun _ _ _ h => h) (v := ?_) (by kernel_rfl) ?_ (by assumption) ?_; rotate_left; (focus (intro wS hSw; skip; go_simp; try with_reducible rfl)); (try simp only [Act.put, List.setIfInBounds_toArray, List.set_cons_zero, List.set_cons_succ]))
              (refine take_at 18 (some 33) rfl rfl (by kernel_rfl) (by kernel_rfl) (by kernel_rfl) (fun _ _ _ h => h) (v := ?_) (by kernel_rfl) ?_ (by assumption) ?_; rotate_left; (focus (intro wS hSw; skip; go_simp; try with_reducible rfl)); (try simp only [Act.put, List.setIfInBounds_toArray, List.set_cons_zero, List.set_cons_succ]))
              (refine take_at 19 (some 34) rfl rfl (by kernel_rfl) (by kernel_rfl) (by kernel_rfl) (fun _ _ _ h => h) (v := ?_) (by kernel_rfl) ?_ (by assumption) ?_; rotate_left; (focus (intro wS hSw; skip; go_simp; try with_reducible rfl)); (try simp only [Act.put, List.setIfInBounds_toArray, List.set_cons_zero, List.set_cons_succ]))
              (refine take_at 20 (some 35) rfl rfl (by kernel_rfl) (by kernel_rfl) (by kernel_rfl) (fun _ _ _ h => h) (v := ?_) (by kernel_rfl) ?_ (by assumption) ?_; rotate_left; (focus (intro wS hSw; (have q0 := (hSw.cell (p := ⟨b0, o0 + m * 13, none⟩) lb id).trans z0); (have q1 := (hSw.cell (p := ⟨b0, o0 + m * 13 + 1, none⟩) lb id).trans z1); (have q2 := (hSw.cell (p := ⟨b0, o0 + m * 13 + 2, none⟩) lb id).trans z2); (have q3 := (hSw.cell (p := ⟨b0, o0 + m * 13 + 3, none⟩) lb id).trans z3); (have q4 := (hSw.cell (p := ⟨b0, o0 + m * 13 + 4, none⟩) lb id).trans z4); (have q5 := (hSw.cell (p := ⟨b0, o0 + m * 13 + 5, none⟩) lb id).trans z5); (have q6 := (hSw.cell (p := ⟨b0, o0 + m * 13 + 6, none⟩) lb id).trans z6); (have q7 := (hSw.cell (p := ⟨b0, o0 + m * 13 + 7, none⟩) lb id).trans z7); (have q8 := (hSw.cell (p := ⟨b0, o0 + m * 13 + 8, none⟩) lb id).trans z8); (have q9 := (hSw.cell (p := ⟨b0, o0 + m * 13 + 9, none⟩) lb id).trans z9); (have q10 := (hSw.cell (p := ⟨b0, o0 + m * 13 + 10, none⟩) lb id).trans z10); (have q11 := (hSw.cell (p := ⟨b0, o0 + m * 13 + 11, none⟩) lb id).trans z11); (have q12 := (hSw.cell (p := ⟨b0, o0 + m * 13 + 12, none⟩) lb id).trans z12); go_simp; try with_reducible rfl)); (try simp only [Act.put, List.setIfInBounds_toArray, List.set_cons_zero, List.set_cons_succ]))
              refine wpAnyH_ready (rs := [21]) (by kernel_rfl) (by simp) ?_
              refine AllReadyH.cons rfl (fun K hK => ?_) AllReadyH.nil
              go_simp
              go_at_call 28
              refine (K4.out _).mono ?_
              rintro e u4 ⟨rfl, hp⟩
              have hn4 : NoW w1 u4 := Fp.trans hHeld hp (fun _ _ h => h)
              skip
              clear hp hHeld hn3
              refine hK.out _ _ hn4 (fun hHeld => ?_)
              clear hK K
              try simp only [Act.put, List.setIfInBounds_toArray, List.set_cons_zero, List.set_cons_succ]
              (refine take_at 22 (some 37) rfl rfl (by kernel_rfl) (by kernel_rfl) (by kernel_rfl) (fun _ _ _ h => h) (v := ?_) (by kernel_rfl) ?_ (by assumption) ?_; rotate_left; (focus (intro wS hSw; skip; go_simp; try with_reducible rfl)); (try simp only [Act.put, List.setIfInBounds_toArray, List.set_cons_zero, List.set_cons_succ]))
              (refine take_at 23 (some 38) rfl rfl (by kernel_rfl) (by kernel_rfl) (by kernel_rfl) (fun _ _ _ h => h) (v := ?_) (by kernel_rfl) ?_ (by assumption) ?_; rotate_left; (focus (intro wS hSw; skip; go_simp; try with_reducible rfl)); (try simp only [Act.put, List.setIfInBounds_toArray, List.set_cons_zero, List.set_cons_succ]))
              clear x0 x1 x2 x3 x4 x5 x6 x7 x8 x9 x10 x11 x12 z0 z1 z2 z3 z4 z5 z6 z7 z8 z9 z10 z11 z12
              refine wpAnyH_done (by kernel_rfl) ?_ _
              have Hf2 := Lib.hid (Hw1.out.trans hHeld (fun _ _ h => h))
              clear hHeld
              go_wp2_with fail
              go_roundg (n - k)
              case measure => have := Hg.out; omega
              case rel => exact ⟨k + 1, _, by omega, by omega, rfl, by go_num, vic_keep Hvp.out Hle.out, Hf2.out⟩

            · rw [hz] at k4 hle
              have K4 := Lib.hid k4
              have Hle := Lib.hid hle
              clear k4 hz hle
              refine wp_region_held_drew (S := fun wx => NoW w1 wx) (by kernel_rfl) (Fp.drew (Fp.refl _ _)) (fun hHeld => ?_)
              (refine take_at 0 (some 15) rfl rfl (by kernel_rfl) (by kernel_rfl) (by kernel_rfl) (fun _ _ _ h => h) (v := ?_) (by kernel_rfl) ?_ (by assumption) ?_; rotate_left; (focus (intro wS hSw; (have y0 := (hSw.cell (p := ⟨g7, 0, none⟩) l7 id).trans x0); (have y1 := (hSw.cell (p := ⟨g7, 1, none⟩) l7 id).trans x1); (have y2 := (hSw.cell (p := ⟨g7, 2, none⟩) l7 id).trans x2); (have y3 := (hSw.cell (p := ⟨g7, 3, none⟩) l7 id).trans x3); (have y4 := (hSw.cell (p := ⟨g7, 4, none⟩) l7 id).trans x4); (have y5 := (hSw.cell (p := ⟨g7, 5, none⟩) l7 id).trans x5); (have y6 := (hSw.cell (p := ⟨g7, 6, none⟩) l7 id).trans x6); (have y7 := (hSw.cell (p := ⟨g7, 7, none⟩) l7 id).trans x7); (have y8 := (hSw.cell (p := ⟨g7, 8, none⟩) l7 id).trans x8); (have y9 := (hSw.cell (p := ⟨g7, 9, none⟩) l7 id).trans x9); (have y10 := (hSw.cell (p := ⟨g7, 10, none⟩) l7 id).trans x10); (have y11 := (hSw.cell (p := ⟨g7, 11, none⟩) l7 id).trans x11); (have y12 := (hSw.cell (p := ⟨g7, 12, none⟩) l7 id).trans x12); go_simp; try with_reducible rfl)); (try simp only [Act.put, List.setIfInBounds_toArray, List.set_cons_zero, List.set_cons_succ]))
              (refine take_at 1 (some 16) rfl rfl (by kernel_rfl) (by kernel_rfl) (by kernel_rfl) (fun _ _ _ h => h) (v := ?_) (by kernel_rfl) ?_ (by assumption) ?_; rotate_left; (focus (intro wS hSw; skip; go_simp; try with_reducible rfl)); (try simp only [Act.put, List.setIfInBounds_toArray, List.set_cons_zero, List.set_cons_succ]))
              refine wpAnyH_ready (rs := [2]) (by kernel_rfl) (by simp) ?_
              refine AllReadyH.cons rfl (fun K hK => ?_) AllReadyH.nil
              go_simp
              go_at_call 20
              refine (K1.out _).mono ?_
              rintro e u1 ⟨rfl, hp⟩
              have hn1 : NoW w1 u1 := Fp.trans hHeld hp (fun _ _ h => h)
              skip
              clear hp hHeld
              refine hK.out _ _ hn1 (fun hHeld => ?_)
              clear hK K
              try simp only [Act.put, List.setIfInBounds_toArray, List.set_cons_zero, List.set_cons_succ]
              (refine take_at 3 (some 18) rfl rfl (by kernel_rfl) (by kernel_rfl) (by kernel_rfl) (fun _ _ _ h => h) (v := ?_) (by kernel_rfl) ?_ (by assumption) ?_; rotate_left; (focus (intro wS hSw; skip; go_simp; try with_reducible rfl)); (try simp only [Act.put, List.setIfInBounds_toArray, List.set_cons_zero, List.set_cons_succ]))
              (refine take_at 4 (some 19) rfl rfl (by kernel_rfl) (by kernel_rfl) (by kernel_rfl) (fun _ _ _ h => h) (v := ?_) (by kernel_rfl) ?_ (by assumption) ?_; rotate_left; (focus (intro wS hSw; skip; go_simp; try with_reducible rfl)); (try simp only [Act.put, List.setIfInBounds_toArray, List.set_cons_zero, List.set_cons_succ]))
              (refine take_at 5 (some 20) rfl rfl (by kernel_rfl) (by kernel_rfl) (by kernel_rfl) (fun _ _ _ h => h) (v := ?_) (by kernel_rfl) ?_ (by assumption) ?_; rotate_left; (focus (intro wS hSw; skip; go_simp; try with_reducible rfl)); (try simp only [Act.put, List.setIfInBounds_toArray, List.set_cons_zero, List.set_cons_succ]))
              (refine take_at 6 (some 21) rfl rfl (by kernel_rfl) (by kernel_rfl) (by kernel_rfl) (fun _ _ _ h => h) (v := ?_) (by kernel_rfl) ?_ (by assumption) ?_; rotate_left; (focus (intro wS hSw; (have y0 := (hSw.cell (p := ⟨g7, 0, none⟩) l7 id).trans x0); go_simp; try with_reducible rfl)); (try simp only [Act.put, List.setIfInBounds_toArray, List.set_cons_zero, List.set_cons_succ]))
              (refine take_at 8 (some 23) rfl rfl (by kernel_rfl) (by kernel_rfl) (by kernel_rfl) (fun _ _ _ h => h) (v := ?_) (by kernel_rfl) ?_ (by assumption) ?_; rotate_left; (focus (intro wS hSw; skip; go_simp; try with_reducible rfl)); (try simp only [Act.put, List.setIfInBounds_toArray, List.set_cons_zero, List.set_cons_succ]))
              (refine take_at 9 (some 24) rfl rfl (by kernel_rfl) (by kernel_rfl) (by kernel_rfl) (fun _ _ _ h => h) (v := ?_) (by kernel_rfl) ?_ (by assumption) ?_; rotate_left; (focus (intro wS hSw; (have y10 := (hSw.cell (p := ⟨g7, 10, none⟩) l7 id).trans x10); go_simp; try with_reducible rfl)); (try simp only [Act.put, List.setIfInBounds_toArray, List.set_cons_zero, List.set_cons_succ]))
              refine wpAnyH_ready (rs := [7]) (by kernel_rfl) (by simp) ?_
              refine AllReadyH.cons rfl (fun K hK => ?_) AllReadyH.nil
              go_simp
              go_at_call 27
              refine (K2.out _).mono ?_
              rintro e u2 ⟨rfl, hp⟩
              have hn2 : NoW w1 u2 := Fp.trans hHeld hp (fun _ _ h => h)
              skip
              clear hp hHeld hn1
              refine hK.out _ _ hn2 (fun hHeld => ?_)
              clear hK K
              try simp only [Act.put, List.setIfInBounds_toArray, List.set_cons_zero, List.set_cons_succ]
              refine wpAnyH_ready (rs := [10]) (by kernel_rfl) (by simp) ?_
              refine AllReadyH.cons rfl (fun K hK => ?_) AllReadyH.nil
              go_simp
              go_at_call 26
              refine (K3.out _ (Ht.out.low (Hw1.out.trans hHeld (fun _ _ h => h)))).mono ?_
              rintro e u3 ⟨rfl, hp⟩
              have hn3 : NoW w1 u3 := Fp.trans hHeld hp (fun _ _ h => h)
              skip
              clear hp hHeld hn2
              refine hK.out _ _ hn3 (fun hHeld => ?_)
              clear hK K
              try simp only [Act.put, List.setIfInBounds_toArray, List.set_cons_zero, List.set_cons_succ]
              (refine take_at 11 (some 26) rfl rfl (by kernel_rfl) (by kernel_rfl) (by kernel_rfl) (fun _ _ _ h => h) (v := ?_) (by kernel_rfl) ?_ (by assumption) ?_; rotate_left; (focus (intro wS hSw; skip; go_simp; try with_reducible rfl)); (try simp only [Act.put, List.setIfInBounds_toArray, List.set_cons_zero, List.set_cons_succ]))
              (refine take_at 12 (some 27) rfl rfl (by kernel_rfl) (by kernel_rfl) (by kernel_rfl) (fun _ _ _ h => h) (v := ?_) (by kernel_rfl) ?_ (by assumption) ?_; rotate_left; (focus (intro wS hSw; skip; go_simp; try with_reducible rfl)); (try simp only [Act.put, List.setIfInBounds_toArray, List.set_cons_zero, List.set_cons_succ]))
              (refine take_at 13 (some 28) rfl rfl (by kernel_rfl) (by kernel_rfl) (by kernel_rfl) (fun _ _ _ h => h) (v := ?_) (by kernel_rfl) ?_ (by assumption) ?_; rotate_left; (focus (intro wS hSw; skip; go_simp; try with_reducible rfl)); (try simp only [Act.put, List.setIfInBounds_toArray, List.set_cons_zero, List.set_cons_succ]))
              (refine take_at 14 (some 29) rfl rfl (by kernel_rfl) (by kernel_rfl) (by kernel_rfl) (fun _ _ _ h => h) (v := ?_) (by kernel_rfl) ?_ (by assumption) ?_; rotate_left; (focus (intro wS hSw; skip; go_simp; try with_reducible rfl)); (try simp only [Act.put, List.setIfInBounds_toArray, List.set_cons_zero, List.set_cons_succ]))
              (refine take_at 15 (some 30) rfl rfl (by kernel_rfl) (by kernel_rfl) (by kernel_rfl) (fun _ _ _ h => h) (v := ?_) (by kernel_rfl) ?_ (by assumption) ?_; rotate_left; (focus (intro wS hSw; skip; go_simp; try with_reducible rfl)); (try simp only [Act.put, List.setIfInBounds_toArray, List.set_cons_zero, List.set_cons_succ]))
              (refine take_at 16 (some 31) rfl rfl (by kernel_rfl) (by kernel_rfl) (by kernel_rfl) (fun _ _ _ h => h) (v := ?_) (by kernel_rfl) ?_ (by assumption) ?_; rotate_left; (focus (intro wS hSw; (have y0 := (hSw.cell (p := ⟨g7, 0, none⟩) l7 id).trans x0); (have y1 := (hSw.cell (p := ⟨g7, 1, none⟩) l7 id).trans x1); (have y2 := (hSw.cell (p := ⟨g7, 2, none⟩) l7 id).trans x2); (have y3 := (hSw.cell (p := ⟨g7, 3, none⟩) l7 id).trans x3); (have y4 := (hSw.cell (p := ⟨g7, 4, none⟩) l7 id).trans x4); (have y5 := (hSw.cell (p := ⟨g7, 5, none⟩) l7 id).trans x5); (have y6 := (hSw.cell (p := ⟨g7, 6, none⟩) l7 id).trans x6); (have y7 := (hSw.cell (p := ⟨g7, 7, none⟩) l7 id).trans x7); (have y8 := (hSw.cell (p := ⟨g7, 8, none⟩) l7 id).trans x8); (have y9 := (hSw.cell (p := ⟨g7, 9, none⟩) l7 id).trans x9); (have y10 := (hSw.cell (p := ⟨g7, 10, none⟩) l7 id).trans x10); (have y11 := (hSw.cell (p := ⟨g7, 11, none⟩) l7 id).trans x11); (have y12 := (hSw.cell (p := ⟨g7, 12, none⟩) l7 id).trans x12); go_simp; try with_reducible rfl)); (try simp only [Act.put, List.setIfInBounds_toArray, List.set_cons_zero, List.set_cons_succ]))
              (refine take_at 17 (some 32) rfl rfl (by kernel_rfl) (by kernel_rfl) (by kernel_rfl) (fun _ _ _ h => h) (v := ?_) (by kernel_rfl) ?_ (by assumption) ?_; rotate_left; (focus (intro wS hSw; skip; go_simp; try with_reducible rfl)); (try simp only [Act.put, List.setIfInBounds_toArray, List.set_cons_zero, List.set_cons_succ]))
              (refine take_at 18 (some 33) rfl rfl (by kernel_rfl) (by kernel_rfl) (by kernel_rfl) (fun _ _ _ h => h) (v := ?_) (by kernel_rfl) ?_ (by assumption) ?_; rotate_left; (focus (intro wS hSw; skip; go_simp; try with_reducible rfl)); (try simp only [Act.put, List.setIfInBounds_toArray, List.set_cons_zero, List.set_cons_succ]))
              (refine take_at 19 (some 34) rfl rfl (by kernel_rfl) (by kernel_rfl) (by kernel_rfl) (fun _ _ _ h => h) (v := ?_) (by kernel_rfl) ?_ (by assumption) ?_; rotate_left; (focus (intro wS hSw; skip; go_simp; try with_reducible rfl)); (try simp only [Act.put, List.setIfInBounds_toArray, List.set_cons_zero, List.set_cons_succ]))
              (refine take_at 20 (some 35) rfl rfl (by kernel_rfl) (by kernel_rfl) (by kernel_rfl) (fun _ _ _ h => h) (v := ?_) (by kernel_rfl) ?_ (by assumption) ?_; rotate_left; (focus (intro wS hSw; (have q0 := (hSw.cell (p := ⟨b0, o0 + m * 13, none⟩) lb id).trans z0); (have q1 := (hSw.cell (p := ⟨b0, o0 + m * 13 + 1, none⟩) lb id).trans z1); (have q2 := (hSw.cell (p := ⟨b0, o0 + m * 13 + 2, none⟩) lb id).trans z2); (have q3 := (hSw.cell (p := ⟨b0, o0 + m * 13 + 3, none⟩) lb id).trans z3); (have q4 := (hSw.cell (p := ⟨b0, o0 + m * 13 + 4, none⟩) lb id).trans z4); (have q5 := (hSw.cell (p := ⟨b0, o0 + m * 13 + 5, none⟩) lb id).trans z5); (have q6 := (hSw.cell (p := ⟨b0, o0 + m * 13 + 6, none⟩) lb id).trans z6); (have q7 := (hSw.cell (p := ⟨b0, o0 + m * 13 + 7, none⟩) lb id).trans z7); (have q8 := (hSw.cell (p := ⟨b0, o0 + m * 13 + 8, none⟩) lb id).trans z8); (have q9 := (hSw.cell (p := ⟨b0, o0 + m * 13 + 9, none⟩) lb id).trans z9); (have q10 := (hSw.cell (p := ⟨b0, o0 + m * 13 + 10, none⟩) lb id).trans z10); (have q11 := (hSw.cell (p := ⟨b0, o0 + m * 13 + 11, none⟩) lb id).trans z11); (have q12 := (hSw.cell (p := ⟨b0, o0 + m * 13 + 12, none⟩) lb id).trans z12); go_simp; try with_reducible rfl)); (try simp only [Act.put, List.setIfInBounds_toArray, List.set_cons_zero, List.set_cons_succ]))
              refine wpAnyH_ready (rs := [21]) (by kernel_rfl) (by simp) ?_
              refine AllReadyH.cons rfl (fun K hK => ?_) AllReadyH.nil
              go_simp
              go_at_call 28
              refine (K4.out _).mono ?_
              rintro e u4 ⟨rfl, hp⟩
              have hn4 : NoW w1 u4 := Fp.trans hHeld hp (fun _ _ h => h)
              skip
              clear hp hHeld hn3
              refine hK.out _ _ hn4 (fun hHeld => ?_)
              clear hK K
              try simp only [Act.put, List.setIfInBounds_toArray, List.set_cons_zero, List.set_cons_succ]
              (refine take_at 22 (some 37) rfl rfl (by kernel_rfl) (by kernel_rfl) (by kernel_rfl) (fun _ _ _ h => h) (v := ?_) (by kernel_rfl) ?_ (by assumption) ?_; rotate_left; (focus (intro wS hSw; skip; go_simp; try with_reducible rfl)); (try simp only [Act.put, List.setIfInBounds_toArray, List.set_cons_zero, List.set_cons_succ]))
              (refine take_at 23 (some 38) rfl rfl (by kernel_rfl) (by kernel_rfl) (by kernel_rfl) (fun _ _ _ h => h) (v := ?_) (by kernel_rfl) ?_ (by assumption) ?_; rotate_left; (focus (intro wS hSw; skip; go_simp; try with_reducible rfl)); (try simp only [Act.put, List.setIfInBounds_toArray, List.set_cons_zero, List.set_cons_succ]))
              clear x0 x1 x2 x3 x4 x5 x6 x7 x8 x9 x10 x11 x12 z0 z1 z2 z3 z4 z5 z6 z7 z8 z9 z10 z11 z12
              refine wpAnyH_done (by kernel_rfl) ?_ _
              have Hf2 := Lib.hid (Hw1.out.trans hHeld (fun _ _ h => h))
              clear hHeld
              go_wp2_with fail
              go_roundg (n - k)
              case measure => have := Hg.out; omega
              case rel => exact ⟨k + 1, _, by omega, by omega, rfl, by go_num, vic_less Hvp.out Hmay.out Hle.out, Hf2.out⟩

    · obtain rfl : k = n := by omega
      go_wp2_with fail
      go_ret
      exact ⟨at', rfl, Hvp.out, Hf.out⟩
end Go.Proofs.YtaiimkcmgiceeaaDoor
