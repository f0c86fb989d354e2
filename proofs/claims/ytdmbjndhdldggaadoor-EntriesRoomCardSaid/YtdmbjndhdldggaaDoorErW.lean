/- Chapter 18: EntriesRoom's walk (written by genroomw.py). -/
import Derived.Test.YtdmbjndhdldggaaDoorErS
import Derived.Test.YtdmbjndhdldggaaDoorEnM
import Derived.Test.YtdmbjndhdldggaaDoorEnP
namespace Go.Proofs.YtdmbjndhdldggaaDoor
set_option linter.unusedVariables false
set_option linter.unusedSimpArgs false
open Go.RowKit Go.Lib Go.Sort
set_option maxHeartbeats 8000000 in
set_option maxRecDepth 100000 in
theorem room_long (sl : Option Addr) (n c : Nat) (E : Nat → EntD) (now : Int) (hnm : n ≤ maxLen) (hnc : n ≤ c) (w : World) (ht : Tb w) (hE : Ents w sl n E) (hL : longB n (fun i => (E i).n) 40 = true) :
    Calls Tryd.prog 4 #[.slice sl n c, .int .i64 now] w (Ret1 (.bool true) w) := by
  have Ht := Lib.hid ht
  have HE := Lib.hid hE
  have kp := fun W (hW : Tb W) => passes18 W hW
  have Kp := Lib.hid kp
  have kl := long_ok sl n c (fun i => (E i).n) (fun i => (E i).c) (fun i => (E i).ad) 40 hnm hnc w (fun i hi => by
    obtain ⟨b, o, e, hc⟩ := hE.at' i hi
    exact ⟨b, o, e, hc 12 _ rfl, (hE.ok i hi).nm⟩)
  rw [hL] at kl
  have Kl := Lib.hid kl
  clear ht hE kp kl hL
  unfold maxLen at hnm
  go_enter Tryd.func4, Tryd.ntmps4
  go_wp2_with fail
  refine Kl.out.mono ?_
  rintro e v0 ⟨rfl, hp⟩
  have Hv0 := Lib.hid hp
  clear hp
  go_wp2_with fail
  refine (Kp.out _ (Ht.out.low Hv0.out)).mono ?_
  rintro e w2 ⟨rfl, hp⟩
  have Hw := Lib.hid (Hv0.out.trans hp (fun _ _ h => h))
  clear hp
  go_wp2_with fail
  go_ret
  exact ⟨rfl, Hw.out⟩

set_option maxHeartbeats 8000000 in
set_option maxRecDepth 100000 in
theorem room_short (sl : Option Addr) (n c : Nat) (E : Nat → EntD) (now : Int) (hnm : n ≤ maxLen) (hnc : n ≤ c) (w : World) (ht : Tb w) (hE : Ents w sl n E) (hL : longB n (fun i => (E i).n) 40 = false) :
    Calls Tryd.prog 4 #[.slice sl n c, .int .i64 now] w (Ret1 (.bool true) w) := by
  have Ht := Lib.hid ht
  have HE := Lib.hid hE
  have kp := fun W (hW : Tb W) => passes18 W hW
  have Kp := Lib.hid kp
  have kl := long_ok sl n c (fun i => (E i).n) (fun i => (E i).c) (fun i => (E i).ad) 40 hnm hnc w (fun i hi => by
    obtain ⟨b, o, e, hc⟩ := hE.at' i hi
    exact ⟨b, o, e, hc 12 _ rfl, (hE.ok i hi).nm⟩)
  rw [hL] at kl
  have Kl := Lib.hid kl
  clear ht hE kp kl hL
  have kv := fun W (hW : Tb W) (hF : Ents W sl n E) => victim_ok sl n c E now hnm hnc W hW hF
  have Kv := Lib.hid kv
  clear kv
  unfold maxLen at hnm
  go_enter Tryd.func4, Tryd.ntmps4
  go_wp2_with fail
  refine Kl.out.mono ?_
  rintro e v0 ⟨rfl, hp⟩
  have Hv0 := Lib.hid hp
  clear hp
  go_wp2_with fail
  refine (Kv.out _ (Ht.out.low Hv0.out) (HE.out.low Hv0.out)).mono ?_
  rintro e v1 ⟨at', rfl, hvp, hp⟩
  have Hv1 := Lib.hid (Hv0.out.trans hp (fun _ _ h => h))
  clear hp Hv0
  rcases hvp with ⟨rfl, hno⟩ | ⟨m, rfl, hltm, hmm, hle, _⟩
  · have Hno := Lib.hid hno
    clear hno
    have hn0 : decide ((n : Int) ≤ -1) = false := by simp; omega
    go_wp2_with fail
    refine wp_region_held_drew (S := fun wx => NoW v1 wx) (by kernel_rfl) (Fp.drew (Fp.refl _ _)) (fun hHeld => ?_)
    (refine take_at 0 (some 22) rfl rfl (by kernel_rfl) (by kernel_rfl) (by kernel_rfl) (fun _ _ _ h => h) (v := ?_) (by kernel_rfl) ?_ (by assumption) ?_; rotate_left; (focus (intro wS hSw; skip; go_simp; try with_reducible rfl)); (try simp only [Act.put, List.setIfInBounds_toArray, List.set_cons_zero, List.set_cons_succ]))
    (refine take_at 1 (some 23) rfl rfl (by kernel_rfl) (by kernel_rfl) (by kernel_rfl) (fun _ _ _ h => h) (v := ?_) (by kernel_rfl) ?_ (by assumption) ?_; rotate_left; (focus (intro wS hSw; skip; go_simp; try with_reducible rfl)); (try simp only [Act.put, List.setIfInBounds_toArray, List.set_cons_zero, List.set_cons_succ]))
    (refine take_at 2 (some 24) rfl rfl (by kernel_rfl) (by kernel_rfl) (by kernel_rfl) (fun _ _ _ h => h) (v := ?_) (by kernel_rfl) ?_ (by assumption) ?_; rotate_left; (focus (intro wS hSw; skip; go_simp; try with_reducible rfl)); (try simp only [Act.put, List.setIfInBounds_toArray, List.set_cons_zero, List.set_cons_succ]))
    (refine drop_at 3 (some 25) rfl rfl (by kernel_rfl) (by kernel_rfl) (by kernel_rfl) (fun _ _ _ h => h) (by kernel_rfl) (by assumption) ?_; (try simp only [Act.put, List.setIfInBounds_toArray, List.set_cons_zero, List.set_cons_succ]))
    (refine drop_at 4 (some 26) rfl rfl (by kernel_rfl) (by kernel_rfl) (by kernel_rfl) (fun _ _ _ h => h) (by kernel_rfl) (by assumption) ?_; (try simp only [Act.put, List.setIfInBounds_toArray, List.set_cons_zero, List.set_cons_succ]))
    (refine drop_at 5 (some 27) rfl rfl (by kernel_rfl) (by kernel_rfl) (by kernel_rfl) (fun _ _ _ h => h) (by kernel_rfl) (by assumption) ?_; (try simp only [Act.put, List.setIfInBounds_toArray, List.set_cons_zero, List.set_cons_succ]))
    (refine drop_at 6 (some 28) rfl rfl (by kernel_rfl) (by kernel_rfl) (by kernel_rfl) (fun _ _ _ h => h) (by kernel_rfl) (by assumption) ?_; (try simp only [Act.put, List.setIfInBounds_toArray, List.set_cons_zero, List.set_cons_succ]))
    (refine drop_at 7 (some 29) rfl rfl (by kernel_rfl) (by kernel_rfl) (by kernel_rfl) (fun _ _ _ h => h) (by kernel_rfl) (by assumption) ?_; (try simp only [Act.put, List.setIfInBounds_toArray, List.set_cons_zero, List.set_cons_succ]))
    (refine drop_at 8 (some 30) rfl rfl (by kernel_rfl) (by kernel_rfl) (by kernel_rfl) (fun _ _ _ h => h) (by kernel_rfl) (by assumption) ?_; (try simp only [Act.put, List.setIfInBounds_toArray, List.set_cons_zero, List.set_cons_succ]))
    (refine drop_at 9 (some 31) rfl rfl (by kernel_rfl) (by kernel_rfl) (by kernel_rfl) (fun _ _ _ h => h) (by kernel_rfl) (by assumption) ?_; (try simp only [Act.put, List.setIfInBounds_toArray, List.set_cons_zero, List.set_cons_succ]))
    (refine drop_at 10 (some 32) rfl rfl (by kernel_rfl) (by kernel_rfl) (by kernel_rfl) (fun _ _ _ h => h) (by kernel_rfl) (by assumption) ?_; (try simp only [Act.put, List.setIfInBounds_toArray, List.set_cons_zero, List.set_cons_succ]))
    (refine drop_at 11 (some 33) rfl rfl (by kernel_rfl) (by kernel_rfl) (by kernel_rfl) (fun _ _ _ h => h) (by kernel_rfl) (by assumption) ?_; (try simp only [Act.put, List.setIfInBounds_toArray, List.set_cons_zero, List.set_cons_succ]))
    (refine drop_at 12 (some 34) rfl rfl (by kernel_rfl) (by kernel_rfl) (by kernel_rfl) (fun _ _ _ h => h) (by kernel_rfl) (by assumption) ?_; (try simp only [Act.put, List.setIfInBounds_toArray, List.set_cons_zero, List.set_cons_succ]))
    (refine drop_at 13 (some 35) rfl rfl (by kernel_rfl) (by kernel_rfl) (by kernel_rfl) (fun _ _ _ h => h) (by kernel_rfl) (by assumption) ?_; (try simp only [Act.put, List.setIfInBounds_toArray, List.set_cons_zero, List.set_cons_succ]))
    (refine drop_at 14 (some 36) rfl rfl (by kernel_rfl) (by kernel_rfl) (by kernel_rfl) (fun _ _ _ h => h) (by kernel_rfl) (by assumption) ?_; (try simp only [Act.put, List.setIfInBounds_toArray, List.set_cons_zero, List.set_cons_succ]))
    (refine drop_at 15 (some 37) rfl rfl (by kernel_rfl) (by kernel_rfl) (by kernel_rfl) (fun _ _ _ h => h) (by kernel_rfl) (by assumption) ?_; (try simp only [Act.put, List.setIfInBounds_toArray, List.set_cons_zero, List.set_cons_succ]))
    (refine drop_at 16 (some 38) rfl rfl (by kernel_rfl) (by kernel_rfl) (by kernel_rfl) (fun _ _ _ h => h) (by kernel_rfl) (by assumption) ?_; (try simp only [Act.put, List.setIfInBounds_toArray, List.set_cons_zero, List.set_cons_succ]))
    (refine drop_at 17 (some 39) rfl rfl (by kernel_rfl) (by kernel_rfl) (by kernel_rfl) (fun _ _ _ h => h) (by kernel_rfl) (by assumption) ?_; (try simp only [Act.put, List.setIfInBounds_toArray, List.set_cons_zero, List.set_cons_succ]))
    (refine drop_at 18 (some 40) rfl rfl (by kernel_rfl) (by kernel_rfl) (by kernel_rfl) (fun _ _ _ h => h) (by kernel_rfl) (by assumption) ?_; (try simp only [Act.put, List.setIfInBounds_toArray, List.set_cons_zero, List.set_cons_succ]))
    (refine drop_at 19 (some 41) rfl rfl (by kernel_rfl) (by kernel_rfl) (by kernel_rfl) (fun _ _ _ h => h) (by kernel_rfl) (by assumption) ?_; (try simp only [Act.put, List.setIfInBounds_toArray, List.set_cons_zero, List.set_cons_succ]))
    (refine drop_at 20 (some 42) rfl rfl (by kernel_rfl) (by kernel_rfl) (by kernel_rfl) (fun _ _ _ h => h) (by kernel_rfl) (by assumption) ?_; (try simp only [Act.put, List.setIfInBounds_toArray, List.set_cons_zero, List.set_cons_succ]))
    (refine drop_at 21 (some 43) rfl rfl (by kernel_rfl) (by kernel_rfl) (by kernel_rfl) (fun _ _ _ h => h) (by kernel_rfl) (by assumption) ?_; (try simp only [Act.put, List.setIfInBounds_toArray, List.set_cons_zero, List.set_cons_succ]))
    (refine drop_at 22 (some 44) rfl rfl (by kernel_rfl) (by kernel_rfl) (by kernel_rfl) (fun _ _ _ h => h) (by kernel_rfl) (by assumption) ?_; (try simp only [Act.put, List.setIfInBounds_toArray, List.set_cons_zero, List.set_cons_succ]))
    (refine drop_at 23 (some 45) rfl rfl (by kernel_rfl) (by kernel_rfl) (by kernel_rfl) (fun _ _ _ h => h) (by kernel_rfl) (by assumption) ?_; (try simp only [Act.put, List.setIfInBounds_toArray, List.set_cons_zero, List.set_cons_succ]))
    (refine drop_at 24 (some 46) rfl rfl (by kernel_rfl) (by kernel_rfl) (by kernel_rfl) (fun _ _ _ h => h) (by kernel_rfl) (by assumption) ?_; (try simp only [Act.put, List.setIfInBounds_toArray, List.set_cons_zero, List.set_cons_succ]))
    (refine drop_at 25 (some 47) rfl rfl (by kernel_rfl) (by kernel_rfl) (by kernel_rfl) (fun _ _ _ h => h) (by kernel_rfl) (by assumption) ?_; (try simp only [Act.put, List.setIfInBounds_toArray, List.set_cons_zero, List.set_cons_succ]))
    (refine take_at 26 (some 48) rfl rfl (by kernel_rfl) (by kernel_rfl) (by kernel_rfl) (fun _ _ _ h => h) (v := ?_) (by kernel_rfl) ?_ (by assumption) ?_; rotate_left; (focus (intro wS hSw; skip; go_simp; try with_reducible rfl)); (try simp only [Act.put, List.setIfInBounds_toArray, List.set_cons_zero, List.set_cons_succ]))
    refine wpAnyH_done (by kernel_rfl) ?_ _
    have Hv2 := Lib.hid (Hv1.out.trans hHeld (fun _ _ h => h))
    clear hHeld
    go_wp2_with fail
    go_loopg [6] (n + 1) (fun gg iv wx => ∃ (k : Nat), k ≤ n ∧ gg = n + 1 - k ∧ iv = .int .i64 (k : Int) ∧ NoW w wx)
    case atStart => exact ⟨0, by omega, by omega, rfl, Hv2.out⟩
    case round =>
      obtain ⟨k, hk, hg, rfl, hf⟩ := hrel
      have Hg := Lib.hid hg
      have Hf := Lib.hid hf
      clear hg hf
      by_cases hltk : k < n
      · obtain ⟨b0, o0, rfl, hc0⟩ := HE.out.at' k hltk
        have hok := HE.out.ok k hltk
        have hcw : ∀ j v, (E k).cs[j]? = some v → wr.cell? ⟨b0, o0 + k * 13 + j, none⟩ = some v := fun j v hj => (Hf.out.cell (p := ⟨b0, o0 + k * 13 + j, none⟩) (cell_lt (hc0 j v hj)) id).trans (hc0 j v hj)
        rcases hek : E k with ⟨r, a, p, b, q, r2, a2, p2, b2, q2, st, dl, ad, hn, hc⟩
        rw [hek] at hcw hok
        have y0 : wr.cell? ⟨b0, o0 + k * 13, none⟩ = some (.int .u8 r) := hcw 0 _ rfl
        have y1 : wr.cell? ⟨b0, o0 + k * 13 + 1, none⟩ = some (.int .u32 a) := hcw 1 _ rfl
        have y2 : wr.cell? ⟨b0, o0 + k * 13 + 2, none⟩ = some (.int .u16 p) := hcw 2 _ rfl
        have y3 : wr.cell? ⟨b0, o0 + k * 13 + 3, none⟩ = some (.int .u32 b) := hcw 3 _ rfl
        have y4 : wr.cell? ⟨b0, o0 + k * 13 + 4, none⟩ = some (.int .u16 q) := hcw 4 _ rfl
        have y5 : wr.cell? ⟨b0, o0 + k * 13 + 5, none⟩ = some (.int .u8 r2) := hcw 5 _ rfl
        have y6 : wr.cell? ⟨b0, o0 + k * 13 + 6, none⟩ = some (.int .u32 a2) := hcw 6 _ rfl
        have y7 : wr.cell? ⟨b0, o0 + k * 13 + 7, none⟩ = some (.int .u16 p2) := hcw 7 _ rfl
        have y8 : wr.cell? ⟨b0, o0 + k * 13 + 8, none⟩ = some (.int .u32 b2) := hcw 8 _ rfl
        have y9 : wr.cell? ⟨b0, o0 + k * 13 + 9, none⟩ = some (.int .u16 q2) := hcw 9 _ rfl
        have y10 : wr.cell? ⟨b0, o0 + k * 13 + 10, none⟩ = some (.int .i64 st) := hcw 10 _ rfl
        have y11 : wr.cell? ⟨b0, o0 + k * 13 + 11, none⟩ = some (.int .i64 dl) := hcw 11 _ rfl
        have y12 : wr.cell? ⟨b0, o0 + k * 13 + 12, none⟩ = some (.slice ad hn hc) := hcw 12 _ rfl
        clear hc0 hcw
        have Hok := Lib.hid hok
        have Hek := Lib.hid hek
        have lb : b0 < wr.heap.size := cell_lt y0
        clear hok hek
        have k1 := fun W => live_ok r a p b q r2 a2 p2 b2 q2 st dl (.slice ad hn hc) now W
        have K2 := Lib.hid (fun W => (show Calls Tryd.prog 16 #[.int .u8 r] W (Ret1 (.int .i64 (flowN r : Nat)) W) from (flow_ok r W).mono fun e w' ⟨h1, h2⟩ => ⟨h1, by rw [h2]; exact Fp.refl _ _⟩))
        have k3 := fun W hW => (show Calls Tryd.prog 15 #[.int .i64 (flowN r : Nat), .int .i64 st] W (Ret1 (.bool (earlyB (flowN r) st)) W) from (early_ok (flowN r) (flowN_lt r) st W hW).mono fun e w' ⟨h1, h2⟩ => ⟨h1, by rw [h2]; exact Fp.refl _ _⟩)
        have hmay : (E k).may now = (decide (now < dl) && earlyB (flowN r) st) := by rw [Hek.out]; rfl
        go_wp2_with fail
        rcases hlv : decide (now < dl) with _ | _
        · rw [hlv] at k1
          have K1 := Lib.hid k1
          clear k1 k3 hmay hlv
          refine wp_region_held_drew (S := fun wx => NoW wr wx) (by kernel_rfl) (Fp.drew (Fp.refl _ _)) (fun hHeld => ?_)
          (refine take_at 0 (some 55) rfl rfl (by kernel_rfl) (by kernel_rfl) (by kernel_rfl) (fun _ _ _ h => h) (v := ?_) (by kernel_rfl) ?_ (by assumption) ?_; rotate_left; (focus (intro wS hSw; skip; go_simp; try with_reducible rfl)); (try simp only [Act.put, List.setIfInBounds_toArray, List.set_cons_zero, List.set_cons_succ]))
          (refine take_at 1 (some 56) rfl rfl (by kernel_rfl) (by kernel_rfl) (by kernel_rfl) (fun _ _ _ h => h) (v := ?_) (by kernel_rfl) ?_ (by assumption) ?_; rotate_left; (focus (intro wS hSw; skip; go_simp; try with_reducible rfl)); (try simp only [Act.put, List.setIfInBounds_toArray, List.set_cons_zero, List.set_cons_succ]))
          (refine take_at 2 (some 57) rfl rfl (by kernel_rfl) (by kernel_rfl) (by kernel_rfl) (fun _ _ _ h => h) (v := ?_) (by kernel_rfl) ?_ (by assumption) ?_; rotate_left; (focus (intro wS hSw; skip; go_simp; try with_reducible rfl)); (try simp only [Act.put, List.setIfInBounds_toArray, List.set_cons_zero, List.set_cons_succ]))
          (refine take_at 3 (some 58) rfl rfl (by kernel_rfl) (by kernel_rfl) (by kernel_rfl) (fun _ _ _ h => h) (v := ?_) (by kernel_rfl) ?_ (by assumption) ?_; rotate_left; (focus (intro wS hSw; (have hy0 := (hSw.cell (p := ⟨b0, o0 + k * 13, none⟩) lb id).trans y0); (have hy1 := (hSw.cell (p := ⟨b0, o0 + k * 13 + 1, none⟩) lb id).trans y1); (have hy2 := (hSw.cell (p := ⟨b0, o0 + k * 13 + 2, none⟩) lb id).trans y2); (have hy3 := (hSw.cell (p := ⟨b0, o0 + k * 13 + 3, none⟩) lb id).trans y3); (have hy4 := (hSw.cell (p := ⟨b0, o0 + k * 13 + 4, none⟩) lb id).trans y4); (have hy5 := (hSw.cell (p := ⟨b0, o0 + k * 13 + 5, none⟩) lb id).trans y5); (have hy6 := (hSw.cell (p := ⟨b0, o0 + k * 13 + 6, none⟩) lb id).trans y6); (have hy7 := (hSw.cell (p := ⟨b0, o0 + k * 13 + 7, none⟩) lb id).trans y7); (have hy8 := (hSw.cell (p := ⟨b0, o0 + k * 13 + 8, none⟩) lb id).trans y8); (have hy9 := (hSw.cell (p := ⟨b0, o0 + k * 13 + 9, none⟩) lb id).trans y9); (have hy10 := (hSw.cell (p := ⟨b0, o0 + k * 13 + 10, none⟩) lb id).trans y10); (have hy11 := (hSw.cell (p := ⟨b0, o0 + k * 13 + 11, none⟩) lb id).trans y11); (have hy12 := (hSw.cell (p := ⟨b0, o0 + k * 13 + 12, none⟩) lb id).trans y12); go_simp; try with_reducible rfl)); (try simp only [Act.put, List.setIfInBounds_toArray, List.set_cons_zero, List.set_cons_succ]))
          (refine take_at 4 (some 59) rfl rfl (by kernel_rfl) (by kernel_rfl) (by kernel_rfl) (fun _ _ _ h => h) (v := ?_) (by kernel_rfl) ?_ (by assumption) ?_; rotate_left; (focus (intro wS hSw; skip; go_simp; try with_reducible rfl)); (try simp only [Act.put, List.setIfInBounds_toArray, List.set_cons_zero, List.set_cons_succ]))
          refine wpAnyH_ready (rs := [5]) (by kernel_rfl) (by simp) ?_
          refine AllReadyH.cons rfl (fun K hK => ?_) AllReadyH.nil
          go_simp
          go_at_call 14
          refine (K1.out _).mono ?_
          rintro e u1 ⟨rfl, hp⟩
          have hn1 : NoW wr u1 := Fp.trans hHeld hp (fun _ _ h => h)
          skip
          clear hp hHeld
          refine hK.out _ _ hn1 (fun hHeld => ?_)
          clear hK K
          try simp only [Act.put, List.setIfInBounds_toArray, List.set_cons_zero, List.set_cons_succ]
          (refine take_at 6 (some 61) rfl rfl (by kernel_rfl) (by kernel_rfl) (by kernel_rfl) (fun _ _ _ h => h) (v := ?_) (by kernel_rfl) ?_ (by assumption) ?_; rotate_left; (focus (intro wS hSw; skip; go_simp; try with_reducible rfl)); (try simp only [Act.put, List.setIfInBounds_toArray, List.set_cons_zero, List.set_cons_succ]))
          (refine drop_at 7 (some 62) rfl rfl (by kernel_rfl) (by kernel_rfl) (by kernel_rfl) (fun _ _ _ h => h) (by kernel_rfl) (by assumption) ?_; (try simp only [Act.put, List.setIfInBounds_toArray, List.set_cons_zero, List.set_cons_succ]))
          (refine drop_at 8 (some 63) rfl rfl (by kernel_rfl) (by kernel_rfl) (by kernel_rfl) (fun _ _ _ h => h) (by kernel_rfl) (by assumption) ?_; (try simp only [Act.put, List.setIfInBounds_toArray, List.set_cons_zero, List.set_cons_succ]))
          (refine drop_at 9 (some 64) rfl rfl (by kernel_rfl) (by kernel_rfl) (by kernel_rfl) (fun _ _ _ h => h) (by kernel_rfl) (by assumption) ?_; (try simp only [Act.put, List.setIfInBounds_toArray, List.set_cons_zero, List.set_cons_succ]))
          (refine drop_at 10 (some 65) rfl rfl (by kernel_rfl) (by kernel_rfl) (by kernel_rfl) (fun _ _ _ h => h) (by kernel_rfl) (by assumption) ?_; (try simp only [Act.put, List.setIfInBounds_toArray, List.set_cons_zero, List.set_cons_succ]))
          (refine drop_at 11 (some 66) rfl rfl (by kernel_rfl) (by kernel_rfl) (by kernel_rfl) (fun _ _ _ h => h) (by kernel_rfl) (by assumption) ?_; (try simp only [Act.put, List.setIfInBounds_toArray, List.set_cons_zero, List.set_cons_succ]))
          (refine drop_at 12 (some 67) rfl rfl (by kernel_rfl) (by kernel_rfl) (by kernel_rfl) (fun _ _ _ h => h) (by kernel_rfl) (by assumption) ?_; (try simp only [Act.put, List.setIfInBounds_toArray, List.set_cons_zero, List.set_cons_succ]))
          (refine drop_at 13 (some 68) rfl rfl (by kernel_rfl) (by kernel_rfl) (by kernel_rfl) (fun _ _ _ h => h) (by kernel_rfl) (by assumption) ?_; (try simp only [Act.put, List.setIfInBounds_toArray, List.set_cons_zero, List.set_cons_succ]))
          (refine drop_at 14 (some 69) rfl rfl (by kernel_rfl) (by kernel_rfl) (by kernel_rfl) (fun _ _ _ h => h) (by kernel_rfl) (by assumption) ?_; (try simp only [Act.put, List.setIfInBounds_toArray, List.set_cons_zero, List.set_cons_succ]))
          (refine drop_at 15 (some 70) rfl rfl (by kernel_rfl) (by kernel_rfl) (by kernel_rfl) (fun _ _ _ h => h) (by kernel_rfl) (by assumption) ?_; (try simp only [Act.put, List.setIfInBounds_toArray, List.set_cons_zero, List.set_cons_succ]))
          (refine drop_at 16 (some 71) rfl rfl (by kernel_rfl) (by kernel_rfl) (by kernel_rfl) (fun _ _ _ h => h) (by kernel_rfl) (by assumption) ?_; (try simp only [Act.put, List.setIfInBounds_toArray, List.set_cons_zero, List.set_cons_succ]))
          (refine drop_at 17 (some 72) rfl rfl (by kernel_rfl) (by kernel_rfl) (by kernel_rfl) (fun _ _ _ h => h) (by kernel_rfl) (by assumption) ?_; (try simp only [Act.put, List.setIfInBounds_toArray, List.set_cons_zero, List.set_cons_succ]))
          (refine drop_at 18 (some 73) rfl rfl (by kernel_rfl) (by kernel_rfl) (by kernel_rfl) (fun _ _ _ h => h) (by kernel_rfl) (by assumption) ?_; (try simp only [Act.put, List.setIfInBounds_toArray, List.set_cons_zero, List.set_cons_succ]))
          (refine drop_at 19 (some 74) rfl rfl (by kernel_rfl) (by kernel_rfl) (by kernel_rfl) (fun _ _ _ h => h) (by kernel_rfl) (by assumption) ?_; (try simp only [Act.put, List.setIfInBounds_toArray, List.set_cons_zero, List.set_cons_succ]))
          (refine take_at 20 (some 75) rfl rfl (by kernel_rfl) (by kernel_rfl) (by kernel_rfl) (fun _ _ _ h => h) (v := ?_) (by kernel_rfl) ?_ (by assumption) ?_; rotate_left; (focus (intro wS hSw; skip; go_simp; try with_reducible rfl)); (try simp only [Act.put, List.setIfInBounds_toArray, List.set_cons_zero, List.set_cons_succ]))
          (refine take_at 21 (some 7) rfl rfl (by kernel_rfl) (by kernel_rfl) (by kernel_rfl) (fun _ _ _ h => h) (v := ?_) (by kernel_rfl) ?_ (by assumption) ?_; rotate_left; (focus (intro wS hSw; skip; go_simp; try with_reducible rfl)); (try simp only [Act.put, List.setIfInBounds_toArray, List.set_cons_zero, List.set_cons_succ]))
          refine wpAnyH_done (by kernel_rfl) ?_ _
          have Hf2 := Lib.hid (Hf.out.trans hHeld (fun _ _ h => h))
          clear y0 y1 y2 y3 y4 y5 y6 y7 y8 y9 y10 y11 y12
          have lbn : b0 < u1.heap.size := Nat.lt_of_lt_of_le lb hHeld.size
          clear lb hHeld
          have lb := lbn
          clear lbn
          go_wp2_with fail
          refine wp_region_held_drew (S := fun wx => NoW u1 wx) (by kernel_rfl) (Fp.drew (Fp.refl _ _)) (fun hHeld => ?_)
          (refine take_at 0 (some 76) rfl rfl (by kernel_rfl) (by kernel_rfl) (by kernel_rfl) (fun _ _ _ h => h) (v := ?_) (by kernel_rfl) ?_ (by assumption) ?_; rotate_left; (focus (intro wS hSw; skip; go_simp; try with_reducible rfl)); (try simp only [Act.put, List.setIfInBounds_toArray, List.set_cons_zero, List.set_cons_succ]))
          (refine take_at 1 (some 77) rfl rfl (by kernel_rfl) (by kernel_rfl) (by kernel_rfl) (fun _ _ _ h => h) (v := ?_) (by kernel_rfl) ?_ (by assumption) ?_; rotate_left; (focus (intro wS hSw; skip; go_simp; try with_reducible rfl)); (try simp only [Act.put, List.setIfInBounds_toArray, List.set_cons_zero, List.set_cons_succ]))
          (refine drop_at 2 (some 78) rfl rfl (by kernel_rfl) (by kernel_rfl) (by kernel_rfl) (fun _ _ _ h => h) (by kernel_rfl) (by assumption) ?_; (try simp only [Act.put, List.setIfInBounds_toArray, List.set_cons_zero, List.set_cons_succ]))
          (refine drop_at 3 (some 79) rfl rfl (by kernel_rfl) (by kernel_rfl) (by kernel_rfl) (fun _ _ _ h => h) (by kernel_rfl) (by assumption) ?_; (try simp only [Act.put, List.setIfInBounds_toArray, List.set_cons_zero, List.set_cons_succ]))
          (refine drop_at 4 (some 80) rfl rfl (by kernel_rfl) (by kernel_rfl) (by kernel_rfl) (fun _ _ _ h => h) (by kernel_rfl) (by assumption) ?_; (try simp only [Act.put, List.setIfInBounds_toArray, List.set_cons_zero, List.set_cons_succ]))
          (refine drop_at 5 (some 81) rfl rfl (by kernel_rfl) (by kernel_rfl) (by kernel_rfl) (fun _ _ _ h => h) (by kernel_rfl) (by assumption) ?_; (try simp only [Act.put, List.setIfInBounds_toArray, List.set_cons_zero, List.set_cons_succ]))
          (refine drop_at 6 (some 82) rfl rfl (by kernel_rfl) (by kernel_rfl) (by kernel_rfl) (fun _ _ _ h => h) (by kernel_rfl) (by assumption) ?_; (try simp only [Act.put, List.setIfInBounds_toArray, List.set_cons_zero, List.set_cons_succ]))
          (refine drop_at 7 (some 83) rfl rfl (by kernel_rfl) (by kernel_rfl) (by kernel_rfl) (fun _ _ _ h => h) (by kernel_rfl) (by assumption) ?_; (try simp only [Act.put, List.setIfInBounds_toArray, List.set_cons_zero, List.set_cons_succ]))
          (refine drop_at 8 (some 84) rfl rfl (by kernel_rfl) (by kernel_rfl) (by kernel_rfl) (fun _ _ _ h => h) (by kernel_rfl) (by assumption) ?_; (try simp only [Act.put, List.setIfInBounds_toArray, List.set_cons_zero, List.set_cons_succ]))
          (refine drop_at 9 (some 85) rfl rfl (by kernel_rfl) (by kernel_rfl) (by kernel_rfl) (fun _ _ _ h => h) (by kernel_rfl) (by assumption) ?_; (try simp only [Act.put, List.setIfInBounds_toArray, List.set_cons_zero, List.set_cons_succ]))
          (refine drop_at 10 (some 86) rfl rfl (by kernel_rfl) (by kernel_rfl) (by kernel_rfl) (fun _ _ _ h => h) (by kernel_rfl) (by assumption) ?_; (try simp only [Act.put, List.setIfInBounds_toArray, List.set_cons_zero, List.set_cons_succ]))
          (refine drop_at 11 (some 87) rfl rfl (by kernel_rfl) (by kernel_rfl) (by kernel_rfl) (fun _ _ _ h => h) (by kernel_rfl) (by assumption) ?_; (try simp only [Act.put, List.setIfInBounds_toArray, List.set_cons_zero, List.set_cons_succ]))
          (refine drop_at 12 (some 88) rfl rfl (by kernel_rfl) (by kernel_rfl) (by kernel_rfl) (fun _ _ _ h => h) (by kernel_rfl) (by assumption) ?_; (try simp only [Act.put, List.setIfInBounds_toArray, List.set_cons_zero, List.set_cons_succ]))
          (refine drop_at 13 (some 89) rfl rfl (by kernel_rfl) (by kernel_rfl) (by kernel_rfl) (fun _ _ _ h => h) (by kernel_rfl) (by assumption) ?_; (try simp only [Act.put, List.setIfInBounds_toArray, List.set_cons_zero, List.set_cons_succ]))
          (refine drop_at 14 (some 90) rfl rfl (by kernel_rfl) (by kernel_rfl) (by kernel_rfl) (fun _ _ _ h => h) (by kernel_rfl) (by assumption) ?_; (try simp only [Act.put, List.setIfInBounds_toArray, List.set_cons_zero, List.set_cons_succ]))
          (refine take_at 15 (some 91) rfl rfl (by kernel_rfl) (by kernel_rfl) (by kernel_rfl) (fun _ _ _ h => h) (v := ?_) (by kernel_rfl) ?_ (by assumption) ?_; rotate_left; (focus (intro wS hSw; skip; go_simp; try with_reducible rfl)); (try simp only [Act.put, List.setIfInBounds_toArray, List.set_cons_zero, List.set_cons_succ]))
          refine wpAnyH_done (by kernel_rfl) ?_ _
          have Hf3 := Lib.hid (Hf2.out.trans hHeld (fun _ _ h => h))
          clear hHeld
          go_wp2_with fail
          go_roundg (n - k)
          case measure => have := Hg.out; omega
          case rel => exact ⟨k + 1, by omega, by omega, by go_num, Hf3.out⟩
        · rw [hlv] at k1
          rw [hlv, Bool.true_and] at hmay
          have K1 := Lib.hid k1
          clear k1 hlv
          rcases hea : earlyB (flowN r) st with _ | _
          · rw [hea] at k3
            have K3 := Lib.hid k3
            clear k3 hea hmay
            refine wp_region_held_drew (S := fun wx => NoW wr wx) (by kernel_rfl) (Fp.drew (Fp.refl _ _)) (fun hHeld => ?_)
            (refine take_at 0 (some 55) rfl rfl (by kernel_rfl) (by kernel_rfl) (by kernel_rfl) (fun _ _ _ h => h) (v := ?_) (by kernel_rfl) ?_ (by assumption) ?_; rotate_left; (focus (intro wS hSw; skip; go_simp; try with_reducible rfl)); (try simp only [Act.put, List.setIfInBounds_toArray, List.set_cons_zero, List.set_cons_succ]))
            (refine take_at 1 (some 56) rfl rfl (by kernel_rfl) (by kernel_rfl) (by kernel_rfl) (fun _ _ _ h => h) (v := ?_) (by kernel_rfl) ?_ (by assumption) ?_; rotate_left; (focus (intro wS hSw; skip; go_simp; try with_reducible rfl)); (try simp only [Act.put, List.setIfInBounds_toArray, List.set_cons_zero, List.set_cons_succ]))
            (refine take_at 2 (some 57) rfl rfl (by kernel_rfl) (by kernel_rfl) (by kernel_rfl) (fun _ _ _ h => h) (v := ?_) (by kernel_rfl) ?_ (by assumption) ?_; rotate_left; (focus (intro wS hSw; skip; go_simp; try with_reducible rfl)); (try simp only [Act.put, List.setIfInBounds_toArray, List.set_cons_zero, List.set_cons_succ]))
            (refine take_at 3 (some 58) rfl rfl (by kernel_rfl) (by kernel_rfl) (by kernel_rfl) (fun _ _ _ h => h) (v := ?_) (by kernel_rfl) ?_ (by assumption) ?_; rotate_left; (focus (intro wS hSw; (have hy0 := (hSw.cell (p := ⟨b0, o0 + k * 13, none⟩) lb id).trans y0); (have hy1 := (hSw.cell (p := ⟨b0, o0 + k * 13 + 1, none⟩) lb id).trans y1); (have hy2 := (hSw.cell (p := ⟨b0, o0 + k * 13 + 2, none⟩) lb id).trans y2); (have hy3 := (hSw.cell (p := ⟨b0, o0 + k * 13 + 3, none⟩) lb id).trans y3); (have hy4 := (hSw.cell (p := ⟨b0, o0 + k * 13 + 4, none⟩) lb id).trans y4); (have hy5 := (hSw.cell (p := ⟨b0, o0 + k * 13 + 5, none⟩) lb id).trans y5); (have hy6 := (hSw.cell (p := ⟨b0, o0 + k * 13 + 6, none⟩) lb id).trans y6); (have hy7 := (hSw.cell (p := ⟨b0, o0 + k * 13 + 7, none⟩) lb id).trans y7); (have hy8 := (hSw.cell (p := ⟨b0, o0 + k * 13 + 8, none⟩) lb id).trans y8); (have hy9 := (hSw.cell (p := ⟨b0, o0 + k * 13 + 9, none⟩) lb id).trans y9); (have hy10 := (hSw.cell (p := ⟨b0, o0 + k * 13 + 10, none⟩) lb id).trans y10); (have hy11 := (hSw.cell (p := ⟨b0, o0 + k * 13 + 11, none⟩) lb id).trans y11); (have hy12 := (hSw.cell (p := ⟨b0, o0 + k * 13 + 12, none⟩) lb id).trans y12); go_simp; try with_reducible rfl)); (try simp only [Act.put, List.setIfInBounds_toArray, List.set_cons_zero, List.set_cons_succ]))
            (refine take_at 4 (some 59) rfl rfl (by kernel_rfl) (by kernel_rfl) (by kernel_rfl) (fun _ _ _ h => h) (v := ?_) (by kernel_rfl) ?_ (by assumption) ?_; rotate_left; (focus (intro wS hSw; skip; go_simp; try with_reducible rfl)); (try simp only [Act.put, List.setIfInBounds_toArray, List.set_cons_zero, List.set_cons_succ]))
            refine wpAnyH_ready (rs := [5]) (by kernel_rfl) (by simp) ?_
            refine AllReadyH.cons rfl (fun K hK => ?_) AllReadyH.nil
            go_simp
            go_at_call 14
            refine (K1.out _).mono ?_
            rintro e u1 ⟨rfl, hp⟩
            have hn1 : NoW wr u1 := Fp.trans hHeld hp (fun _ _ h => h)
            skip
            clear hp hHeld
            refine hK.out _ _ hn1 (fun hHeld => ?_)
            clear hK K
            try simp only [Act.put, List.setIfInBounds_toArray, List.set_cons_zero, List.set_cons_succ]
            (refine take_at 6 (some 61) rfl rfl (by kernel_rfl) (by kernel_rfl) (by kernel_rfl) (fun _ _ _ h => h) (v := ?_) (by kernel_rfl) ?_ (by assumption) ?_; rotate_left; (focus (intro wS hSw; skip; go_simp; try with_reducible rfl)); (try simp only [Act.put, List.setIfInBounds_toArray, List.set_cons_zero, List.set_cons_succ]))
            (refine take_at 7 (some 62) rfl rfl (by kernel_rfl) (by kernel_rfl) (by kernel_rfl) (fun _ _ _ h => h) (v := ?_) (by kernel_rfl) ?_ (by assumption) ?_; rotate_left; (focus (intro wS hSw; skip; go_simp; try with_reducible rfl)); (try simp only [Act.put, List.setIfInBounds_toArray, List.set_cons_zero, List.set_cons_succ]))
            (refine take_at 8 (some 63) rfl rfl (by kernel_rfl) (by kernel_rfl) (by kernel_rfl) (fun _ _ _ h => h) (v := ?_) (by kernel_rfl) ?_ (by assumption) ?_; rotate_left; (focus (intro wS hSw; skip; go_simp; try with_reducible rfl)); (try simp only [Act.put, List.setIfInBounds_toArray, List.set_cons_zero, List.set_cons_succ]))
            (refine take_at 9 (some 64) rfl rfl (by kernel_rfl) (by kernel_rfl) (by kernel_rfl) (fun _ _ _ h => h) (v := ?_) (by kernel_rfl) ?_ (by assumption) ?_; rotate_left; (focus (intro wS hSw; skip; go_simp; try with_reducible rfl)); (try simp only [Act.put, List.setIfInBounds_toArray, List.set_cons_zero, List.set_cons_succ]))
            (refine take_at 10 (some 65) rfl rfl (by kernel_rfl) (by kernel_rfl) (by kernel_rfl) (fun _ _ _ h => h) (v := ?_) (by kernel_rfl) ?_ (by assumption) ?_; rotate_left; (focus (intro wS hSw; skip; go_simp; try with_reducible rfl)); (try simp only [Act.put, List.setIfInBounds_toArray, List.set_cons_zero, List.set_cons_succ]))
            (refine take_at 11 (some 66) rfl rfl (by kernel_rfl) (by kernel_rfl) (by kernel_rfl) (fun _ _ _ h => h) (v := ?_) (by kernel_rfl) ?_ (by assumption) ?_; rotate_left; (focus (intro wS hSw; skip; go_simp; try with_reducible rfl)); (try simp only [Act.put, List.setIfInBounds_toArray, List.set_cons_zero, List.set_cons_succ]))
            (refine take_at 12 (some 67) rfl rfl (by kernel_rfl) (by kernel_rfl) (by kernel_rfl) (fun _ _ _ h => h) (v := ?_) (by kernel_rfl) ?_ (by assumption) ?_; rotate_left; (focus (intro wS hSw; (have hy0 := (hSw.cell (p := ⟨b0, o0 + k * 13, none⟩) lb id).trans y0); go_simp; try with_reducible rfl)); (try simp only [Act.put, List.setIfInBounds_toArray, List.set_cons_zero, List.set_cons_succ]))
            (refine take_at 14 (some 69) rfl rfl (by kernel_rfl) (by kernel_rfl) (by kernel_rfl) (fun _ _ _ h => h) (v := ?_) (by kernel_rfl) ?_ (by assumption) ?_; rotate_left; (focus (intro wS hSw; skip; go_simp; try with_reducible rfl)); (try simp only [Act.put, List.setIfInBounds_toArray, List.set_cons_zero, List.set_cons_succ]))
            (refine take_at 15 (some 70) rfl rfl (by kernel_rfl) (by kernel_rfl) (by kernel_rfl) (fun _ _ _ h => h) (v := ?_) (by kernel_rfl) ?_ (by assumption) ?_; rotate_left; (focus (intro wS hSw; skip; go_simp; try with_reducible rfl)); (try simp only [Act.put, List.setIfInBounds_toArray, List.set_cons_zero, List.set_cons_succ]))
            (refine take_at 16 (some 71) rfl rfl (by kernel_rfl) (by kernel_rfl) (by kernel_rfl) (fun _ _ _ h => h) (v := ?_) (by kernel_rfl) ?_ (by assumption) ?_; rotate_left; (focus (intro wS hSw; skip; go_simp; try with_reducible rfl)); (try simp only [Act.put, List.setIfInBounds_toArray, List.set_cons_zero, List.set_cons_succ]))
            (refine take_at 17 (some 72) rfl rfl (by kernel_rfl) (by kernel_rfl) (by kernel_rfl) (fun _ _ _ h => h) (v := ?_) (by kernel_rfl) ?_ (by assumption) ?_; rotate_left; (focus (intro wS hSw; skip; go_simp; try with_reducible rfl)); (try simp only [Act.put, List.setIfInBounds_toArray, List.set_cons_zero, List.set_cons_succ]))
            (refine take_at 18 (some 73) rfl rfl (by kernel_rfl) (by kernel_rfl) (by kernel_rfl) (fun _ _ _ h => h) (v := ?_) (by kernel_rfl) ?_ (by assumption) ?_; rotate_left; (focus (intro wS hSw; (have hy10 := (hSw.cell (p := ⟨b0, o0 + k * 13 + 10, none⟩) lb id).trans y10); go_simp; try with_reducible rfl)); (try simp only [Act.put, List.setIfInBounds_toArray, List.set_cons_zero, List.set_cons_succ]))
            refine wpAnyH_ready (rs := [13]) (by kernel_rfl) (by simp) ?_
            refine AllReadyH.cons rfl (fun K hK => ?_) AllReadyH.nil
            go_simp
            go_at_call 16
            refine (K2.out _).mono ?_
            rintro e u2 ⟨rfl, hp⟩
            have hn2 : NoW wr u2 := Fp.trans hHeld hp (fun _ _ h => h)
            skip
            clear hp hHeld hn1
            refine hK.out _ _ hn2 (fun hHeld => ?_)
            clear hK K
            try simp only [Act.put, List.setIfInBounds_toArray, List.set_cons_zero, List.set_cons_succ]
            refine wpAnyH_ready (rs := [19]) (by kernel_rfl) (by simp) ?_
            refine AllReadyH.cons rfl (fun K hK => ?_) AllReadyH.nil
            go_simp
            go_at_call 15
            refine (K3.out _ (Ht.out.low (Hf.out.trans hHeld (fun _ _ h => h)))).mono ?_
            rintro e u3 ⟨rfl, hp⟩
            have hn3 : NoW wr u3 := Fp.trans hHeld hp (fun _ _ h => h)
            skip
            clear hp hHeld hn2
            refine hK.out _ _ hn3 (fun hHeld => ?_)
            clear hK K
            try simp only [Act.put, List.setIfInBounds_toArray, List.set_cons_zero, List.set_cons_succ]
            (refine take_at 20 (some 75) rfl rfl (by kernel_rfl) (by kernel_rfl) (by kernel_rfl) (fun _ _ _ h => h) (v := ?_) (by kernel_rfl) ?_ (by assumption) ?_; rotate_left; (focus (intro wS hSw; skip; go_simp; try with_reducible rfl)); (try simp only [Act.put, List.setIfInBounds_toArray, List.set_cons_zero, List.set_cons_succ]))
            (refine take_at 21 (some 7) rfl rfl (by kernel_rfl) (by kernel_rfl) (by kernel_rfl) (fun _ _ _ h => h) (v := ?_) (by kernel_rfl) ?_ (by assumption) ?_; rotate_left; (focus (intro wS hSw; skip; go_simp; try with_reducible rfl)); (try simp only [Act.put, List.setIfInBounds_toArray, List.set_cons_zero, List.set_cons_succ]))
            refine wpAnyH_done (by kernel_rfl) ?_ _
            have Hf2 := Lib.hid (Hf.out.trans hHeld (fun _ _ h => h))
            clear y0 y1 y2 y3 y4 y5 y6 y7 y8 y9 y10 y11 y12
            have lbn : b0 < u3.heap.size := Nat.lt_of_lt_of_le lb hHeld.size
            clear lb hHeld
            have lb := lbn
            clear lbn
            go_wp2_with fail
            refine wp_region_held_drew (S := fun wx => NoW u3 wx) (by kernel_rfl) (Fp.drew (Fp.refl _ _)) (fun hHeld => ?_)
            (refine take_at 0 (some 76) rfl rfl (by kernel_rfl) (by kernel_rfl) (by kernel_rfl) (fun _ _ _ h => h) (v := ?_) (by kernel_rfl) ?_ (by assumption) ?_; rotate_left; (focus (intro wS hSw; skip; go_simp; try with_reducible rfl)); (try simp only [Act.put, List.setIfInBounds_toArray, List.set_cons_zero, List.set_cons_succ]))
            (refine take_at 1 (some 77) rfl rfl (by kernel_rfl) (by kernel_rfl) (by kernel_rfl) (fun _ _ _ h => h) (v := ?_) (by kernel_rfl) ?_ (by assumption) ?_; rotate_left; (focus (intro wS hSw; skip; go_simp; try with_reducible rfl)); (try simp only [Act.put, List.setIfInBounds_toArray, List.set_cons_zero, List.set_cons_succ]))
            (refine drop_at 2 (some 78) rfl rfl (by kernel_rfl) (by kernel_rfl) (by kernel_rfl) (fun _ _ _ h => h) (by kernel_rfl) (by assumption) ?_; (try simp only [Act.put, List.setIfInBounds_toArray, List.set_cons_zero, List.set_cons_succ]))
            (refine drop_at 3 (some 79) rfl rfl (by kernel_rfl) (by kernel_rfl) (by kernel_rfl) (fun _ _ _ h => h) (by kernel_rfl) (by assumption) ?_; (try simp only [Act.put, List.setIfInBounds_toArray, List.set_cons_zero, List.set_cons_succ]))
            (refine drop_at 4 (some 80) rfl rfl (by kernel_rfl) (by kernel_rfl) (by kernel_rfl) (fun _ _ _ h => h) (by kernel_rfl) (by assumption) ?_; (try simp only [Act.put, List.setIfInBounds_toArray, List.set_cons_zero, List.set_cons_succ]))
            (refine drop_at 5 (some 81) rfl rfl (by kernel_rfl) (by kernel_rfl) (by kernel_rfl) (fun _ _ _ h => h) (by kernel_rfl) (by assumption) ?_; (try simp only [Act.put, List.setIfInBounds_toArray, List.set_cons_zero, List.set_cons_succ]))
            (refine drop_at 6 (some 82) rfl rfl (by kernel_rfl) (by kernel_rfl) (by kernel_rfl) (fun _ _ _ h => h) (by kernel_rfl) (by assumption) ?_; (try simp only [Act.put, List.setIfInBounds_toArray, List.set_cons_zero, List.set_cons_succ]))
            (refine drop_at 7 (some 83) rfl rfl (by kernel_rfl) (by kernel_rfl) (by kernel_rfl) (fun _ _ _ h => h) (by kernel_rfl) (by assumption) ?_; (try simp only [Act.put, List.setIfInBounds_toArray, List.set_cons_zero, List.set_cons_succ]))
            (refine drop_at 8 (some 84) rfl rfl (by kernel_rfl) (by kernel_rfl) (by kernel_rfl) (fun _ _ _ h => h) (by kernel_rfl) (by assumption) ?_; (try simp only [Act.put, List.setIfInBounds_toArray, List.set_cons_zero, List.set_cons_succ]))
            (refine drop_at 9 (some 85) rfl rfl (by kernel_rfl) (by kernel_rfl) (by kernel_rfl) (fun _ _ _ h => h) (by kernel_rfl) (by assumption) ?_; (try simp only [Act.put, List.setIfInBounds_toArray, List.set_cons_zero, List.set_cons_succ]))
            (refine drop_at 10 (some 86) rfl rfl (by kernel_rfl) (by kernel_rfl) (by kernel_rfl) (fun _ _ _ h => h) (by kernel_rfl) (by assumption) ?_; (try simp only [Act.put, List.setIfInBounds_toArray, List.set_cons_zero, List.set_cons_succ]))
            (refine drop_at 11 (some 87) rfl rfl (by kernel_rfl) (by kernel_rfl) (by kernel_rfl) (fun _ _ _ h => h) (by kernel_rfl) (by assumption) ?_; (try simp only [Act.put, List.setIfInBounds_toArray, List.set_cons_zero, List.set_cons_succ]))
            (refine drop_at 12 (some 88) rfl rfl (by kernel_rfl) (by kernel_rfl) (by kernel_rfl) (fun _ _ _ h => h) (by kernel_rfl) (by assumption) ?_; (try simp only [Act.put, List.setIfInBounds_toArray, List.set_cons_zero, List.set_cons_succ]))
            (refine drop_at 13 (some 89) rfl rfl (by kernel_rfl) (by kernel_rfl) (by kernel_rfl) (fun _ _ _ h => h) (by kernel_rfl) (by assumption) ?_; (try simp only [Act.put, List.setIfInBounds_toArray, List.set_cons_zero, List.set_cons_succ]))
            (refine drop_at 14 (some 90) rfl rfl (by kernel_rfl) (by kernel_rfl) (by kernel_rfl) (fun _ _ _ h => h) (by kernel_rfl) (by assumption) ?_; (try simp only [Act.put, List.setIfInBounds_toArray, List.set_cons_zero, List.set_cons_succ]))
            (refine take_at 15 (some 91) rfl rfl (by kernel_rfl) (by kernel_rfl) (by kernel_rfl) (fun _ _ _ h => h) (v := ?_) (by kernel_rfl) ?_ (by assumption) ?_; rotate_left; (focus (intro wS hSw; skip; go_simp; try with_reducible rfl)); (try simp only [Act.put, List.setIfInBounds_toArray, List.set_cons_zero, List.set_cons_succ]))
            refine wpAnyH_done (by kernel_rfl) ?_ _
            have Hf3 := Lib.hid (Hf2.out.trans hHeld (fun _ _ h => h))
            clear hHeld
            go_wp2_with fail
            go_roundg (n - k)
            case measure => have := Hg.out; omega
            case rel => exact ⟨k + 1, by omega, by omega, by go_num, Hf3.out⟩
          · rw [hea, Hno.out k hltk] at hmay
            cases hmay
      · obtain rfl : k = n := by omega
        go_wp2_with fail
        refine (Kp.out _ (Ht.out.low Hf.out)).mono ?_
        rintro e w2 ⟨rfl, hp⟩
        have Hw := Lib.hid (Hf.out.trans hp (fun _ _ h => h))
        clear hp
        go_wp2_with fail
        go_ret
        exact ⟨rfl, Hw.out⟩
  · obtain ⟨b0, o0, rfl, hc0⟩ := HE.out.at' m hltm
    have hokm := HE.out.ok m hltm
    have hcw : ∀ j v, (E m).cs[j]? = some v → v1.cell? ⟨b0, o0 + m * 13 + j, none⟩ = some v := fun j v hj => (Hv1.out.cell (p := ⟨b0, o0 + m * 13 + j, none⟩) (cell_lt (hc0 j v hj)) id).trans (hc0 j v hj)
    rcases hem : E m with ⟨r', a', p', b', q', r2', a2', p2', b2', q2', st', dl', ad', hn', hc'⟩
    rw [hem] at hcw hokm
    have z0 : v1.cell? ⟨b0, o0 + m * 13, none⟩ = some (.int .u8 r') := hcw 0 _ rfl
    have z1 : v1.cell? ⟨b0, o0 + m * 13 + 1, none⟩ = some (.int .u32 a') := hcw 1 _ rfl
    have z2 : v1.cell? ⟨b0, o0 + m * 13 + 2, none⟩ = some (.int .u16 p') := hcw 2 _ rfl
    have z3 : v1.cell? ⟨b0, o0 + m * 13 + 3, none⟩ = some (.int .u32 b') := hcw 3 _ rfl
    have z4 : v1.cell? ⟨b0, o0 + m * 13 + 4, none⟩ = some (.int .u16 q') := hcw 4 _ rfl
    have z5 : v1.cell? ⟨b0, o0 + m * 13 + 5, none⟩ = some (.int .u8 r2') := hcw 5 _ rfl
    have z6 : v1.cell? ⟨b0, o0 + m * 13 + 6, none⟩ = some (.int .u32 a2') := hcw 6 _ rfl
    have z7 : v1.cell? ⟨b0, o0 + m * 13 + 7, none⟩ = some (.int .u16 p2') := hcw 7 _ rfl
    have z8 : v1.cell? ⟨b0, o0 + m * 13 + 8, none⟩ = some (.int .u32 b2') := hcw 8 _ rfl
    have z9 : v1.cell? ⟨b0, o0 + m * 13 + 9, none⟩ = some (.int .u16 q2') := hcw 9 _ rfl
    have z10 : v1.cell? ⟨b0, o0 + m * 13 + 10, none⟩ = some (.int .i64 st') := hcw 10 _ rfl
    have z11 : v1.cell? ⟨b0, o0 + m * 13 + 11, none⟩ = some (.int .i64 dl') := hcw 11 _ rfl
    have z12 : v1.cell? ⟨b0, o0 + m * 13 + 12, none⟩ = some (.slice ad' hn' hc') := hcw 12 _ rfl
    clear hc0 hcw
    have hz : ∀ j v, (#[.int .u8 r', .int .u32 a', .int .u16 p', .int .u32 b', .int .u16 q', .int .u8 r2', .int .u32 a2', .int .u16 p2', .int .u32 b2', .int .u16 q2', .int .i64 st', .int .i64 dl', .slice ad' hn' hc'] : Array Value).toList[j]? = some v → ∀ W, NoW w W → W.cell? ⟨b0, o0 + m * 13 + j, none⟩ = some v := fun j v hj W hW => by
      obtain ⟨b1, o1, e1, hc0⟩ := HE.out.at' m hltm
      obtain ⟨rfl, rfl⟩ : b0 = b1 ∧ o0 = o1 := by simpa using e1
      rw [hem] at hc0
      exact (hW.cell (p := ⟨b0, o0 + m * 13 + j, none⟩) (cell_lt (hc0 j v hj)) id).trans (hc0 j v hj)
    have Hz := Lib.hid hz
    have Hle := Lib.hid hle
    have Hokm := Lib.hid hokm
    have Hem := Lib.hid hem
    have lb : b0 < v1.heap.size := cell_lt z0
    clear hz hle hokm hem
    have k1 := fun W => live_ok r' a' p' b' q' r2' a2' p2' b2' q2' st' dl' (.slice ad' hn' hc') now W
    have K2 := Lib.hid (fun W => (show Calls Tryd.prog 16 #[.int .u8 r'] W (Ret1 (.int .i64 (flowN r' : Nat)) W) from (flow_ok r' W).mono fun e w' ⟨h1, h2⟩ => ⟨h1, by rw [h2]; exact Fp.refl _ _⟩))
    have k3 := fun W hW => (show Calls Tryd.prog 15 #[.int .i64 (flowN r' : Nat), .int .i64 st'] W (Ret1 (.bool (earlyB (flowN r') st')) W) from (early_ok (flowN r') (flowN_lt r') st' W hW).mono fun e w' ⟨h1, h2⟩ => ⟨h1, by rw [h2]; exact Fp.refl _ _⟩)
    have hmay : (E m).may now = (decide (now < dl') && earlyB (flowN r') st') := by rw [Hem.out]; rfl
    rw [hmm] at hmay
    have hlv : decide (now < dl') = true := (Bool.and_eq_true_iff.1 hmay.symm).1
    have hea : earlyB (flowN r') st' = true := (Bool.and_eq_true_iff.1 hmay.symm).2
    rw [hlv] at k1
    rw [hea] at k3
    have K1 := Lib.hid k1
    have K3 := Lib.hid k3
    clear hmay hmm hlv hea k1 k3
    have hm1 : decide ((m : Int) < -1) = false := decide_eq_false (by omega)
    have hm2 : decide ((n : Int) ≤ (m : Int)) = false := by simp; omega
    have hm3 : decide ((0 : Int) ≤ (m : Int)) = true := by simp
    have hm4 : decide ((m : Int) < 0) = false := by simp
    go_wp2_with fail
    refine wp_region_held_drew (S := fun wx => NoW v1 wx) (by kernel_rfl) (Fp.drew (Fp.refl _ _)) (fun hHeld => ?_)
    (refine take_at 0 (some 22) rfl rfl (by kernel_rfl) (by kernel_rfl) (by kernel_rfl) (fun _ _ _ h => h) (v := ?_) (by kernel_rfl) ?_ (by assumption) ?_; rotate_left; (focus (intro wS hSw; skip; go_simp; try with_reducible rfl)); (try simp only [Act.put, List.setIfInBounds_toArray, List.set_cons_zero, List.set_cons_succ]))
    (refine take_at 1 (some 23) rfl rfl (by kernel_rfl) (by kernel_rfl) (by kernel_rfl) (fun _ _ _ h => h) (v := ?_) (by kernel_rfl) ?_ (by assumption) ?_; rotate_left; (focus (intro wS hSw; skip; go_simp; try with_reducible rfl)); (try simp only [Act.put, List.setIfInBounds_toArray, List.set_cons_zero, List.set_cons_succ]))
    (refine take_at 2 (some 24) rfl rfl (by kernel_rfl) (by kernel_rfl) (by kernel_rfl) (fun _ _ _ h => h) (v := ?_) (by kernel_rfl) ?_ (by assumption) ?_; rotate_left; (focus (intro wS hSw; skip; go_simp; try with_reducible rfl)); (try simp only [Act.put, List.setIfInBounds_toArray, List.set_cons_zero, List.set_cons_succ]))
    (refine take_at 3 (some 25) rfl rfl (by kernel_rfl) (by kernel_rfl) (by kernel_rfl) (fun _ _ _ h => h) (v := ?_) (by kernel_rfl) ?_ (by assumption) ?_; rotate_left; (focus (intro wS hSw; skip; go_simp; try with_reducible rfl)); (try simp only [Act.put, List.setIfInBounds_toArray, List.set_cons_zero, List.set_cons_succ]))
    (refine take_at 4 (some 26) rfl rfl (by kernel_rfl) (by kernel_rfl) (by kernel_rfl) (fun _ _ _ h => h) (v := ?_) (by kernel_rfl) ?_ (by assumption) ?_; rotate_left; (focus (intro wS hSw; skip; go_simp; try with_reducible rfl)); (try simp only [Act.put, List.setIfInBounds_toArray, List.set_cons_zero, List.set_cons_succ]))
    (refine take_at 5 (some 27) rfl rfl (by kernel_rfl) (by kernel_rfl) (by kernel_rfl) (fun _ _ _ h => h) (v := ?_) (by kernel_rfl) ?_ (by assumption) ?_; rotate_left; (focus (intro wS hSw; skip; go_simp; try with_reducible rfl)); (try simp only [Act.put, List.setIfInBounds_toArray, List.set_cons_zero, List.set_cons_succ]))
    (refine take_at 6 (some 28) rfl rfl (by kernel_rfl) (by kernel_rfl) (by kernel_rfl) (fun _ _ _ h => h) (v := ?_) (by kernel_rfl) ?_ (by assumption) ?_; rotate_left; (focus (intro wS hSw; (have hz0 := (hSw.cell (p := ⟨b0, o0 + m * 13, none⟩) lb id).trans z0); (have hz1 := (hSw.cell (p := ⟨b0, o0 + m * 13 + 1, none⟩) lb id).trans z1); (have hz2 := (hSw.cell (p := ⟨b0, o0 + m * 13 + 2, none⟩) lb id).trans z2); (have hz3 := (hSw.cell (p := ⟨b0, o0 + m * 13 + 3, none⟩) lb id).trans z3); (have hz4 := (hSw.cell (p := ⟨b0, o0 + m * 13 + 4, none⟩) lb id).trans z4); (have hz5 := (hSw.cell (p := ⟨b0, o0 + m * 13 + 5, none⟩) lb id).trans z5); (have hz6 := (hSw.cell (p := ⟨b0, o0 + m * 13 + 6, none⟩) lb id).trans z6); (have hz7 := (hSw.cell (p := ⟨b0, o0 + m * 13 + 7, none⟩) lb id).trans z7); (have hz8 := (hSw.cell (p := ⟨b0, o0 + m * 13 + 8, none⟩) lb id).trans z8); (have hz9 := (hSw.cell (p := ⟨b0, o0 + m * 13 + 9, none⟩) lb id).trans z9); (have hz10 := (hSw.cell (p := ⟨b0, o0 + m * 13 + 10, none⟩) lb id).trans z10); (have hz11 := (hSw.cell (p := ⟨b0, o0 + m * 13 + 11, none⟩) lb id).trans z11); (have hz12 := (hSw.cell (p := ⟨b0, o0 + m * 13 + 12, none⟩) lb id).trans z12); go_simp; try with_reducible rfl)); (try simp only [Act.put, List.setIfInBounds_toArray, List.set_cons_zero, List.set_cons_succ]))
    (refine take_at 7 (some 29) rfl rfl (by kernel_rfl) (by kernel_rfl) (by kernel_rfl) (fun _ _ _ h => h) (v := ?_) (by kernel_rfl) ?_ (by assumption) ?_; rotate_left; (focus (intro wS hSw; skip; go_simp; try with_reducible rfl)); (try simp only [Act.put, List.setIfInBounds_toArray, List.set_cons_zero, List.set_cons_succ]))
    refine wpAnyH_ready (rs := [8]) (by kernel_rfl) (by simp) ?_
    refine AllReadyH.cons rfl (fun K hK => ?_) AllReadyH.nil
    go_simp
    go_at_call 14
    refine (K1.out _).mono ?_
    rintro e u1 ⟨rfl, hp⟩
    have hn1 : NoW v1 u1 := Fp.trans hHeld hp (fun _ _ h => h)
    skip
    clear hp hHeld
    refine hK.out _ _ hn1 (fun hHeld => ?_)
    clear hK K
    try simp only [Act.put, List.setIfInBounds_toArray, List.set_cons_zero, List.set_cons_succ]
    (refine take_at 9 (some 31) rfl rfl (by kernel_rfl) (by kernel_rfl) (by kernel_rfl) (fun _ _ _ h => h) (v := ?_) (by kernel_rfl) ?_ (by assumption) ?_; rotate_left; (focus (intro wS hSw; skip; go_simp; try with_reducible rfl)); (try simp only [Act.put, List.setIfInBounds_toArray, List.set_cons_zero, List.set_cons_succ]))
    (refine take_at 10 (some 32) rfl rfl (by kernel_rfl) (by kernel_rfl) (by kernel_rfl) (fun _ _ _ h => h) (v := ?_) (by kernel_rfl) ?_ (by assumption) ?_; rotate_left; (focus (intro wS hSw; skip; go_simp; try with_reducible rfl)); (try simp only [Act.put, List.setIfInBounds_toArray, List.set_cons_zero, List.set_cons_succ]))
    (refine take_at 11 (some 33) rfl rfl (by kernel_rfl) (by kernel_rfl) (by kernel_rfl) (fun _ _ _ h => h) (v := ?_) (by kernel_rfl) ?_ (by assumption) ?_; rotate_left; (focus (intro wS hSw; skip; go_simp; try with_reducible rfl)); (try simp only [Act.put, List.setIfInBounds_toArray, List.set_cons_zero, List.set_cons_succ]))
    (refine take_at 12 (some 34) rfl rfl (by kernel_rfl) (by kernel_rfl) (by kernel_rfl) (fun _ _ _ h => h) (v := ?_) (by kernel_rfl) ?_ (by assumption) ?_; rotate_left; (focus (intro wS hSw; skip; go_simp; try with_reducible rfl)); (try simp only [Act.put, List.setIfInBounds_toArray, List.set_cons_zero, List.set_cons_succ]))
    (refine take_at 13 (some 35) rfl rfl (by kernel_rfl) (by kernel_rfl) (by kernel_rfl) (fun _ _ _ h => h) (v := ?_) (by kernel_rfl) ?_ (by assumption) ?_; rotate_left; (focus (intro wS hSw; skip; go_simp; try with_reducible rfl)); (try simp only [Act.put, List.setIfInBounds_toArray, List.set_cons_zero, List.set_cons_succ]))
    (refine take_at 14 (some 36) rfl rfl (by kernel_rfl) (by kernel_rfl) (by kernel_rfl) (fun _ _ _ h => h) (v := ?_) (by kernel_rfl) ?_ (by assumption) ?_; rotate_left; (focus (intro wS hSw; skip; go_simp; try with_reducible rfl)); (try simp only [Act.put, List.setIfInBounds_toArray, List.set_cons_zero, List.set_cons_succ]))
    (refine take_at 15 (some 37) rfl rfl (by kernel_rfl) (by kernel_rfl) (by kernel_rfl) (fun _ _ _ h => h) (v := ?_) (by kernel_rfl) ?_ (by assumption) ?_; rotate_left; (focus (intro wS hSw; skip; go_simp; try with_reducible rfl)); (try simp only [Act.put, List.setIfInBounds_toArray, List.set_cons_zero, List.set_cons_succ]))
    (refine take_at 16 (some 38) rfl rfl (by kernel_rfl) (by kernel_rfl) (by kernel_rfl) (fun _ _ _ h => h) (v := ?_) (by kernel_rfl) ?_ (by assumption) ?_; rotate_left; (focus (intro wS hSw; (have hz0 := (hSw.cell (p := ⟨b0, o0 + m * 13, none⟩) lb id).trans z0); go_simp; try with_reducible rfl)); (try simp only [Act.put, List.setIfInBounds_toArray, List.set_cons_zero, List.set_cons_succ]))
    (refine take_at 18 (some 40) rfl rfl (by kernel_rfl) (by kernel_rfl) (by kernel_rfl) (fun _ _ _ h => h) (v := ?_) (by kernel_rfl) ?_ (by assumption) ?_; rotate_left; (focus (intro wS hSw; skip; go_simp; try with_reducible rfl)); (try simp only [Act.put, List.setIfInBounds_toArray, List.set_cons_zero, List.set_cons_succ]))
    (refine take_at 19 (some 41) rfl rfl (by kernel_rfl) (by kernel_rfl) (by kernel_rfl) (fun _ _ _ h => h) (v := ?_) (by kernel_rfl) ?_ (by assumption) ?_; rotate_left; (focus (intro wS hSw; skip; go_simp; try with_reducible rfl)); (try simp only [Act.put, List.setIfInBounds_toArray, List.set_cons_zero, List.set_cons_succ]))
    (refine take_at 20 (some 42) rfl rfl (by kernel_rfl) (by kernel_rfl) (by kernel_rfl) (fun _ _ _ h => h) (v := ?_) (by kernel_rfl) ?_ (by assumption) ?_; rotate_left; (focus (intro wS hSw; skip; go_simp; try with_reducible rfl)); (try simp only [Act.put, List.setIfInBounds_toArray, List.set_cons_zero, List.set_cons_succ]))
    (refine take_at 21 (some 43) rfl rfl (by kernel_rfl) (by kernel_rfl) (by kernel_rfl) (fun _ _ _ h => h) (v := ?_) (by kernel_rfl) ?_ (by assumption) ?_; rotate_left; (focus (intro wS hSw; skip; go_simp; try with_reducible rfl)); (try simp only [Act.put, List.setIfInBounds_toArray, List.set_cons_zero, List.set_cons_succ]))
    (refine take_at 22 (some 44) rfl rfl (by kernel_rfl) (by kernel_rfl) (by kernel_rfl) (fun _ _ _ h => h) (v := ?_) (by kernel_rfl) ?_ (by assumption) ?_; rotate_left; (focus (intro wS hSw; (have hz10 := (hSw.cell (p := ⟨b0, o0 + m * 13 + 10, none⟩) lb id).trans z10); go_simp; try with_reducible rfl)); (try simp only [Act.put, List.setIfInBounds_toArray, List.set_cons_zero, List.set_cons_succ]))
    refine wpAnyH_ready (rs := [17]) (by kernel_rfl) (by simp) ?_
    refine AllReadyH.cons rfl (fun K hK => ?_) AllReadyH.nil
    go_simp
    go_at_call 16
    refine (K2.out _).mono ?_
    rintro e u2 ⟨rfl, hp⟩
    have hn2 : NoW v1 u2 := Fp.trans hHeld hp (fun _ _ h => h)
    skip
    clear hp hHeld hn1
    refine hK.out _ _ hn2 (fun hHeld => ?_)
    clear hK K
    try simp only [Act.put, List.setIfInBounds_toArray, List.set_cons_zero, List.set_cons_succ]
    refine wpAnyH_ready (rs := [23]) (by kernel_rfl) (by simp) ?_
    refine AllReadyH.cons rfl (fun K hK => ?_) AllReadyH.nil
    go_simp
    go_at_call 15
    refine (K3.out _ (Ht.out.low (Hv1.out.trans hHeld (fun _ _ h => h)))).mono ?_
    rintro e u3 ⟨rfl, hp⟩
    have hn3 : NoW v1 u3 := Fp.trans hHeld hp (fun _ _ h => h)
    skip
    clear hp hHeld hn2
    refine hK.out _ _ hn3 (fun hHeld => ?_)
    clear hK K
    try simp only [Act.put, List.setIfInBounds_toArray, List.set_cons_zero, List.set_cons_succ]
    (refine take_at 24 (some 46) rfl rfl (by kernel_rfl) (by kernel_rfl) (by kernel_rfl) (fun _ _ _ h => h) (v := ?_) (by kernel_rfl) ?_ (by assumption) ?_; rotate_left; (focus (intro wS hSw; skip; go_simp; try with_reducible rfl)); (try simp only [Act.put, List.setIfInBounds_toArray, List.set_cons_zero, List.set_cons_succ]))
    (refine take_at 25 (some 47) rfl rfl (by kernel_rfl) (by kernel_rfl) (by kernel_rfl) (fun _ _ _ h => h) (v := ?_) (by kernel_rfl) ?_ (by assumption) ?_; rotate_left; (focus (intro wS hSw; skip; go_simp; try with_reducible rfl)); (try simp only [Act.put, List.setIfInBounds_toArray, List.set_cons_zero, List.set_cons_succ]))
    (refine take_at 26 (some 48) rfl rfl (by kernel_rfl) (by kernel_rfl) (by kernel_rfl) (fun _ _ _ h => h) (v := ?_) (by kernel_rfl) ?_ (by assumption) ?_; rotate_left; (focus (intro wS hSw; skip; go_simp; try with_reducible rfl)); (try simp only [Act.put, List.setIfInBounds_toArray, List.set_cons_zero, List.set_cons_succ]))
    refine wpAnyH_done (by kernel_rfl) ?_ _
    have Hv2 := Lib.hid (Hv1.out.trans hHeld (fun _ _ h => h))
    clear hHeld lb K1 K2 K3 z0 z1 z2 z3 z4 z5 z6 z7 z8 z9 z10 z11 z12
    go_wp2_with fail
    go_loopg [6] (n + 1) (fun gg iv wx => ∃ (k : Nat), k ≤ n ∧ gg = n + 1 - k ∧ iv = .int .i64 (k : Int) ∧ NoW w wx)
    case atStart => exact ⟨0, by omega, by omega, rfl, Hv2.out⟩
    case round =>
      obtain ⟨k, hk, hg, rfl, hf⟩ := hrel
      have Hg := Lib.hid hg
      have Hf := Lib.hid hf
      clear hg hf
      by_cases hltk : k < n
      · obtain ⟨b1, o1, e1, hc0⟩ := HE.out.at' k hltk
        obtain ⟨rfl, rfl⟩ : b0 = b1 ∧ o0 = o1 := by simpa using e1
        clear e1
        have hok := HE.out.ok k hltk
        have hcw : ∀ j v, (E k).cs[j]? = some v → wr.cell? ⟨b0, o0 + k * 13 + j, none⟩ = some v := fun j v hj => (Hf.out.cell (p := ⟨b0, o0 + k * 13 + j, none⟩) (cell_lt (hc0 j v hj)) id).trans (hc0 j v hj)
        rcases hek : E k with ⟨r, a, p, b, q, r2, a2, p2, b2, q2, st, dl, ad, hn, hc⟩
        rw [hek] at hcw hok
        have y0 : wr.cell? ⟨b0, o0 + k * 13, none⟩ = some (.int .u8 r) := hcw 0 _ rfl
        have y1 : wr.cell? ⟨b0, o0 + k * 13 + 1, none⟩ = some (.int .u32 a) := hcw 1 _ rfl
        have y2 : wr.cell? ⟨b0, o0 + k * 13 + 2, none⟩ = some (.int .u16 p) := hcw 2 _ rfl
        have y3 : wr.cell? ⟨b0, o0 + k * 13 + 3, none⟩ = some (.int .u32 b) := hcw 3 _ rfl
        have y4 : wr.cell? ⟨b0, o0 + k * 13 + 4, none⟩ = some (.int .u16 q) := hcw 4 _ rfl
        have y5 : wr.cell? ⟨b0, o0 + k * 13 + 5, none⟩ = some (.int .u8 r2) := hcw 5 _ rfl
        have y6 : wr.cell? ⟨b0, o0 + k * 13 + 6, none⟩ = some (.int .u32 a2) := hcw 6 _ rfl
        have y7 : wr.cell? ⟨b0, o0 + k * 13 + 7, none⟩ = some (.int .u16 p2) := hcw 7 _ rfl
        have y8 : wr.cell? ⟨b0, o0 + k * 13 + 8, none⟩ = some (.int .u32 b2) := hcw 8 _ rfl
        have y9 : wr.cell? ⟨b0, o0 + k * 13 + 9, none⟩ = some (.int .u16 q2) := hcw 9 _ rfl
        have y10 : wr.cell? ⟨b0, o0 + k * 13 + 10, none⟩ = some (.int .i64 st) := hcw 10 _ rfl
        have y11 : wr.cell? ⟨b0, o0 + k * 13 + 11, none⟩ = some (.int .i64 dl) := hcw 11 _ rfl
        have y12 : wr.cell? ⟨b0, o0 + k * 13 + 12, none⟩ = some (.slice ad hn hc) := hcw 12 _ rfl
        clear hc0 hcw
        have Hok := Lib.hid hok
        have Hek := Lib.hid hek
        have lb : b0 < wr.heap.size := cell_lt y0
        clear hok hek
        have k1 := fun W => live_ok r a p b q r2 a2 p2 b2 q2 st dl (.slice ad hn hc) now W
        have K2 := Lib.hid (fun W => (show Calls Tryd.prog 16 #[.int .u8 r] W (Ret1 (.int .i64 (flowN r : Nat)) W) from (flow_ok r W).mono fun e w' ⟨h1, h2⟩ => ⟨h1, by rw [h2]; exact Fp.refl _ _⟩))
        have k3 := fun W hW => (show Calls Tryd.prog 15 #[.int .i64 (flowN r : Nat), .int .i64 st] W (Ret1 (.bool (earlyB (flowN r) st)) W) from (early_ok (flowN r) (flowN_lt r) st W hW).mono fun e w' ⟨h1, h2⟩ => ⟨h1, by rw [h2]; exact Fp.refl _ _⟩)
        have hmay : (E k).may now = (decide (now < dl) && earlyB (flowN r) st) := by rw [Hek.out]; rfl
        have k4 := fun W => eless_ok r a p b q r' a' p' b' q' r2 a2 p2 b2 q2 r2' a2' p2' b2' q2' st st' dl dl' (.slice ad hn hc) (.slice ad' hn' hc') Hok.out.a Hok.out.p Hok.out.b Hok.out.q Hokm.out.a Hokm.out.p Hokm.out.b Hokm.out.q W
        have z0 : wr.cell? ⟨b0, o0 + m * 13, none⟩ = some (.int .u8 r') := (Hz.out 0 _ rfl wr Hf.out)
        have z1 : wr.cell? ⟨b0, o0 + m * 13 + 1, none⟩ = some (.int .u32 a') := (Hz.out 1 _ rfl wr Hf.out)
        have z2 : wr.cell? ⟨b0, o0 + m * 13 + 2, none⟩ = some (.int .u16 p') := (Hz.out 2 _ rfl wr Hf.out)
        have z3 : wr.cell? ⟨b0, o0 + m * 13 + 3, none⟩ = some (.int .u32 b') := (Hz.out 3 _ rfl wr Hf.out)
        have z4 : wr.cell? ⟨b0, o0 + m * 13 + 4, none⟩ = some (.int .u16 q') := (Hz.out 4 _ rfl wr Hf.out)
        have z5 : wr.cell? ⟨b0, o0 + m * 13 + 5, none⟩ = some (.int .u8 r2') := (Hz.out 5 _ rfl wr Hf.out)
        have z6 : wr.cell? ⟨b0, o0 + m * 13 + 6, none⟩ = some (.int .u32 a2') := (Hz.out 6 _ rfl wr Hf.out)
        have z7 : wr.cell? ⟨b0, o0 + m * 13 + 7, none⟩ = some (.int .u16 p2') := (Hz.out 7 _ rfl wr Hf.out)
        have z8 : wr.cell? ⟨b0, o0 + m * 13 + 8, none⟩ = some (.int .u32 b2') := (Hz.out 8 _ rfl wr Hf.out)
        have z9 : wr.cell? ⟨b0, o0 + m * 13 + 9, none⟩ = some (.int .u16 q2') := (Hz.out 9 _ rfl wr Hf.out)
        have z10 : wr.cell? ⟨b0, o0 + m * 13 + 10, none⟩ = some (.int .i64 st') := (Hz.out 10 _ rfl wr Hf.out)
        have z11 : wr.cell? ⟨b0, o0 + m * 13 + 11, none⟩ = some (.int .i64 dl') := (Hz.out 11 _ rfl wr Hf.out)
        have z12 : wr.cell? ⟨b0, o0 + m * 13 + 12, none⟩ = some (.slice ad' hn' hc') := (Hz.out 12 _ rfl wr Hf.out)
        go_wp2_with fail
        rcases hlv : decide (now < dl) with _ | _
        · rw [hlv] at k1
          have K1 := Lib.hid k1
          clear k1 k3 hmay hlv
          clear z0 z1 z2 z3 z4 z5 z6 z7 z8 z9 z10 z11 z12 k4
          refine wp_region_held_drew (S := fun wx => NoW wr wx) (by kernel_rfl) (Fp.drew (Fp.refl _ _)) (fun hHeld => ?_)
          (refine take_at 0 (some 55) rfl rfl (by kernel_rfl) (by kernel_rfl) (by kernel_rfl) (fun _ _ _ h => h) (v := ?_) (by kernel_rfl) ?_ (by assumption) ?_; rotate_left; (focus (intro wS hSw; skip; go_simp; try with_reducible rfl)); (try simp only [Act.put, List.setIfInBounds_toArray, List.set_cons_zero, List.set_cons_succ]))
          (refine take_at 1 (some 56) rfl rfl (by kernel_rfl) (by kernel_rfl) (by kernel_rfl) (fun _ _ _ h => h) (v := ?_) (by kernel_rfl) ?_ (by assumption) ?_; rotate_left; (focus (intro wS hSw; skip; go_simp; try with_reducible rfl)); (try simp only [Act.put, List.setIfInBounds_toArray, List.set_cons_zero, List.set_cons_succ]))
          (refine take_at 2 (some 57) rfl rfl (by kernel_rfl) (by kernel_rfl) (by kernel_rfl) (fun _ _ _ h => h) (v := ?_) (by kernel_rfl) ?_ (by assumption) ?_; rotate_left; (focus (intro wS hSw; skip; go_simp; try with_reducible rfl)); (try simp only [Act.put, List.setIfInBounds_toArray, List.set_cons_zero, List.set_cons_succ]))
          (refine take_at 3 (some 58) rfl rfl (by kernel_rfl) (by kernel_rfl) (by kernel_rfl) (fun _ _ _ h => h) (v := ?_) (by kernel_rfl) ?_ (by assumption) ?_; rotate_left; (focus (intro wS hSw; (have hy0 := (hSw.cell (p := ⟨b0, o0 + k * 13, none⟩) lb id).trans y0); (have hy1 := (hSw.cell (p := ⟨b0, o0 + k * 13 + 1, none⟩) lb id).trans y1); (have hy2 := (hSw.cell (p := ⟨b0, o0 + k * 13 + 2, none⟩) lb id).trans y2); (have hy3 := (hSw.cell (p := ⟨b0, o0 + k * 13 + 3, none⟩) lb id).trans y3); (have hy4 := (hSw.cell (p := ⟨b0, o0 + k * 13 + 4, none⟩) lb id).trans y4); (have hy5 := (hSw.cell (p := ⟨b0, o0 + k * 13 + 5, none⟩) lb id).trans y5); (have hy6 := (hSw.cell (p := ⟨b0, o0 + k * 13 + 6, none⟩) lb id).trans y6); (have hy7 := (hSw.cell (p := ⟨b0, o0 + k * 13 + 7, none⟩) lb id).trans y7); (have hy8 := (hSw.cell (p := ⟨b0, o0 + k * 13 + 8, none⟩) lb id).trans y8); (have hy9 := (hSw.cell (p := ⟨b0, o0 + k * 13 + 9, none⟩) lb id).trans y9); (have hy10 := (hSw.cell (p := ⟨b0, o0 + k * 13 + 10, none⟩) lb id).trans y10); (have hy11 := (hSw.cell (p := ⟨b0, o0 + k * 13 + 11, none⟩) lb id).trans y11); (have hy12 := (hSw.cell (p := ⟨b0, o0 + k * 13 + 12, none⟩) lb id).trans y12); go_simp; try with_reducible rfl)); (try simp only [Act.put, List.setIfInBounds_toArray, List.set_cons_zero, List.set_cons_succ]))
          (refine take_at 4 (some 59) rfl rfl (by kernel_rfl) (by kernel_rfl) (by kernel_rfl) (fun _ _ _ h => h) (v := ?_) (by kernel_rfl) ?_ (by assumption) ?_; rotate_left; (focus (intro wS hSw; skip; go_simp; try with_reducible rfl)); (try simp only [Act.put, List.setIfInBounds_toArray, List.set_cons_zero, List.set_cons_succ]))
          refine wpAnyH_ready (rs := [5]) (by kernel_rfl) (by simp) ?_
          refine AllReadyH.cons rfl (fun K hK => ?_) AllReadyH.nil
          go_simp
          go_at_call 14
          refine (K1.out _).mono ?_
          rintro e u1 ⟨rfl, hp⟩
          have hn1 : NoW wr u1 := Fp.trans hHeld hp (fun _ _ h => h)
          skip
          clear hp hHeld
          refine hK.out _ _ hn1 (fun hHeld => ?_)
          clear hK K
          try simp only [Act.put, List.setIfInBounds_toArray, List.set_cons_zero, List.set_cons_succ]
          (refine take_at 6 (some 61) rfl rfl (by kernel_rfl) (by kernel_rfl) (by kernel_rfl) (fun _ _ _ h => h) (v := ?_) (by kernel_rfl) ?_ (by assumption) ?_; rotate_left; (focus (intro wS hSw; skip; go_simp; try with_reducible rfl)); (try simp only [Act.put, List.setIfInBounds_toArray, List.set_cons_zero, List.set_cons_succ]))
          (refine drop_at 7 (some 62) rfl rfl (by kernel_rfl) (by kernel_rfl) (by kernel_rfl) (fun _ _ _ h => h) (by kernel_rfl) (by assumption) ?_; (try simp only [Act.put, List.setIfInBounds_toArray, List.set_cons_zero, List.set_cons_succ]))
          (refine drop_at 8 (some 63) rfl rfl (by kernel_rfl) (by kernel_rfl) (by kernel_rfl) (fun _ _ _ h => h) (by kernel_rfl) (by assumption) ?_; (try simp only [Act.put, List.setIfInBounds_toArray, List.set_cons_zero, List.set_cons_succ]))
          (refine drop_at 9 (some 64) rfl rfl (by kernel_rfl) (by kernel_rfl) (by kernel_rfl) (fun _ _ _ h => h) (by kernel_rfl) (by assumption) ?_; (try simp only [Act.put, List.setIfInBounds_toArray, List.set_cons_zero, List.set_cons_succ]))
          (refine drop_at 10 (some 65) rfl rfl (by kernel_rfl) (by kernel_rfl) (by kernel_rfl) (fun _ _ _ h => h) (by kernel_rfl) (by assumption) ?_; (try simp only [Act.put, List.setIfInBounds_toArray, List.set_cons_zero, List.set_cons_succ]))
          (refine drop_at 11 (some 66) rfl rfl (by kernel_rfl) (by kernel_rfl) (by kernel_rfl) (fun _ _ _ h => h) (by kernel_rfl) (by assumption) ?_; (try simp only [Act.put, List.setIfInBounds_toArray, List.set_cons_zero, List.set_cons_succ]))
          (refine drop_at 12 (some 67) rfl rfl (by kernel_rfl) (by kernel_rfl) (by kernel_rfl) (fun _ _ _ h => h) (by kernel_rfl) (by assumption) ?_; (try simp only [Act.put, List.setIfInBounds_toArray, List.set_cons_zero, List.set_cons_succ]))
          (refine drop_at 13 (some 68) rfl rfl (by kernel_rfl) (by kernel_rfl) (by kernel_rfl) (fun _ _ _ h => h) (by kernel_rfl) (by assumption) ?_; (try simp only [Act.put, List.setIfInBounds_toArray, List.set_cons_zero, List.set_cons_succ]))
          (refine drop_at 14 (some 69) rfl rfl (by kernel_rfl) (by kernel_rfl) (by kernel_rfl) (fun _ _ _ h => h) (by kernel_rfl) (by assumption) ?_; (try simp only [Act.put, List.setIfInBounds_toArray, List.set_cons_zero, List.set_cons_succ]))
          (refine drop_at 15 (some 70) rfl rfl (by kernel_rfl) (by kernel_rfl) (by kernel_rfl) (fun _ _ _ h => h) (by kernel_rfl) (by assumption) ?_; (try simp only [Act.put, List.setIfInBounds_toArray, List.set_cons_zero, List.set_cons_succ]))
          (refine drop_at 16 (some 71) rfl rfl (by kernel_rfl) (by kernel_rfl) (by kernel_rfl) (fun _ _ _ h => h) (by kernel_rfl) (by assumption) ?_; (try simp only [Act.put, List.setIfInBounds_toArray, List.set_cons_zero, List.set_cons_succ]))
          (refine drop_at 17 (some 72) rfl rfl (by kernel_rfl) (by kernel_rfl) (by kernel_rfl) (fun _ _ _ h => h) (by kernel_rfl) (by assumption) ?_; (try simp only [Act.put, List.setIfInBounds_toArray, List.set_cons_zero, List.set_cons_succ]))
          (refine drop_at 18 (some 73) rfl rfl (by kernel_rfl) (by kernel_rfl) (by kernel_rfl) (fun _ _ _ h => h) (by kernel_rfl) (by assumption) ?_; (try simp only [Act.put, List.setIfInBounds_toArray, List.set_cons_zero, List.set_cons_succ]))
          (refine drop_at 19 (some 74) rfl rfl (by kernel_rfl) (by kernel_rfl) (by kernel_rfl) (fun _ _ _ h => h) (by kernel_rfl) (by assumption) ?_; (try simp only [Act.put, List.setIfInBounds_toArray, List.set_cons_zero, List.set_cons_succ]))
          (refine take_at 20 (some 75) rfl rfl (by kernel_rfl) (by kernel_rfl) (by kernel_rfl) (fun _ _ _ h => h) (v := ?_) (by kernel_rfl) ?_ (by assumption) ?_; rotate_left; (focus (intro wS hSw; skip; go_simp; try with_reducible rfl)); (try simp only [Act.put, List.setIfInBounds_toArray, List.set_cons_zero, List.set_cons_succ]))
          (refine take_at 21 (some 7) rfl rfl (by kernel_rfl) (by kernel_rfl) (by kernel_rfl) (fun _ _ _ h => h) (v := ?_) (by kernel_rfl) ?_ (by assumption) ?_; rotate_left; (focus (intro wS hSw; skip; go_simp; try with_reducible rfl)); (try simp only [Act.put, List.setIfInBounds_toArray, List.set_cons_zero, List.set_cons_succ]))
          refine wpAnyH_done (by kernel_rfl) ?_ _
          have Hf2 := Lib.hid (Hf.out.trans hHeld (fun _ _ h => h))
          clear y0 y1 y2 y3 y4 y5 y6 y7 y8 y9 y10 y11 y12
          have lbn : b0 < u1.heap.size := Nat.lt_of_lt_of_le lb hHeld.size
          clear lb hHeld
          have lb := lbn
          clear lbn
          go_wp2_with fail
          refine wp_region_held_drew (S := fun wx => NoW u1 wx) (by kernel_rfl) (Fp.drew (Fp.refl _ _)) (fun hHeld => ?_)
          (refine take_at 0 (some 76) rfl rfl (by kernel_rfl) (by kernel_rfl) (by kernel_rfl) (fun _ _ _ h => h) (v := ?_) (by kernel_rfl) ?_ (by assumption) ?_; rotate_left; (focus (intro wS hSw; skip; go_simp; try with_reducible rfl)); (try simp only [Act.put, List.setIfInBounds_toArray, List.set_cons_zero, List.set_cons_succ]))
          (refine take_at 1 (some 77) rfl rfl (by kernel_rfl) (by kernel_rfl) (by kernel_rfl) (fun _ _ _ h => h) (v := ?_) (by kernel_rfl) ?_ (by assumption) ?_; rotate_left; (focus (intro wS hSw; skip; go_simp; try with_reducible rfl)); (try simp only [Act.put, List.setIfInBounds_toArray, List.set_cons_zero, List.set_cons_succ]))
          (refine drop_at 2 (some 78) rfl rfl (by kernel_rfl) (by kernel_rfl) (by kernel_rfl) (fun _ _ _ h => h) (by kernel_rfl) (by assumption) ?_; (try simp only [Act.put, List.setIfInBounds_toArray, List.set_cons_zero, List.set_cons_succ]))
          (refine drop_at 3 (some 79) rfl rfl (by kernel_rfl) (by kernel_rfl) (by kernel_rfl) (fun _ _ _ h => h) (by kernel_rfl) (by assumption) ?_; (try simp only [Act.put, List.setIfInBounds_toArray, List.set_cons_zero, List.set_cons_succ]))
          (refine drop_at 4 (some 80) rfl rfl (by kernel_rfl) (by kernel_rfl) (by kernel_rfl) (fun _ _ _ h => h) (by kernel_rfl) (by assumption) ?_; (try simp only [Act.put, List.setIfInBounds_toArray, List.set_cons_zero, List.set_cons_succ]))
          (refine drop_at 5 (some 81) rfl rfl (by kernel_rfl) (by kernel_rfl) (by kernel_rfl) (fun _ _ _ h => h) (by kernel_rfl) (by assumption) ?_; (try simp only [Act.put, List.setIfInBounds_toArray, List.set_cons_zero, List.set_cons_succ]))
          (refine drop_at 6 (some 82) rfl rfl (by kernel_rfl) (by kernel_rfl) (by kernel_rfl) (fun _ _ _ h => h) (by kernel_rfl) (by assumption) ?_; (try simp only [Act.put, List.setIfInBounds_toArray, List.set_cons_zero, List.set_cons_succ]))
          (refine drop_at 7 (some 83) rfl rfl (by kernel_rfl) (by kernel_rfl) (by kernel_rfl) (fun _ _ _ h => h) (by kernel_rfl) (by assumption) ?_; (try simp only [Act.put, List.setIfInBounds_toArray, List.set_cons_zero, List.set_cons_succ]))
          (refine drop_at 8 (some 84) rfl rfl (by kernel_rfl) (by kernel_rfl) (by kernel_rfl) (fun _ _ _ h => h) (by kernel_rfl) (by assumption) ?_; (try simp only [Act.put, List.setIfInBounds_toArray, List.set_cons_zero, List.set_cons_succ]))
          (refine drop_at 9 (some 85) rfl rfl (by kernel_rfl) (by kernel_rfl) (by kernel_rfl) (fun _ _ _ h => h) (by kernel_rfl) (by assumption) ?_; (try simp only [Act.put, List.setIfInBounds_toArray, List.set_cons_zero, List.set_cons_succ]))
          (refine drop_at 10 (some 86) rfl rfl (by kernel_rfl) (by kernel_rfl) (by kernel_rfl) (fun _ _ _ h => h) (by kernel_rfl) (by assumption) ?_; (try simp only [Act.put, List.setIfInBounds_toArray, List.set_cons_zero, List.set_cons_succ]))
          (refine drop_at 11 (some 87) rfl rfl (by kernel_rfl) (by kernel_rfl) (by kernel_rfl) (fun _ _ _ h => h) (by kernel_rfl) (by assumption) ?_; (try simp only [Act.put, List.setIfInBounds_toArray, List.set_cons_zero, List.set_cons_succ]))
          (refine drop_at 12 (some 88) rfl rfl (by kernel_rfl) (by kernel_rfl) (by kernel_rfl) (fun _ _ _ h => h) (by kernel_rfl) (by assumption) ?_; (try simp only [Act.put, List.setIfInBounds_toArray, List.set_cons_zero, List.set_cons_succ]))
          (refine drop_at 13 (some 89) rfl rfl (by kernel_rfl) (by kernel_rfl) (by kernel_rfl) (fun _ _ _ h => h) (by kernel_rfl) (by assumption) ?_; (try simp only [Act.put, List.setIfInBounds_toArray, List.set_cons_zero, List.set_cons_succ]))
          (refine drop_at 14 (some 90) rfl rfl (by kernel_rfl) (by kernel_rfl) (by kernel_rfl) (fun _ _ _ h => h) (by kernel_rfl) (by assumption) ?_; (try simp only [Act.put, List.setIfInBounds_toArray, List.set_cons_zero, List.set_cons_succ]))
          (refine take_at 15 (some 91) rfl rfl (by kernel_rfl) (by kernel_rfl) (by kernel_rfl) (fun _ _ _ h => h) (v := ?_) (by kernel_rfl) ?_ (by assumption) ?_; rotate_left; (focus (intro wS hSw; skip; go_simp; try with_reducible rfl)); (try simp only [Act.put, List.setIfInBounds_toArray, List.set_cons_zero, List.set_cons_succ]))
          refine wpAnyH_done (by kernel_rfl) ?_ _
          have Hf3 := Lib.hid (Hf2.out.trans hHeld (fun _ _ h => h))
          clear hHeld
          go_wp2_with fail
          go_roundg (n - k)
          case measure => have := Hg.out; omega
          case rel => exact ⟨k + 1, by omega, by omega, by go_num, Hf3.out⟩
        · rw [hlv] at k1
          rw [hlv, Bool.true_and] at hmay
          have K1 := Lib.hid k1
          clear k1 hlv
          rcases hea : earlyB (flowN r) st with _ | _
          · rw [hea] at k3
            have K3 := Lib.hid k3
            clear k3 hea hmay
            clear z0 z1 z2 z3 z4 z5 z6 z7 z8 z9 z10 z11 z12 k4
            refine wp_region_held_drew (S := fun wx => NoW wr wx) (by kernel_rfl) (Fp.drew (Fp.refl _ _)) (fun hHeld => ?_)
            (refine take_at 0 (some 55) rfl rfl (by kernel_rfl) (by kernel_rfl) (by kernel_rfl) (fun _ _ _ h => h) (v := ?_) (by kernel_rfl) ?_ (by assumption) ?_; rotate_left; (focus (intro wS hSw; skip; go_simp; try with_reducible rfl)); (try simp only [Act.put, List.setIfInBounds_toArray, List.set_cons_zero, List.set_cons_succ]))
            (refine take_at 1 (some 56) rfl rfl (by kernel_rfl) (by kernel_rfl) (by kernel_rfl) (fun _ _ _ h => h) (v := ?_) (by kernel_rfl) ?_ (by assumption) ?_; rotate_left; (focus (intro wS hSw; skip; go_simp; try with_reducible rfl)); (try simp only [Act.put, List.setIfInBounds_toArray, List.set_cons_zero, List.set_cons_succ]))
            (refine take_at 2 (some 57) rfl rfl (by kernel_rfl) (by kernel_rfl) (by kernel_rfl) (fun _ _ _ h => h) (v := ?_) (by kernel_rfl) ?_ (by assumption) ?_; rotate_left; (focus (intro wS hSw; skip; go_simp; try with_reducible rfl)); (try simp only [Act.put, List.setIfInBounds_toArray, List.set_cons_zero, List.set_cons_succ]))
            (refine take_at 3 (some 58) rfl rfl (by kernel_rfl) (by kernel_rfl) (by kernel_rfl) (fun _ _ _ h => h) (v := ?_) (by kernel_rfl) ?_ (by assumption) ?_; rotate_left; (focus (intro wS hSw; (have hy0 := (hSw.cell (p := ⟨b0, o0 + k * 13, none⟩) lb id).trans y0); (have hy1 := (hSw.cell (p := ⟨b0, o0 + k * 13 + 1, none⟩) lb id).trans y1); (have hy2 := (hSw.cell (p := ⟨b0, o0 + k * 13 + 2, none⟩) lb id).trans y2); (have hy3 := (hSw.cell (p := ⟨b0, o0 + k * 13 + 3, none⟩) lb id).trans y3); (have hy4 := (hSw.cell (p := ⟨b0, o0 + k * 13 + 4, none⟩) lb id).trans y4); (have hy5 := (hSw.cell (p := ⟨b0, o0 + k * 13 + 5, none⟩) lb id).trans y5); (have hy6 := (hSw.cell (p := ⟨b0, o0 + k * 13 + 6, none⟩) lb id).trans y6); (have hy7 := (hSw.cell (p := ⟨b0, o0 + k * 13 + 7, none⟩) lb id).trans y7); (have hy8 := (hSw.cell (p := ⟨b0, o0 + k * 13 + 8, none⟩) lb id).trans y8); (have hy9 := (hSw.cell (p := ⟨b0, o0 + k * 13 + 9, none⟩) lb id).trans y9); (have hy10 := (hSw.cell (p := ⟨b0, o0 + k * 13 + 10, none⟩) lb id).trans y10); (have hy11 := (hSw.cell (p := ⟨b0, o0 + k * 13 + 11, none⟩) lb id).trans y11); (have hy12 := (hSw.cell (p := ⟨b0, o0 + k * 13 + 12, none⟩) lb id).trans y12); go_simp; try with_reducible rfl)); (try simp only [Act.put, List.setIfInBounds_toArray, List.set_cons_zero, List.set_cons_succ]))
            (refine take_at 4 (some 59) rfl rfl (by kernel_rfl) (by kernel_rfl) (by kernel_rfl) (fun _ _ _ h => h) (v := ?_) (by kernel_rfl) ?_ (by assumption) ?_; rotate_left; (focus (intro wS hSw; skip; go_simp; try with_reducible rfl)); (try simp only [Act.put, List.setIfInBounds_toArray, List.set_cons_zero, List.set_cons_succ]))
            refine wpAnyH_ready (rs := [5]) (by kernel_rfl) (by simp) ?_
            refine AllReadyH.cons rfl (fun K hK => ?_) AllReadyH.nil
            go_simp
            go_at_call 14
            refine (K1.out _).mono ?_
            rintro e u1 ⟨rfl, hp⟩
            have hn1 : NoW wr u1 := Fp.trans hHeld hp (fun _ _ h => h)
            skip
            clear hp hHeld
            refine hK.out _ _ hn1 (fun hHeld => ?_)
            clear hK K
            try simp only [Act.put, List.setIfInBounds_toArray, List.set_cons_zero, List.set_cons_succ]
            (refine take_at 6 (some 61) rfl rfl (by kernel_rfl) (by kernel_rfl) (by kernel_rfl) (fun _ _ _ h => h) (v := ?_) (by kernel_rfl) ?_ (by assumption) ?_; rotate_left; (focus (intro wS hSw; skip; go_simp; try with_reducible rfl)); (try simp only [Act.put, List.setIfInBounds_toArray, List.set_cons_zero, List.set_cons_succ]))
            (refine take_at 7 (some 62) rfl rfl (by kernel_rfl) (by kernel_rfl) (by kernel_rfl) (fun _ _ _ h => h) (v := ?_) (by kernel_rfl) ?_ (by assumption) ?_; rotate_left; (focus (intro wS hSw; skip; go_simp; try with_reducible rfl)); (try simp only [Act.put, List.setIfInBounds_toArray, List.set_cons_zero, List.set_cons_succ]))
            (refine take_at 8 (some 63) rfl rfl (by kernel_rfl) (by kernel_rfl) (by kernel_rfl) (fun _ _ _ h => h) (v := ?_) (by kernel_rfl) ?_ (by assumption) ?_; rotate_left; (focus (intro wS hSw; skip; go_simp; try with_reducible rfl)); (try simp only [Act.put, List.setIfInBounds_toArray, List.set_cons_zero, List.set_cons_succ]))
            (refine take_at 9 (some 64) rfl rfl (by kernel_rfl) (by kernel_rfl) (by kernel_rfl) (fun _ _ _ h => h) (v := ?_) (by kernel_rfl) ?_ (by assumption) ?_; rotate_left; (focus (intro wS hSw; skip; go_simp; try with_reducible rfl)); (try simp only [Act.put, List.setIfInBounds_toArray, List.set_cons_zero, List.set_cons_succ]))
            (refine take_at 10 (some 65) rfl rfl (by kernel_rfl) (by kernel_rfl) (by kernel_rfl) (fun _ _ _ h => h) (v := ?_) (by kernel_rfl) ?_ (by assumption) ?_; rotate_left; (focus (intro wS hSw; skip; go_simp; try with_reducible rfl)); (try simp only [Act.put, List.setIfInBounds_toArray, List.set_cons_zero, List.set_cons_succ]))
            (refine take_at 11 (some 66) rfl rfl (by kernel_rfl) (by kernel_rfl) (by kernel_rfl) (fun _ _ _ h => h) (v := ?_) (by kernel_rfl) ?_ (by assumption) ?_; rotate_left; (focus (intro wS hSw; skip; go_simp; try with_reducible rfl)); (try simp only [Act.put, List.setIfInBounds_toArray, List.set_cons_zero, List.set_cons_succ]))
            (refine take_at 12 (some 67) rfl rfl (by kernel_rfl) (by kernel_rfl) (by kernel_rfl) (fun _ _ _ h => h) (v := ?_) (by kernel_rfl) ?_ (by assumption) ?_; rotate_left; (focus (intro wS hSw; (have hy0 := (hSw.cell (p := ⟨b0, o0 + k * 13, none⟩) lb id).trans y0); go_simp; try with_reducible rfl)); (try simp only [Act.put, List.setIfInBounds_toArray, List.set_cons_zero, List.set_cons_succ]))
            (refine take_at 14 (some 69) rfl rfl (by kernel_rfl) (by kernel_rfl) (by kernel_rfl) (fun _ _ _ h => h) (v := ?_) (by kernel_rfl) ?_ (by assumption) ?_; rotate_left; (focus (intro wS hSw; skip; go_simp; try with_reducible rfl)); (try simp only [Act.put, List.setIfInBounds_toArray, List.set_cons_zero, List.set_cons_succ]))
            (refine take_at 15 (some 70) rfl rfl (by kernel_rfl) (by kernel_rfl) (by kernel_rfl) (fun _ _ _ h => h) (v := ?_) (by kernel_rfl) ?_ (by assumption) ?_; rotate_left; (focus (intro wS hSw; skip; go_simp; try with_reducible rfl)); (try simp only [Act.put, List.setIfInBounds_toArray, List.set_cons_zero, List.set_cons_succ]))
            (refine take_at 16 (some 71) rfl rfl (by kernel_rfl) (by kernel_rfl) (by kernel_rfl) (fun _ _ _ h => h) (v := ?_) (by kernel_rfl) ?_ (by assumption) ?_; rotate_left; (focus (intro wS hSw; skip; go_simp; try with_reducible rfl)); (try simp only [Act.put, List.setIfInBounds_toArray, List.set_cons_zero, List.set_cons_succ]))
            (refine take_at 17 (some 72) rfl rfl (by kernel_rfl) (by kernel_rfl) (by kernel_rfl) (fun _ _ _ h => h) (v := ?_) (by kernel_rfl) ?_ (by assumption) ?_; rotate_left; (focus (intro wS hSw; skip; go_simp; try with_reducible rfl)); (try simp only [Act.put, List.setIfInBounds_toArray, List.set_cons_zero, List.set_cons_succ]))
            (refine take_at 18 (some 73) rfl rfl (by kernel_rfl) (by kernel_rfl) (by kernel_rfl) (fun _ _ _ h => h) (v := ?_) (by kernel_rfl) ?_ (by assumption) ?_; rotate_left; (focus (intro wS hSw; (have hy10 := (hSw.cell (p := ⟨b0, o0 + k * 13 + 10, none⟩) lb id).trans y10); go_simp; try with_reducible rfl)); (try simp only [Act.put, List.setIfInBounds_toArray, List.set_cons_zero, List.set_cons_succ]))
            refine wpAnyH_ready (rs := [13]) (by kernel_rfl) (by simp) ?_
            refine AllReadyH.cons rfl (fun K hK => ?_) AllReadyH.nil
            go_simp
            go_at_call 16
            refine (K2.out _).mono ?_
            rintro e u2 ⟨rfl, hp⟩
            have hn2 : NoW wr u2 := Fp.trans hHeld hp (fun _ _ h => h)
            skip
            clear hp hHeld hn1
            refine hK.out _ _ hn2 (fun hHeld => ?_)
            clear hK K
            try simp only [Act.put, List.setIfInBounds_toArray, List.set_cons_zero, List.set_cons_succ]
            refine wpAnyH_ready (rs := [19]) (by kernel_rfl) (by simp) ?_
            refine AllReadyH.cons rfl (fun K hK => ?_) AllReadyH.nil
            go_simp
            go_at_call 15
            refine (K3.out _ (Ht.out.low (Hf.out.trans hHeld (fun _ _ h => h)))).mono ?_
            rintro e u3 ⟨rfl, hp⟩
            have hn3 : NoW wr u3 := Fp.trans hHeld hp (fun _ _ h => h)
            skip
            clear hp hHeld hn2
            refine hK.out _ _ hn3 (fun hHeld => ?_)
            clear hK K
            try simp only [Act.put, List.setIfInBounds_toArray, List.set_cons_zero, List.set_cons_succ]
            (refine take_at 20 (some 75) rfl rfl (by kernel_rfl) (by kernel_rfl) (by kernel_rfl) (fun _ _ _ h => h) (v := ?_) (by kernel_rfl) ?_ (by assumption) ?_; rotate_left; (focus (intro wS hSw; skip; go_simp; try with_reducible rfl)); (try simp only [Act.put, List.setIfInBounds_toArray, List.set_cons_zero, List.set_cons_succ]))
            (refine take_at 21 (some 7) rfl rfl (by kernel_rfl) (by kernel_rfl) (by kernel_rfl) (fun _ _ _ h => h) (v := ?_) (by kernel_rfl) ?_ (by assumption) ?_; rotate_left; (focus (intro wS hSw; skip; go_simp; try with_reducible rfl)); (try simp only [Act.put, List.setIfInBounds_toArray, List.set_cons_zero, List.set_cons_succ]))
            refine wpAnyH_done (by kernel_rfl) ?_ _
            have Hf2 := Lib.hid (Hf.out.trans hHeld (fun _ _ h => h))
            clear y0 y1 y2 y3 y4 y5 y6 y7 y8 y9 y10 y11 y12
            have lbn : b0 < u3.heap.size := Nat.lt_of_lt_of_le lb hHeld.size
            clear lb hHeld
            have lb := lbn
            clear lbn
            go_wp2_with fail
            refine wp_region_held_drew (S := fun wx => NoW u3 wx) (by kernel_rfl) (Fp.drew (Fp.refl _ _)) (fun hHeld => ?_)
            (refine take_at 0 (some 76) rfl rfl (by kernel_rfl) (by kernel_rfl) (by kernel_rfl) (fun _ _ _ h => h) (v := ?_) (by kernel_rfl) ?_ (by assumption) ?_; rotate_left; (focus (intro wS hSw; skip; go_simp; try with_reducible rfl)); (try simp only [Act.put, List.setIfInBounds_toArray, List.set_cons_zero, List.set_cons_succ]))
            (refine take_at 1 (some 77) rfl rfl (by kernel_rfl) (by kernel_rfl) (by kernel_rfl) (fun _ _ _ h => h) (v := ?_) (by kernel_rfl) ?_ (by assumption) ?_; rotate_left; (focus (intro wS hSw; skip; go_simp; try with_reducible rfl)); (try simp only [Act.put, List.setIfInBounds_toArray, List.set_cons_zero, List.set_cons_succ]))
            (refine drop_at 2 (some 78) rfl rfl (by kernel_rfl) (by kernel_rfl) (by kernel_rfl) (fun _ _ _ h => h) (by kernel_rfl) (by assumption) ?_; (try simp only [Act.put, List.setIfInBounds_toArray, List.set_cons_zero, List.set_cons_succ]))
            (refine drop_at 3 (some 79) rfl rfl (by kernel_rfl) (by kernel_rfl) (by kernel_rfl) (fun _ _ _ h => h) (by kernel_rfl) (by assumption) ?_; (try simp only [Act.put, List.setIfInBounds_toArray, List.set_cons_zero, List.set_cons_succ]))
            (refine drop_at 4 (some 80) rfl rfl (by kernel_rfl) (by kernel_rfl) (by kernel_rfl) (fun _ _ _ h => h) (by kernel_rfl) (by assumption) ?_; (try simp only [Act.put, List.setIfInBounds_toArray, List.set_cons_zero, List.set_cons_succ]))
            (refine drop_at 5 (some 81) rfl rfl (by kernel_rfl) (by kernel_rfl) (by kernel_rfl) (fun _ _ _ h => h) (by kernel_rfl) (by assumption) ?_; (try simp only [Act.put, List.setIfInBounds_toArray, List.set_cons_zero, List.set_cons_succ]))
            (refine drop_at 6 (some 82) rfl rfl (by kernel_rfl) (by kernel_rfl) (by kernel_rfl) (fun _ _ _ h => h) (by kernel_rfl) (by assumption) ?_; (try simp only [Act.put, List.setIfInBounds_toArray, List.set_cons_zero, List.set_cons_succ]))
            (refine drop_at 7 (some 83) rfl rfl (by kernel_rfl) (by kernel_rfl) (by kernel_rfl) (fun _ _ _ h => h) (by kernel_rfl) (by assumption) ?_; (try simp only [Act.put, List.setIfInBounds_toArray, List.set_cons_zero, List.set_cons_succ]))
            (refine drop_at 8 (some 84) rfl rfl (by kernel_rfl) (by kernel_rfl) (by kernel_rfl) (fun _ _ _ h => h) (by kernel_rfl) (by assumption) ?_; (try simp only [Act.put, List.setIfInBounds_toArray, List.set_cons_zero, List.set_cons_succ]))
            (refine drop_at 9 (some 85) rfl rfl (by kernel_rfl) (by kernel_rfl) (by kernel_rfl) (fun _ _ _ h => h) (by kernel_rfl) (by assumption) ?_; (try simp only [Act.put, List.setIfInBounds_toArray, List.set_cons_zero, List.set_cons_succ]))
            (refine drop_at 10 (some 86) rfl rfl (by kernel_rfl) (by kernel_rfl) (by kernel_rfl) (fun _ _ _ h => h) (by kernel_rfl) (by assumption) ?_; (try simp only [Act.put, List.setIfInBounds_toArray, List.set_cons_zero, List.set_cons_succ]))
            (refine drop_at 11 (some 87) rfl rfl (by kernel_rfl) (by kernel_rfl) (by kernel_rfl) (fun _ _ _ h => h) (by kernel_rfl) (by assumption) ?_; (try simp only [Act.put, List.setIfInBounds_toArray, List.set_cons_zero, List.set_cons_succ]))
            (refine drop_at 12 (some 88) rfl rfl (by kernel_rfl) (by kernel_rfl) (by kernel_rfl) (fun _ _ _ h => h) (by kernel_rfl) (by assumption) ?_; (try simp only [Act.put, List.setIfInBounds_toArray, List.set_cons_zero, List.set_cons_succ]))
            (refine drop_at 13 (some 89) rfl rfl (by kernel_rfl) (by kernel_rfl) (by kernel_rfl) (fun _ _ _ h => h) (by kernel_rfl) (by assumption) ?_; (try simp only [Act.put, List.setIfInBounds_toArray, List.set_cons_zero, List.set_cons_succ]))
            (refine drop_at 14 (some 90) rfl rfl (by kernel_rfl) (by kernel_rfl) (by kernel_rfl) (fun _ _ _ h => h) (by kernel_rfl) (by assumption) ?_; (try simp only [Act.put, List.setIfInBounds_toArray, List.set_cons_zero, List.set_cons_succ]))
            (refine take_at 15 (some 91) rfl rfl (by kernel_rfl) (by kernel_rfl) (by kernel_rfl) (fun _ _ _ h => h) (v := ?_) (by kernel_rfl) ?_ (by assumption) ?_; rotate_left; (focus (intro wS hSw; skip; go_simp; try with_reducible rfl)); (try simp only [Act.put, List.setIfInBounds_toArray, List.set_cons_zero, List.set_cons_succ]))
            refine wpAnyH_done (by kernel_rfl) ?_ _
            have Hf3 := Lib.hid (Hf2.out.trans hHeld (fun _ _ h => h))
            clear hHeld
            go_wp2_with fail
            go_roundg (n - k)
            case measure => have := Hg.out; omega
            case rel => exact ⟨k + 1, by omega, by omega, by go_num, Hf3.out⟩
          · rw [hea] at hmay
            have hle := Hle.out k hltk hmay
            rw [show (E k).less (E m) = elB dl (tkey r a p b q) dl' (tkey r' a' p' b' q') by rw [Hek.out, Hem.out]; rfl] at hle
            rw [hle] at k4
            have K4 := Lib.hid k4
            rw [hea] at k3
            have K3 := Lib.hid k3
            clear k3 k4 hle hea hmay
            refine wp_region_held_drew (S := fun wx => NoW wr wx) (by kernel_rfl) (Fp.drew (Fp.refl _ _)) (fun hHeld => ?_)
            (refine take_at 0 (some 55) rfl rfl (by kernel_rfl) (by kernel_rfl) (by kernel_rfl) (fun _ _ _ h => h) (v := ?_) (by kernel_rfl) ?_ (by assumption) ?_; rotate_left; (focus (intro wS hSw; skip; go_simp; try with_reducible rfl)); (try simp only [Act.put, List.setIfInBounds_toArray, List.set_cons_zero, List.set_cons_succ]))
            (refine take_at 1 (some 56) rfl rfl (by kernel_rfl) (by kernel_rfl) (by kernel_rfl) (fun _ _ _ h => h) (v := ?_) (by kernel_rfl) ?_ (by assumption) ?_; rotate_left; (focus (intro wS hSw; skip; go_simp; try with_reducible rfl)); (try simp only [Act.put, List.setIfInBounds_toArray, List.set_cons_zero, List.set_cons_succ]))
            (refine take_at 2 (some 57) rfl rfl (by kernel_rfl) (by kernel_rfl) (by kernel_rfl) (fun _ _ _ h => h) (v := ?_) (by kernel_rfl) ?_ (by assumption) ?_; rotate_left; (focus (intro wS hSw; skip; go_simp; try with_reducible rfl)); (try simp only [Act.put, List.setIfInBounds_toArray, List.set_cons_zero, List.set_cons_succ]))
            (refine take_at 3 (some 58) rfl rfl (by kernel_rfl) (by kernel_rfl) (by kernel_rfl) (fun _ _ _ h => h) (v := ?_) (by kernel_rfl) ?_ (by assumption) ?_; rotate_left; (focus (intro wS hSw; (have hy0 := (hSw.cell (p := ⟨b0, o0 + k * 13, none⟩) lb id).trans y0); (have hy1 := (hSw.cell (p := ⟨b0, o0 + k * 13 + 1, none⟩) lb id).trans y1); (have hy2 := (hSw.cell (p := ⟨b0, o0 + k * 13 + 2, none⟩) lb id).trans y2); (have hy3 := (hSw.cell (p := ⟨b0, o0 + k * 13 + 3, none⟩) lb id).trans y3); (have hy4 := (hSw.cell (p := ⟨b0, o0 + k * 13 + 4, none⟩) lb id).trans y4); (have hy5 := (hSw.cell (p := ⟨b0, o0 + k * 13 + 5, none⟩) lb id).trans y5); (have hy6 := (hSw.cell (p := ⟨b0, o0 + k * 13 + 6, none⟩) lb id).trans y6); (have hy7 := (hSw.cell (p := ⟨b0, o0 + k * 13 + 7, none⟩) lb id).trans y7); (have hy8 := (hSw.cell (p := ⟨b0, o0 + k * 13 + 8, none⟩) lb id).trans y8); (have hy9 := (hSw.cell (p := ⟨b0, o0 + k * 13 + 9, none⟩) lb id).trans y9); (have hy10 := (hSw.cell (p := ⟨b0, o0 + k * 13 + 10, none⟩) lb id).trans y10); (have hy11 := (hSw.cell (p := ⟨b0, o0 + k * 13 + 11, none⟩) lb id).trans y11); (have hy12 := (hSw.cell (p := ⟨b0, o0 + k * 13 + 12, none⟩) lb id).trans y12); go_simp; try with_reducible rfl)); (try simp only [Act.put, List.setIfInBounds_toArray, List.set_cons_zero, List.set_cons_succ]))
            (refine take_at 4 (some 59) rfl rfl (by kernel_rfl) (by kernel_rfl) (by kernel_rfl) (fun _ _ _ h => h) (v := ?_) (by kernel_rfl) ?_ (by assumption) ?_; rotate_left; (focus (intro wS hSw; skip; go_simp; try with_reducible rfl)); (try simp only [Act.put, List.setIfInBounds_toArray, List.set_cons_zero, List.set_cons_succ]))
            refine wpAnyH_ready (rs := [5]) (by kernel_rfl) (by simp) ?_
            refine AllReadyH.cons rfl (fun K hK => ?_) AllReadyH.nil
            go_simp
            go_at_call 14
            refine (K1.out _).mono ?_
            rintro e u1 ⟨rfl, hp⟩
            have hn1 : NoW wr u1 := Fp.trans hHeld hp (fun _ _ h => h)
            skip
            clear hp hHeld
            refine hK.out _ _ hn1 (fun hHeld => ?_)
            clear hK K
            try simp only [Act.put, List.setIfInBounds_toArray, List.set_cons_zero, List.set_cons_succ]
            (refine take_at 6 (some 61) rfl rfl (by kernel_rfl) (by kernel_rfl) (by kernel_rfl) (fun _ _ _ h => h) (v := ?_) (by kernel_rfl) ?_ (by assumption) ?_; rotate_left; (focus (intro wS hSw; skip; go_simp; try with_reducible rfl)); (try simp only [Act.put, List.setIfInBounds_toArray, List.set_cons_zero, List.set_cons_succ]))
            (refine take_at 7 (some 62) rfl rfl (by kernel_rfl) (by kernel_rfl) (by kernel_rfl) (fun _ _ _ h => h) (v := ?_) (by kernel_rfl) ?_ (by assumption) ?_; rotate_left; (focus (intro wS hSw; skip; go_simp; try with_reducible rfl)); (try simp only [Act.put, List.setIfInBounds_toArray, List.set_cons_zero, List.set_cons_succ]))
            (refine take_at 8 (some 63) rfl rfl (by kernel_rfl) (by kernel_rfl) (by kernel_rfl) (fun _ _ _ h => h) (v := ?_) (by kernel_rfl) ?_ (by assumption) ?_; rotate_left; (focus (intro wS hSw; skip; go_simp; try with_reducible rfl)); (try simp only [Act.put, List.setIfInBounds_toArray, List.set_cons_zero, List.set_cons_succ]))
            (refine take_at 9 (some 64) rfl rfl (by kernel_rfl) (by kernel_rfl) (by kernel_rfl) (fun _ _ _ h => h) (v := ?_) (by kernel_rfl) ?_ (by assumption) ?_; rotate_left; (focus (intro wS hSw; skip; go_simp; try with_reducible rfl)); (try simp only [Act.put, List.setIfInBounds_toArray, List.set_cons_zero, List.set_cons_succ]))
            (refine take_at 10 (some 65) rfl rfl (by kernel_rfl) (by kernel_rfl) (by kernel_rfl) (fun _ _ _ h => h) (v := ?_) (by kernel_rfl) ?_ (by assumption) ?_; rotate_left; (focus (intro wS hSw; skip; go_simp; try with_reducible rfl)); (try simp only [Act.put, List.setIfInBounds_toArray, List.set_cons_zero, List.set_cons_succ]))
            (refine take_at 11 (some 66) rfl rfl (by kernel_rfl) (by kernel_rfl) (by kernel_rfl) (fun _ _ _ h => h) (v := ?_) (by kernel_rfl) ?_ (by assumption) ?_; rotate_left; (focus (intro wS hSw; skip; go_simp; try with_reducible rfl)); (try simp only [Act.put, List.setIfInBounds_toArray, List.set_cons_zero, List.set_cons_succ]))
            (refine take_at 12 (some 67) rfl rfl (by kernel_rfl) (by kernel_rfl) (by kernel_rfl) (fun _ _ _ h => h) (v := ?_) (by kernel_rfl) ?_ (by assumption) ?_; rotate_left; (focus (intro wS hSw; (have hy0 := (hSw.cell (p := ⟨b0, o0 + k * 13, none⟩) lb id).trans y0); go_simp; try with_reducible rfl)); (try simp only [Act.put, List.setIfInBounds_toArray, List.set_cons_zero, List.set_cons_succ]))
            (refine take_at 14 (some 69) rfl rfl (by kernel_rfl) (by kernel_rfl) (by kernel_rfl) (fun _ _ _ h => h) (v := ?_) (by kernel_rfl) ?_ (by assumption) ?_; rotate_left; (focus (intro wS hSw; skip; go_simp; try with_reducible rfl)); (try simp only [Act.put, List.setIfInBounds_toArray, List.set_cons_zero, List.set_cons_succ]))
            (refine take_at 15 (some 70) rfl rfl (by kernel_rfl) (by kernel_rfl) (by kernel_rfl) (fun _ _ _ h => h) (v := ?_) (by kernel_rfl) ?_ (by assumption) ?_; rotate_left; (focus (intro wS hSw; skip; go_simp; try with_reducible rfl)); (try simp only [Act.put, List.setIfInBounds_toArray, List.set_cons_zero, List.set_cons_succ]))
            (refine take_at 16 (some 71) rfl rfl (by kernel_rfl) (by kernel_rfl) (by kernel_rfl) (fun _ _ _ h => h) (v := ?_) (by kernel_rfl) ?_ (by assumption) ?_; rotate_left; (focus (intro wS hSw; skip; go_simp; try with_reducible rfl)); (try simp only [Act.put, List.setIfInBounds_toArray, List.set_cons_zero, List.set_cons_succ]))
            (refine take_at 17 (some 72) rfl rfl (by kernel_rfl) (by kernel_rfl) (by kernel_rfl) (fun _ _ _ h => h) (v := ?_) (by kernel_rfl) ?_ (by assumption) ?_; rotate_left; (focus (intro wS hSw; skip; go_simp; try with_reducible rfl)); (try simp only [Act.put, List.setIfInBounds_toArray, List.set_cons_zero, List.set_cons_succ]))
            (refine take_at 18 (some 73) rfl rfl (by kernel_rfl) (by kernel_rfl) (by kernel_rfl) (fun _ _ _ h => h) (v := ?_) (by kernel_rfl) ?_ (by assumption) ?_; rotate_left; (focus (intro wS hSw; (have hy10 := (hSw.cell (p := ⟨b0, o0 + k * 13 + 10, none⟩) lb id).trans y10); go_simp; try with_reducible rfl)); (try simp only [Act.put, List.setIfInBounds_toArray, List.set_cons_zero, List.set_cons_succ]))
            refine wpAnyH_ready (rs := [13]) (by kernel_rfl) (by simp) ?_
            refine AllReadyH.cons rfl (fun K hK => ?_) AllReadyH.nil
            go_simp
            go_at_call 16
            refine (K2.out _).mono ?_
            rintro e u2 ⟨rfl, hp⟩
            have hn2 : NoW wr u2 := Fp.trans hHeld hp (fun _ _ h => h)
            skip
            clear hp hHeld hn1
            refine hK.out _ _ hn2 (fun hHeld => ?_)
            clear hK K
            try simp only [Act.put, List.setIfInBounds_toArray, List.set_cons_zero, List.set_cons_succ]
            refine wpAnyH_ready (rs := [19]) (by kernel_rfl) (by simp) ?_
            refine AllReadyH.cons rfl (fun K hK => ?_) AllReadyH.nil
            go_simp
            go_at_call 15
            refine (K3.out _ (Ht.out.low (Hf.out.trans hHeld (fun _ _ h => h)))).mono ?_
            rintro e u3 ⟨rfl, hp⟩
            have hn3 : NoW wr u3 := Fp.trans hHeld hp (fun _ _ h => h)
            skip
            clear hp hHeld hn2
            refine hK.out _ _ hn3 (fun hHeld => ?_)
            clear hK K
            try simp only [Act.put, List.setIfInBounds_toArray, List.set_cons_zero, List.set_cons_succ]
            (refine take_at 20 (some 75) rfl rfl (by kernel_rfl) (by kernel_rfl) (by kernel_rfl) (fun _ _ _ h => h) (v := ?_) (by kernel_rfl) ?_ (by assumption) ?_; rotate_left; (focus (intro wS hSw; skip; go_simp; try with_reducible rfl)); (try simp only [Act.put, List.setIfInBounds_toArray, List.set_cons_zero, List.set_cons_succ]))
            (refine take_at 21 (some 7) rfl rfl (by kernel_rfl) (by kernel_rfl) (by kernel_rfl) (fun _ _ _ h => h) (v := ?_) (by kernel_rfl) ?_ (by assumption) ?_; rotate_left; (focus (intro wS hSw; skip; go_simp; try with_reducible rfl)); (try simp only [Act.put, List.setIfInBounds_toArray, List.set_cons_zero, List.set_cons_succ]))
            refine wpAnyH_done (by kernel_rfl) ?_ _
            have Hf2 := Lib.hid (Hf.out.trans hHeld (fun _ _ h => h))
            have y0_ := (hHeld.cell (p := ⟨b0, o0 + k * 13, none⟩) lb id).trans y0
            have y1_ := (hHeld.cell (p := ⟨b0, o0 + k * 13 + 1, none⟩) lb id).trans y1
            have y2_ := (hHeld.cell (p := ⟨b0, o0 + k * 13 + 2, none⟩) lb id).trans y2
            have y3_ := (hHeld.cell (p := ⟨b0, o0 + k * 13 + 3, none⟩) lb id).trans y3
            have y4_ := (hHeld.cell (p := ⟨b0, o0 + k * 13 + 4, none⟩) lb id).trans y4
            have y5_ := (hHeld.cell (p := ⟨b0, o0 + k * 13 + 5, none⟩) lb id).trans y5
            have y6_ := (hHeld.cell (p := ⟨b0, o0 + k * 13 + 6, none⟩) lb id).trans y6
            have y7_ := (hHeld.cell (p := ⟨b0, o0 + k * 13 + 7, none⟩) lb id).trans y7
            have y8_ := (hHeld.cell (p := ⟨b0, o0 + k * 13 + 8, none⟩) lb id).trans y8
            have y9_ := (hHeld.cell (p := ⟨b0, o0 + k * 13 + 9, none⟩) lb id).trans y9
            have y10_ := (hHeld.cell (p := ⟨b0, o0 + k * 13 + 10, none⟩) lb id).trans y10
            have y11_ := (hHeld.cell (p := ⟨b0, o0 + k * 13 + 11, none⟩) lb id).trans y11
            have y12_ := (hHeld.cell (p := ⟨b0, o0 + k * 13 + 12, none⟩) lb id).trans y12
            have z0_ := (hHeld.cell (p := ⟨b0, o0 + m * 13, none⟩) lb id).trans z0
            have z1_ := (hHeld.cell (p := ⟨b0, o0 + m * 13 + 1, none⟩) lb id).trans z1
            have z2_ := (hHeld.cell (p := ⟨b0, o0 + m * 13 + 2, none⟩) lb id).trans z2
            have z3_ := (hHeld.cell (p := ⟨b0, o0 + m * 13 + 3, none⟩) lb id).trans z3
            have z4_ := (hHeld.cell (p := ⟨b0, o0 + m * 13 + 4, none⟩) lb id).trans z4
            have z5_ := (hHeld.cell (p := ⟨b0, o0 + m * 13 + 5, none⟩) lb id).trans z5
            have z6_ := (hHeld.cell (p := ⟨b0, o0 + m * 13 + 6, none⟩) lb id).trans z6
            have z7_ := (hHeld.cell (p := ⟨b0, o0 + m * 13 + 7, none⟩) lb id).trans z7
            have z8_ := (hHeld.cell (p := ⟨b0, o0 + m * 13 + 8, none⟩) lb id).trans z8
            have z9_ := (hHeld.cell (p := ⟨b0, o0 + m * 13 + 9, none⟩) lb id).trans z9
            have z10_ := (hHeld.cell (p := ⟨b0, o0 + m * 13 + 10, none⟩) lb id).trans z10
            have z11_ := (hHeld.cell (p := ⟨b0, o0 + m * 13 + 11, none⟩) lb id).trans z11
            have z12_ := (hHeld.cell (p := ⟨b0, o0 + m * 13 + 12, none⟩) lb id).trans z12
            clear y0 y1 y2 y3 y4 y5 y6 y7 y8 y9 y10 y11 y12 z0 z1 z2 z3 z4 z5 z6 z7 z8 z9 z10 z11 z12
            have y0 := y0_
            have z0 := z0_
            have y1 := y1_
            have z1 := z1_
            have y2 := y2_
            have z2 := z2_
            have y3 := y3_
            have z3 := z3_
            have y4 := y4_
            have z4 := z4_
            have y5 := y5_
            have z5 := z5_
            have y6 := y6_
            have z6 := z6_
            have y7 := y7_
            have z7 := z7_
            have y8 := y8_
            have z8 := z8_
            have y9 := y9_
            have z9 := z9_
            have y10 := y10_
            have z10 := z10_
            have y11 := y11_
            have z11 := z11_
            have y12 := y12_
            have z12 := z12_
            clear y0_ z0_ y1_ z1_ y2_ z2_ y3_ z3_ y4_ z4_ y5_ z5_ y6_ z6_ y7_ z7_ y8_ z8_ y9_ z9_ y10_ z10_ y11_ z11_ y12_ z12_
            have lbn : b0 < u3.heap.size := Nat.lt_of_lt_of_le lb hHeld.size
            clear lb hHeld
            have lb := lbn
            clear lbn
            go_wp2_with fail
            refine wp_region_held_drew (S := fun wx => NoW u3 wx) (by kernel_rfl) (Fp.drew (Fp.refl _ _)) (fun hHeld => ?_)
            (refine take_at 0 (some 76) rfl rfl (by kernel_rfl) (by kernel_rfl) (by kernel_rfl) (fun _ _ _ h => h) (v := ?_) (by kernel_rfl) ?_ (by assumption) ?_; rotate_left; (focus (intro wS hSw; skip; go_simp; try with_reducible rfl)); (try simp only [Act.put, List.setIfInBounds_toArray, List.set_cons_zero, List.set_cons_succ]))
            (refine take_at 1 (some 77) rfl rfl (by kernel_rfl) (by kernel_rfl) (by kernel_rfl) (fun _ _ _ h => h) (v := ?_) (by kernel_rfl) ?_ (by assumption) ?_; rotate_left; (focus (intro wS hSw; skip; go_simp; try with_reducible rfl)); (try simp only [Act.put, List.setIfInBounds_toArray, List.set_cons_zero, List.set_cons_succ]))
            (refine take_at 2 (some 78) rfl rfl (by kernel_rfl) (by kernel_rfl) (by kernel_rfl) (fun _ _ _ h => h) (v := ?_) (by kernel_rfl) ?_ (by assumption) ?_; rotate_left; (focus (intro wS hSw; skip; go_simp; try with_reducible rfl)); (try simp only [Act.put, List.setIfInBounds_toArray, List.set_cons_zero, List.set_cons_succ]))
            (refine take_at 3 (some 79) rfl rfl (by kernel_rfl) (by kernel_rfl) (by kernel_rfl) (fun _ _ _ h => h) (v := ?_) (by kernel_rfl) ?_ (by assumption) ?_; rotate_left; (focus (intro wS hSw; skip; go_simp; try with_reducible rfl)); (try simp only [Act.put, List.setIfInBounds_toArray, List.set_cons_zero, List.set_cons_succ]))
            (refine take_at 4 (some 80) rfl rfl (by kernel_rfl) (by kernel_rfl) (by kernel_rfl) (fun _ _ _ h => h) (v := ?_) (by kernel_rfl) ?_ (by assumption) ?_; rotate_left; (focus (intro wS hSw; skip; go_simp; try with_reducible rfl)); (try simp only [Act.put, List.setIfInBounds_toArray, List.set_cons_zero, List.set_cons_succ]))
            (refine take_at 5 (some 81) rfl rfl (by kernel_rfl) (by kernel_rfl) (by kernel_rfl) (fun _ _ _ h => h) (v := ?_) (by kernel_rfl) ?_ (by assumption) ?_; rotate_left; (focus (intro wS hSw; skip; go_simp; try with_reducible rfl)); (try simp only [Act.put, List.setIfInBounds_toArray, List.set_cons_zero, List.set_cons_succ]))
            (refine take_at 6 (some 82) rfl rfl (by kernel_rfl) (by kernel_rfl) (by kernel_rfl) (fun _ _ _ h => h) (v := ?_) (by kernel_rfl) ?_ (by assumption) ?_; rotate_left; (focus (intro wS hSw; skip; go_simp; try with_reducible rfl)); (try simp only [Act.put, List.setIfInBounds_toArray, List.set_cons_zero, List.set_cons_succ]))
            (refine take_at 7 (some 83) rfl rfl (by kernel_rfl) (by kernel_rfl) (by kernel_rfl) (fun _ _ _ h => h) (v := ?_) (by kernel_rfl) ?_ (by assumption) ?_; rotate_left; (focus (intro wS hSw; skip; go_simp; try with_reducible rfl)); (try simp only [Act.put, List.setIfInBounds_toArray, List.set_cons_zero, List.set_cons_succ]))
            (refine take_at 8 (some 84) rfl rfl (by kernel_rfl) (by kernel_rfl) (by kernel_rfl) (fun _ _ _ h => h) (v := ?_) (by kernel_rfl) ?_ (by assumption) ?_; rotate_left; (focus (intro wS hSw; (have hy0 := (hSw.cell (p := ⟨b0, o0 + k * 13, none⟩) lb id).trans y0); (have hy1 := (hSw.cell (p := ⟨b0, o0 + k * 13 + 1, none⟩) lb id).trans y1); (have hy2 := (hSw.cell (p := ⟨b0, o0 + k * 13 + 2, none⟩) lb id).trans y2); (have hy3 := (hSw.cell (p := ⟨b0, o0 + k * 13 + 3, none⟩) lb id).trans y3); (have hy4 := (hSw.cell (p := ⟨b0, o0 + k * 13 + 4, none⟩) lb id).trans y4); (have hy5 := (hSw.cell (p := ⟨b0, o0 + k * 13 + 5, none⟩) lb id).trans y5); (have hy6 := (hSw.cell (p := ⟨b0, o0 + k * 13 + 6, none⟩) lb id).trans y6); (have hy7 := (hSw.cell (p := ⟨b0, o0 + k * 13 + 7, none⟩) lb id).trans y7); (have hy8 := (hSw.cell (p := ⟨b0, o0 + k * 13 + 8, none⟩) lb id).trans y8); (have hy9 := (hSw.cell (p := ⟨b0, o0 + k * 13 + 9, none⟩) lb id).trans y9); (have hy10 := (hSw.cell (p := ⟨b0, o0 + k * 13 + 10, none⟩) lb id).trans y10); (have hy11 := (hSw.cell (p := ⟨b0, o0 + k * 13 + 11, none⟩) lb id).trans y11); (have hy12 := (hSw.cell (p := ⟨b0, o0 + k * 13 + 12, none⟩) lb id).trans y12); go_simp; try with_reducible rfl)); (try simp only [Act.put, List.setIfInBounds_toArray, List.set_cons_zero, List.set_cons_succ]))
            (refine take_at 9 (some 85) rfl rfl (by kernel_rfl) (by kernel_rfl) (by kernel_rfl) (fun _ _ _ h => h) (v := ?_) (by kernel_rfl) ?_ (by assumption) ?_; rotate_left; (focus (intro wS hSw; skip; go_simp; try with_reducible rfl)); (try simp only [Act.put, List.setIfInBounds_toArray, List.set_cons_zero, List.set_cons_succ]))
            (refine take_at 10 (some 86) rfl rfl (by kernel_rfl) (by kernel_rfl) (by kernel_rfl) (fun _ _ _ h => h) (v := ?_) (by kernel_rfl) ?_ (by assumption) ?_; rotate_left; (focus (intro wS hSw; skip; go_simp; try with_reducible rfl)); (try simp only [Act.put, List.setIfInBounds_toArray, List.set_cons_zero, List.set_cons_succ]))
            (refine take_at 11 (some 87) rfl rfl (by kernel_rfl) (by kernel_rfl) (by kernel_rfl) (fun _ _ _ h => h) (v := ?_) (by kernel_rfl) ?_ (by assumption) ?_; rotate_left; (focus (intro wS hSw; skip; go_simp; try with_reducible rfl)); (try simp only [Act.put, List.setIfInBounds_toArray, List.set_cons_zero, List.set_cons_succ]))
            (refine take_at 12 (some 88) rfl rfl (by kernel_rfl) (by kernel_rfl) (by kernel_rfl) (fun _ _ _ h => h) (v := ?_) (by kernel_rfl) ?_ (by assumption) ?_; rotate_left; (focus (intro wS hSw; (have hz0 := (hSw.cell (p := ⟨b0, o0 + m * 13, none⟩) lb id).trans z0); (have hz1 := (hSw.cell (p := ⟨b0, o0 + m * 13 + 1, none⟩) lb id).trans z1); (have hz2 := (hSw.cell (p := ⟨b0, o0 + m * 13 + 2, none⟩) lb id).trans z2); (have hz3 := (hSw.cell (p := ⟨b0, o0 + m * 13 + 3, none⟩) lb id).trans z3); (have hz4 := (hSw.cell (p := ⟨b0, o0 + m * 13 + 4, none⟩) lb id).trans z4); (have hz5 := (hSw.cell (p := ⟨b0, o0 + m * 13 + 5, none⟩) lb id).trans z5); (have hz6 := (hSw.cell (p := ⟨b0, o0 + m * 13 + 6, none⟩) lb id).trans z6); (have hz7 := (hSw.cell (p := ⟨b0, o0 + m * 13 + 7, none⟩) lb id).trans z7); (have hz8 := (hSw.cell (p := ⟨b0, o0 + m * 13 + 8, none⟩) lb id).trans z8); (have hz9 := (hSw.cell (p := ⟨b0, o0 + m * 13 + 9, none⟩) lb id).trans z9); (have hz10 := (hSw.cell (p := ⟨b0, o0 + m * 13 + 10, none⟩) lb id).trans z10); (have hz11 := (hSw.cell (p := ⟨b0, o0 + m * 13 + 11, none⟩) lb id).trans z11); (have hz12 := (hSw.cell (p := ⟨b0, o0 + m * 13 + 12, none⟩) lb id).trans z12); go_simp; try with_reducible rfl)); (try simp only [Act.put, List.setIfInBounds_toArray, List.set_cons_zero, List.set_cons_succ]))
            refine wpAnyH_ready (rs := [13]) (by kernel_rfl) (by simp) ?_
            refine AllReadyH.cons rfl (fun K hK => ?_) AllReadyH.nil
            go_simp
            go_at_call 17
            refine (K4.out _).mono ?_
            rintro e z_1 ⟨rfl, hp⟩
            have hn1 : NoW u3 z_1 := Fp.trans hHeld hp (fun _ _ h => h)
            skip
            clear hp hHeld
            refine hK.out _ _ hn1 (fun hHeld => ?_)
            clear hK K
            try simp only [Act.put, List.setIfInBounds_toArray, List.set_cons_zero, List.set_cons_succ]
            (refine take_at 14 (some 90) rfl rfl (by kernel_rfl) (by kernel_rfl) (by kernel_rfl) (fun _ _ _ h => h) (v := ?_) (by kernel_rfl) ?_ (by assumption) ?_; rotate_left; (focus (intro wS hSw; skip; go_simp; try with_reducible rfl)); (try simp only [Act.put, List.setIfInBounds_toArray, List.set_cons_zero, List.set_cons_succ]))
            (refine take_at 15 (some 91) rfl rfl (by kernel_rfl) (by kernel_rfl) (by kernel_rfl) (fun _ _ _ h => h) (v := ?_) (by kernel_rfl) ?_ (by assumption) ?_; rotate_left; (focus (intro wS hSw; skip; go_simp; try with_reducible rfl)); (try simp only [Act.put, List.setIfInBounds_toArray, List.set_cons_zero, List.set_cons_succ]))
            refine wpAnyH_done (by kernel_rfl) ?_ _
            have Hf3 := Lib.hid (Hf2.out.trans hHeld (fun _ _ h => h))
            clear hHeld
            clear y0 z0 y1 z1 y2 z2 y3 z3 y4 z4 y5 z5 y6 z6 y7 z7 y8 z8 y9 z9 y10 z10 y11 z11 y12 z12
            go_wp2_with fail
            go_roundg (n - k)
            case measure => have := Hg.out; omega
            case rel => exact ⟨k + 1, by omega, by omega, by go_num, Hf3.out⟩
      · obtain rfl : k = n := by omega
        go_wp2_with fail
        refine (Kp.out _ (Ht.out.low Hf.out)).mono ?_
        rintro e w2 ⟨rfl, hp⟩
        have Hw := Lib.hid (Hf.out.trans hp (fun _ _ h => h))
        clear hp
        go_wp2_with fail
        go_ret
        exact ⟨rfl, Hw.out⟩

theorem walk_EntriesRoom (w : World) (ht : Tb w) (v0 v1 : Value) (g0 : Good Tryd.prog w 33 v0) (g1 : Good Tryd.prog w 3 v1) : Calls Tryd.prog 4 #[v0, v1] w (Ret1 (.bool true) w) := by
  obtain ⟨sl, n, c, E, O, rfl, hnc, hcm, hE, _⟩ := ents_open g0
  obtain ⟨now, rfl, _⟩ := good_int Tryd.underlying3 g1
  rcases hL : longB n (fun i => (E i).n) 40 with _ | _
  · exact room_short sl n c E now (Nat.le_trans hnc hcm) hnc w ht hE hL
  · exact room_long sl n c E now (Nat.le_trans hnc hcm) hnc w ht hE hL
end Go.Proofs.YtdmbjndhdldggaaDoor
