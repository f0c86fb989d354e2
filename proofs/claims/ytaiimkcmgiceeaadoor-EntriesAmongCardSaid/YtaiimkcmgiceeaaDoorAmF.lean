/- Chapter 18, EntriesAmong: the document's Victim (written by genamf.py). -/
import Derived.Test.YtaiimkcmgiceeaaDoorAmE
namespace Go.Proofs.YtaiimkcmgiceeaaDoor
set_option linter.unusedVariables false
set_option linter.unusedSimpArgs false
open Go.RowKit Go.Lib Go.Sort
def okV (E : Nat → EntD) (now : Int) (k i : Nat) : Prop := (E k).may now = true → (E k).less (E i) = false ∧ (k < i → (E i).less (E k) = true)
def goodV (E : Nat → EntD) (now : Int) (n i : Nat) : Prop := (E i).may now = true ∧ ∀ k, k < n → okV E now k i
theorem vic_same {E : Nat → EntD} {now at' r : Int} {n : Nat} (h : VicP n E now at') (hr : (∃ i : Nat, r = i ∧ i < n ∧ goodV E now n i) ∨ (r = -1 ∧ ∀ i, i < n → ¬ goodV E now n i)) : r = at' := by
  rcases h with ⟨rfl, h⟩ | ⟨m, rfl, hm, h1, h2, h3⟩
  · rcases hr with ⟨i, rfl, hi, hg, _⟩ | ⟨rfl, _⟩
    · rw [h i hi] at hg; cases hg
    · rfl
  · have gm : goodV E now n m := ⟨h1, fun k hk hmk => ⟨h2 k hk hmk, fun hkm => h3 k hkm hmk⟩⟩
    rcases hr with ⟨i, rfl, hi, hg, hk⟩ | ⟨rfl, hn⟩
    · by_cases e : i = m
      · rw [e]
      · exfalso
        rcases Nat.lt_or_gt_of_ne e with h | h
        · have a1 := h3 i h hg
          have a2 := (hk m hm h1).1
          rw [a1] at a2; cases a2
        · have a1 := (hk m hm h1).2 h
          have a2 := h2 i hi hg
          rw [a1] at a2; cases a2
    · exact absurd gm (hn m hm)
theorem ok_no {E : Nat → EntD} {now : Int} {k i : Nat} (h : (E k).may now = false) : okV E now k i := fun h' => by rw [h] at h'; cases h'
set_option maxHeartbeats 8000000 in
set_option maxRecDepth 100000 in
theorem rvic_ok (sl : Option Addr) (n c : Nat) (E : Nat → EntD) (now : Int) (hn : n ≤ 100) (w : World) (hE : Ents w sl n E) :
    Calls Tryd.prog 10 #[.slice sl n c, .int .i64 now] w fun e w' => ∃ r, e = .returned (.int .i64 r) ∧ ((∃ i : Nat, r = i ∧ i < n ∧ goodV E now n i) ∨ (r = -1 ∧ ∀ i, i < n → ¬ goodV E now n i)) ∧ NoW w w' := by
  have HE := Lib.hid hE
  clear hE
  go_enter Tryd.func10, Tryd.ntmps10
  go_wp2_with fail
  go_loopg [5] (n + 1) (fun gg iv wx => ∃ (i : Nat), i ≤ n ∧ gg = n + 1 - i ∧ iv = .int .i64 (i : Int) ∧ (∀ j, j < i → ¬ goodV E now n j) ∧ NoW w wx)
  case atStart => exact ⟨0, by omega, by omega, rfl, fun j h => by omega, Fp.refl _ _⟩
  case round =>
    obtain ⟨i, hi, hg, rfl, hno, hf⟩ := hrel
    have Hg := Lib.hid hg
    have HN := Lib.hid hf
    have HO := Lib.hid hno
    clear hg hf hno
    by_cases hlt : i < n
    · obtain ⟨b0, o0, rfl, yc⟩ := (HE.out.low HN.out).at' i hlt
      have oki := HE.out.ok i hlt
      have y0 : wr.cell? ⟨b0, o0 + i * 13, none⟩ = some (.int .u8 (E i).r) := yc 0 _ rfl
      have y1 : wr.cell? ⟨b0, o0 + i * 13 + 1, none⟩ = some (.int .u32 (E i).a) := yc 1 _ rfl
      have y2 : wr.cell? ⟨b0, o0 + i * 13 + 2, none⟩ = some (.int .u16 (E i).p) := yc 2 _ rfl
      have y3 : wr.cell? ⟨b0, o0 + i * 13 + 3, none⟩ = some (.int .u32 (E i).b) := yc 3 _ rfl
      have y4 : wr.cell? ⟨b0, o0 + i * 13 + 4, none⟩ = some (.int .u16 (E i).q) := yc 4 _ rfl
      have y5 : wr.cell? ⟨b0, o0 + i * 13 + 5, none⟩ = some (.int .u8 (E i).r2) := yc 5 _ rfl
      have y6 : wr.cell? ⟨b0, o0 + i * 13 + 6, none⟩ = some (.int .u32 (E i).a2) := yc 6 _ rfl
      have y7 : wr.cell? ⟨b0, o0 + i * 13 + 7, none⟩ = some (.int .u16 (E i).p2) := yc 7 _ rfl
      have y8 : wr.cell? ⟨b0, o0 + i * 13 + 8, none⟩ = some (.int .u32 (E i).b2) := yc 8 _ rfl
      have y9 : wr.cell? ⟨b0, o0 + i * 13 + 9, none⟩ = some (.int .u16 (E i).q2) := yc 9 _ rfl
      have y10 : wr.cell? ⟨b0, o0 + i * 13 + 10, none⟩ = some (.int .i64 (E i).st) := yc 10 _ rfl
      have y11 : wr.cell? ⟨b0, o0 + i * 13 + 11, none⟩ = some (.int .i64 (E i).dl) := yc 11 _ rfl
      have y12 : wr.cell? ⟨b0, o0 + i * 13 + 12, none⟩ = some (.slice (E i).ad (E i).n (E i).c) := yc 12 _ rfl
      clear yc
      have hkk : decide ((i : Int) < (n : Int)) = true := decide_eq_true (by omega)
      rcases hmi : (E i).may now with _ | _
      · have KM := Lib.hid (fun W => rmay_ok (E i) now W)
        rw [hmi] at KM
        unfold EntD.cs at KM
        go_wp2_with fail
        clear y0 y1 y2 y3 y4 y5 y6 y7 y8 y9 y10 y11 y12
        refine (show Calls _ _ _ _ _ from KM.out _).mono ?_
        rintro e z1 ⟨rfl, hp⟩
        replace HN := hid_now HN hp
        clear hp
        have HM := Lib.hid hmi
        clear hmi
        go_wp2_with fail
        go_roundg (n - i)
        case measure => have := Hg.out; omega
        case rel => exact ⟨i + 1, by omega, by omega, by go_num, fun j hj => by by_cases e : j = i; (rw [e]; intro h; have h1 := h.1; rw [HM.out] at h1; cases h1); exact HO.out j (by omega), HN.out⟩
      · have KM := Lib.hid (fun W => rmay_ok (E i) now W)
        rw [hmi] at KM
        unfold EntD.cs at KM
        have HM := Lib.hid hmi
        clear hmi
        go_wp2_with fail
        clear y0 y1 y2 y3 y4 y5 y6 y7 y8 y9 y10 y11 y12
        refine (show Calls _ _ _ _ _ from KM.out _).mono ?_
        rintro e z1 ⟨rfl, hp⟩
        replace HN := hid_now HN hp
        clear hp
        go_wp2_with fail
        go_loopg [6, 7] (n + 1) (fun gg fv kv wx => ∃ (k : Nat) (fb : Bool), k ≤ n ∧ gg = n + 1 - k ∧ fv = .bool fb ∧ kv = .int .i64 (k : Int) ∧ (fb = true ↔ ∀ k', k' < k → okV E now k' i) ∧ NoW w wx)
        case atStart => exact ⟨0, true, by omega, by omega, rfl, rfl, ⟨fun _ k' h => by omega, fun _ => rfl⟩, HN.out⟩
        case round =>
          clear HN
          obtain ⟨k, fb, hk, hg2, rfl, rfl, hP, hf⟩ := hrel
          have Hg2 := Lib.hid hg2
          have HN := Lib.hid hf
          have HP := Lib.hid hP
          clear hg2 hf hP
          by_cases hltk' : k < n
          · obtain ⟨b1, o1, e1, xc⟩ := (HE.out.low HN.out).at' k hltk'
            injection e1 with e1
            injection e1 with e1 e2
            subst e1
            subst e2
            obtain ⟨b2, o2, e3, yc⟩ := (HE.out.low HN.out).at' i hlt
            injection e3 with e3
            injection e3 with e3 e4
            subst e3
            subst e4
            have okk := HE.out.ok k hltk'
            have x0 : wr.cell? ⟨b0, o0 + k * 13, none⟩ = some (.int .u8 (E k).r) := xc 0 _ rfl
            have x1 : wr.cell? ⟨b0, o0 + k * 13 + 1, none⟩ = some (.int .u32 (E k).a) := xc 1 _ rfl
            have x2 : wr.cell? ⟨b0, o0 + k * 13 + 2, none⟩ = some (.int .u16 (E k).p) := xc 2 _ rfl
            have x3 : wr.cell? ⟨b0, o0 + k * 13 + 3, none⟩ = some (.int .u32 (E k).b) := xc 3 _ rfl
            have x4 : wr.cell? ⟨b0, o0 + k * 13 + 4, none⟩ = some (.int .u16 (E k).q) := xc 4 _ rfl
            have x5 : wr.cell? ⟨b0, o0 + k * 13 + 5, none⟩ = some (.int .u8 (E k).r2) := xc 5 _ rfl
            have x6 : wr.cell? ⟨b0, o0 + k * 13 + 6, none⟩ = some (.int .u32 (E k).a2) := xc 6 _ rfl
            have x7 : wr.cell? ⟨b0, o0 + k * 13 + 7, none⟩ = some (.int .u16 (E k).p2) := xc 7 _ rfl
            have x8 : wr.cell? ⟨b0, o0 + k * 13 + 8, none⟩ = some (.int .u32 (E k).b2) := xc 8 _ rfl
            have x9 : wr.cell? ⟨b0, o0 + k * 13 + 9, none⟩ = some (.int .u16 (E k).q2) := xc 9 _ rfl
            have x10 : wr.cell? ⟨b0, o0 + k * 13 + 10, none⟩ = some (.int .i64 (E k).st) := xc 10 _ rfl
            have x11 : wr.cell? ⟨b0, o0 + k * 13 + 11, none⟩ = some (.int .i64 (E k).dl) := xc 11 _ rfl
            have x12 : wr.cell? ⟨b0, o0 + k * 13 + 12, none⟩ = some (.slice (E k).ad (E k).n (E k).c) := xc 12 _ rfl
            have y0 : wr.cell? ⟨b0, o0 + i * 13, none⟩ = some (.int .u8 (E i).r) := yc 0 _ rfl
            have y1 : wr.cell? ⟨b0, o0 + i * 13 + 1, none⟩ = some (.int .u32 (E i).a) := yc 1 _ rfl
            have y2 : wr.cell? ⟨b0, o0 + i * 13 + 2, none⟩ = some (.int .u16 (E i).p) := yc 2 _ rfl
            have y3 : wr.cell? ⟨b0, o0 + i * 13 + 3, none⟩ = some (.int .u32 (E i).b) := yc 3 _ rfl
            have y4 : wr.cell? ⟨b0, o0 + i * 13 + 4, none⟩ = some (.int .u16 (E i).q) := yc 4 _ rfl
            have y5 : wr.cell? ⟨b0, o0 + i * 13 + 5, none⟩ = some (.int .u8 (E i).r2) := yc 5 _ rfl
            have y6 : wr.cell? ⟨b0, o0 + i * 13 + 6, none⟩ = some (.int .u32 (E i).a2) := yc 6 _ rfl
            have y7 : wr.cell? ⟨b0, o0 + i * 13 + 7, none⟩ = some (.int .u16 (E i).p2) := yc 7 _ rfl
            have y8 : wr.cell? ⟨b0, o0 + i * 13 + 8, none⟩ = some (.int .u32 (E i).b2) := yc 8 _ rfl
            have y9 : wr.cell? ⟨b0, o0 + i * 13 + 9, none⟩ = some (.int .u16 (E i).q2) := yc 9 _ rfl
            have y10 : wr.cell? ⟨b0, o0 + i * 13 + 10, none⟩ = some (.int .i64 (E i).st) := yc 10 _ rfl
            have y11 : wr.cell? ⟨b0, o0 + i * 13 + 11, none⟩ = some (.int .i64 (E i).dl) := yc 11 _ rfl
            have y12 : wr.cell? ⟨b0, o0 + i * 13 + 12, none⟩ = some (.slice (E i).ad (E i).n (E i).c) := yc 12 _ rfl
            have lb : b0 < wr.heap.size := cell_lt x0
            clear xc yc
            have hk2 : decide ((k : Int) < (n : Int)) = true := decide_eq_true (by omega)
            rcases hmk : (E k).may now with _ | _
            · have KM := Lib.hid (fun W => rmay_ok (E k) now W)
              rw [hmk] at KM
              unfold EntD.cs at KM
              have HQ := Lib.hid (show okV E now k i from ok_no hmk)
              clear hmk
              go_upto_region 9 with fail
              refine wp_region_held_drew (S := fun wx => NoW wr wx) (by kernel_rfl) (Fp.drew (Fp.refl _ _)) (fun hHeld0 => ?_)
              refine any_eq hHeld0 (fun v1 hW hHeld => ?_)
              clear hHeld0
              clear hW
              (refine take_at 0 (some 27) rfl rfl (by kernel_rfl) (by kernel_rfl) (by kernel_rfl) (fun _ _ _ h => h) (v := ?_) (by kernel_rfl) ?_ (by assumption) ?_; rotate_left; (focus (intro wS hSw; skip; go_simp; try with_reducible rfl)); (try simp only [Act.put, List.setIfInBounds_toArray, List.set_cons_zero, List.set_cons_succ]))
              (refine take_at 1 (some 28) rfl rfl (by kernel_rfl) (by kernel_rfl) (by kernel_rfl) (fun _ _ _ h => h) (v := ?_) (by kernel_rfl) ?_ (by assumption) ?_; rotate_left; (focus (intro wS hSw; skip; go_simp; try with_reducible rfl)); (try simp only [Act.put, List.setIfInBounds_toArray, List.set_cons_zero, List.set_cons_succ]))
              (refine take_at 2 (some 29) rfl rfl (by kernel_rfl) (by kernel_rfl) (by kernel_rfl) (fun _ _ _ h => h) (v := ?_) (by kernel_rfl) ?_ (by assumption) ?_; rotate_left; (focus (intro wS hSw; skip; go_simp; try with_reducible rfl)); (try simp only [Act.put, List.setIfInBounds_toArray, List.set_cons_zero, List.set_cons_succ]))
              (refine take_at 3 (some 30) rfl rfl (by kernel_rfl) (by kernel_rfl) (by kernel_rfl) (fun _ _ _ h => h) (v := ?_) (by kernel_rfl) ?_ (by assumption) ?_; rotate_left; (focus (intro wS hSw; (have qx0 := (hSw.cell (p := ⟨b0, o0 + k * 13, none⟩) lb id).trans x0); (have qx1 := (hSw.cell (p := ⟨b0, o0 + k * 13 + 1, none⟩) lb id).trans x1); (have qx2 := (hSw.cell (p := ⟨b0, o0 + k * 13 + 2, none⟩) lb id).trans x2); (have qx3 := (hSw.cell (p := ⟨b0, o0 + k * 13 + 3, none⟩) lb id).trans x3); (have qx4 := (hSw.cell (p := ⟨b0, o0 + k * 13 + 4, none⟩) lb id).trans x4); (have qx5 := (hSw.cell (p := ⟨b0, o0 + k * 13 + 5, none⟩) lb id).trans x5); (have qx6 := (hSw.cell (p := ⟨b0, o0 + k * 13 + 6, none⟩) lb id).trans x6); (have qx7 := (hSw.cell (p := ⟨b0, o0 + k * 13 + 7, none⟩) lb id).trans x7); (have qx8 := (hSw.cell (p := ⟨b0, o0 + k * 13 + 8, none⟩) lb id).trans x8); (have qx9 := (hSw.cell (p := ⟨b0, o0 + k * 13 + 9, none⟩) lb id).trans x9); (have qx10 := (hSw.cell (p := ⟨b0, o0 + k * 13 + 10, none⟩) lb id).trans x10); (have qx11 := (hSw.cell (p := ⟨b0, o0 + k * 13 + 11, none⟩) lb id).trans x11); (have qx12 := (hSw.cell (p := ⟨b0, o0 + k * 13 + 12, none⟩) lb id).trans x12); go_simp; try with_reducible rfl)); (try simp only [Act.put, List.setIfInBounds_toArray, List.set_cons_zero, List.set_cons_succ]))
              (refine take_at 4 (some 31) rfl rfl (by kernel_rfl) (by kernel_rfl) (by kernel_rfl) (fun _ _ _ h => h) (v := ?_) (by kernel_rfl) ?_ (by assumption) ?_; rotate_left; (focus (intro wS hSw; skip; go_simp; try with_reducible rfl)); (try simp only [Act.put, List.setIfInBounds_toArray, List.set_cons_zero, List.set_cons_succ]))
              refine wpAnyH_ready (rs := [5]) (by kernel_rfl) (by simp) ?_
              refine AllReadyH.cons rfl (fun K hK => ?_) AllReadyH.nil
              go_simp
              go_at_call 29
              refine (show Calls _ _ _ _ _ from KM.out _).mono ?_
              rintro e v2 ⟨rfl, hp⟩
              have hn := Fp.trans hHeld hp (fun _ _ h => h.elim)
              refine k_now hK hn ?_
              clear hK K hp hHeld
              have hHeld := hn
              clear hn
              try simp only [Act.put, List.setIfInBounds_toArray, List.set_cons_zero, List.set_cons_succ]
              (refine take_at 6 (some 33) rfl rfl (by kernel_rfl) (by kernel_rfl) (by kernel_rfl) (fun _ _ _ h => h) (v := ?_) (by kernel_rfl) ?_ (by assumption) ?_; rotate_left; (focus (intro wS hSw; skip; go_simp; try with_reducible rfl)); (try simp only [Act.put, List.setIfInBounds_toArray, List.set_cons_zero, List.set_cons_succ]))
              (refine drop_at 7 (some 34) rfl rfl (by kernel_rfl) (by kernel_rfl) (by kernel_rfl) (fun _ _ _ h => h) (by kernel_rfl) (by assumption) ?_; (try simp only [Act.put, List.setIfInBounds_toArray, List.set_cons_zero, List.set_cons_succ]))
              (refine drop_at 8 (some 35) rfl rfl (by kernel_rfl) (by kernel_rfl) (by kernel_rfl) (fun _ _ _ h => h) (by kernel_rfl) (by assumption) ?_; (try simp only [Act.put, List.setIfInBounds_toArray, List.set_cons_zero, List.set_cons_succ]))
              (refine drop_at 9 (some 36) rfl rfl (by kernel_rfl) (by kernel_rfl) (by kernel_rfl) (fun _ _ _ h => h) (by kernel_rfl) (by assumption) ?_; (try simp only [Act.put, List.setIfInBounds_toArray, List.set_cons_zero, List.set_cons_succ]))
              (refine drop_at 10 (some 37) rfl rfl (by kernel_rfl) (by kernel_rfl) (by kernel_rfl) (fun _ _ _ h => h) (by kernel_rfl) (by assumption) ?_; (try simp only [Act.put, List.setIfInBounds_toArray, List.set_cons_zero, List.set_cons_succ]))
              (refine drop_at 11 (some 38) rfl rfl (by kernel_rfl) (by kernel_rfl) (by kernel_rfl) (fun _ _ _ h => h) (by kernel_rfl) (by assumption) ?_; (try simp only [Act.put, List.setIfInBounds_toArray, List.set_cons_zero, List.set_cons_succ]))
              (refine drop_at 12 (some 39) rfl rfl (by kernel_rfl) (by kernel_rfl) (by kernel_rfl) (fun _ _ _ h => h) (by kernel_rfl) (by assumption) ?_; (try simp only [Act.put, List.setIfInBounds_toArray, List.set_cons_zero, List.set_cons_succ]))
              (refine drop_at 13 (some 40) rfl rfl (by kernel_rfl) (by kernel_rfl) (by kernel_rfl) (fun _ _ _ h => h) (by kernel_rfl) (by assumption) ?_; (try simp only [Act.put, List.setIfInBounds_toArray, List.set_cons_zero, List.set_cons_succ]))
              (refine drop_at 14 (some 41) rfl rfl (by kernel_rfl) (by kernel_rfl) (by kernel_rfl) (fun _ _ _ h => h) (by kernel_rfl) (by assumption) ?_; (try simp only [Act.put, List.setIfInBounds_toArray, List.set_cons_zero, List.set_cons_succ]))
              (refine drop_at 15 (some 42) rfl rfl (by kernel_rfl) (by kernel_rfl) (by kernel_rfl) (fun _ _ _ h => h) (by kernel_rfl) (by assumption) ?_; (try simp only [Act.put, List.setIfInBounds_toArray, List.set_cons_zero, List.set_cons_succ]))
              (refine drop_at 16 (some 43) rfl rfl (by kernel_rfl) (by kernel_rfl) (by kernel_rfl) (fun _ _ _ h => h) (by kernel_rfl) (by assumption) ?_; (try simp only [Act.put, List.setIfInBounds_toArray, List.set_cons_zero, List.set_cons_succ]))
              (refine drop_at 17 (some 44) rfl rfl (by kernel_rfl) (by kernel_rfl) (by kernel_rfl) (fun _ _ _ h => h) (by kernel_rfl) (by assumption) ?_; (try simp only [Act.put, List.setIfInBounds_toArray, List.set_cons_zero, List.set_cons_succ]))
              (refine drop_at 18 (some 45) rfl rfl (by kernel_rfl) (by kernel_rfl) (by kernel_rfl) (fun _ _ _ h => h) (by kernel_rfl) (by assumption) ?_; (try simp only [Act.put, List.setIfInBounds_toArray, List.set_cons_zero, List.set_cons_succ]))
              (refine drop_at 19 (some 46) rfl rfl (by kernel_rfl) (by kernel_rfl) (by kernel_rfl) (fun _ _ _ h => h) (by kernel_rfl) (by assumption) ?_; (try simp only [Act.put, List.setIfInBounds_toArray, List.set_cons_zero, List.set_cons_succ]))
              (refine drop_at 20 (some 47) rfl rfl (by kernel_rfl) (by kernel_rfl) (by kernel_rfl) (fun _ _ _ h => h) (by kernel_rfl) (by assumption) ?_; (try simp only [Act.put, List.setIfInBounds_toArray, List.set_cons_zero, List.set_cons_succ]))
              (refine drop_at 21 (some 48) rfl rfl (by kernel_rfl) (by kernel_rfl) (by kernel_rfl) (fun _ _ _ h => h) (by kernel_rfl) (by assumption) ?_; (try simp only [Act.put, List.setIfInBounds_toArray, List.set_cons_zero, List.set_cons_succ]))
              (refine drop_at 22 (some 49) rfl rfl (by kernel_rfl) (by kernel_rfl) (by kernel_rfl) (fun _ _ _ h => h) (by kernel_rfl) (by assumption) ?_; (try simp only [Act.put, List.setIfInBounds_toArray, List.set_cons_zero, List.set_cons_succ]))
              (refine drop_at 23 (some 50) rfl rfl (by kernel_rfl) (by kernel_rfl) (by kernel_rfl) (fun _ _ _ h => h) (by kernel_rfl) (by assumption) ?_; (try simp only [Act.put, List.setIfInBounds_toArray, List.set_cons_zero, List.set_cons_succ]))
              (refine drop_at 24 (some 51) rfl rfl (by kernel_rfl) (by kernel_rfl) (by kernel_rfl) (fun _ _ _ h => h) (by kernel_rfl) (by assumption) ?_; (try simp only [Act.put, List.setIfInBounds_toArray, List.set_cons_zero, List.set_cons_succ]))
              (refine drop_at 25 (some 52) rfl rfl (by kernel_rfl) (by kernel_rfl) (by kernel_rfl) (fun _ _ _ h => h) (by kernel_rfl) (by assumption) ?_; (try simp only [Act.put, List.setIfInBounds_toArray, List.set_cons_zero, List.set_cons_succ]))
              (refine drop_at 26 (some 53) rfl rfl (by kernel_rfl) (by kernel_rfl) (by kernel_rfl) (fun _ _ _ h => h) (by kernel_rfl) (by assumption) ?_; (try simp only [Act.put, List.setIfInBounds_toArray, List.set_cons_zero, List.set_cons_succ]))
              (refine drop_at 27 (some 54) rfl rfl (by kernel_rfl) (by kernel_rfl) (by kernel_rfl) (fun _ _ _ h => h) (by kernel_rfl) (by assumption) ?_; (try simp only [Act.put, List.setIfInBounds_toArray, List.set_cons_zero, List.set_cons_succ]))
              (refine drop_at 28 (some 55) rfl rfl (by kernel_rfl) (by kernel_rfl) (by kernel_rfl) (fun _ _ _ h => h) (by kernel_rfl) (by assumption) ?_; (try simp only [Act.put, List.setIfInBounds_toArray, List.set_cons_zero, List.set_cons_succ]))
              (refine drop_at 29 (some 56) rfl rfl (by kernel_rfl) (by kernel_rfl) (by kernel_rfl) (fun _ _ _ h => h) (by kernel_rfl) (by assumption) ?_; (try simp only [Act.put, List.setIfInBounds_toArray, List.set_cons_zero, List.set_cons_succ]))
              (refine drop_at 30 (some 57) rfl rfl (by kernel_rfl) (by kernel_rfl) (by kernel_rfl) (fun _ _ _ h => h) (by kernel_rfl) (by assumption) ?_; (try simp only [Act.put, List.setIfInBounds_toArray, List.set_cons_zero, List.set_cons_succ]))
              (refine drop_at 31 (some 58) rfl rfl (by kernel_rfl) (by kernel_rfl) (by kernel_rfl) (fun _ _ _ h => h) (by kernel_rfl) (by assumption) ?_; (try simp only [Act.put, List.setIfInBounds_toArray, List.set_cons_zero, List.set_cons_succ]))
              (refine drop_at 32 (some 59) rfl rfl (by kernel_rfl) (by kernel_rfl) (by kernel_rfl) (fun _ _ _ h => h) (by kernel_rfl) (by assumption) ?_; (try simp only [Act.put, List.setIfInBounds_toArray, List.set_cons_zero, List.set_cons_succ]))
              (refine take_at 33 (some 60) rfl rfl (by kernel_rfl) (by kernel_rfl) (by kernel_rfl) (fun _ _ _ h => h) (v := ?_) (by kernel_rfl) ?_ (by assumption) ?_; rotate_left; (focus (intro wS hSw; skip; go_simp; try with_reducible rfl)); (try simp only [Act.put, List.setIfInBounds_toArray, List.set_cons_zero, List.set_cons_succ]))
              refine wpAnyH_done (by kernel_rfl) ?_ _
              clear x0 y0 x1 y1 x2 y2 x3 y3 x4 y4 x5 y5 x6 y6 x7 y7 x8 y8 x9 y9 x10 y10 x11 y11 x12 y12
              have hGe := hid_ge HN
              replace HN := hid_now HN hHeld
              clear hHeld hGe
              go_wp2_with fail
              go_roundg (n - k)
              case measure => have := Hg2.out; omega
              case rel => exact ⟨k + 1, fb, by omega, by omega, rfl, by go_num, ⟨fun h k' hk' => by by_cases e : k' = k; (rw [e]; exact HQ.out); exact HP.out.1 h k' (by omega), fun h => HP.out.2 (fun k' hk' => h k' (by omega))⟩, HN.out⟩
            · rcases hla : (E k).less (E i) with _ | _
              · by_cases hltk : k < i
                · rcases hlb : (E i).less (E k) with _ | _
                  · have KM := Lib.hid (fun W => rmay_ok (E k) now W)
                    rw [hmk] at KM
                    unfold EntD.cs at KM
                    have KA := Lib.hid (fun W => rless18_ok (E k).r (E k).a (E k).p (E k).b (E k).q (E i).r (E i).a (E i).p (E i).b (E i).q (E k).r2 (E k).a2 (E k).p2 (E k).b2 (E k).q2 (E i).r2 (E i).a2 (E i).p2 (E i).b2 (E i).q2 (E k).st (E i).st (E k).dl (E i).dl (.slice (E k).ad (E k).n (E k).c) (.slice (E i).ad (E i).n (E i).c) okk.a okk.p okk.b okk.q oki.a oki.p oki.b oki.q W)
                    rw [show elB (E k).dl (tkey (E k).r (E k).a (E k).p (E k).b (E k).q) (E i).dl (tkey (E i).r (E i).a (E i).p (E i).b (E i).q) = false from hla] at KA
                    have KB := Lib.hid (fun W => rless18_ok (E i).r (E i).a (E i).p (E i).b (E i).q (E k).r (E k).a (E k).p (E k).b (E k).q (E i).r2 (E i).a2 (E i).p2 (E i).b2 (E i).q2 (E k).r2 (E k).a2 (E k).p2 (E k).b2 (E k).q2 (E i).st (E k).st (E i).dl (E k).dl (.slice (E i).ad (E i).n (E i).c) (.slice (E k).ad (E k).n (E k).c) oki.a oki.p oki.b oki.q okk.a okk.p okk.b okk.q W)
                    rw [show elB (E i).dl (tkey (E i).r (E i).a (E i).p (E i).b (E i).q) (E k).dl (tkey (E k).r (E k).a (E k).p (E k).b (E k).q) = false from hlb] at KB
                    have kil : decide ((k : Int) < (i : Int)) = true := decide_eq_true (by omega)
                    have kin : decide (k < i) = true := decide_eq_true (by omega)
                    have HQ := Lib.hid (show ¬ okV E now k i from fun h => by have h9 := h hmk; have h8 := h9.2 hltk; rw [hlb] at h8; cases h8)
                    clear hmk hla hlb hltk
                    go_upto_region 9 with fail
                    refine wp_region_held_drew (S := fun wx => NoW wr wx) (by kernel_rfl) (Fp.drew (Fp.refl _ _)) (fun hHeld0 => ?_)
                    refine any_eq hHeld0 (fun v1 hW hHeld => ?_)
                    clear hHeld0
                    clear hW
                    (refine take_at 0 (some 27) rfl rfl (by kernel_rfl) (by kernel_rfl) (by kernel_rfl) (fun _ _ _ h => h) (v := ?_) (by kernel_rfl) ?_ (by assumption) ?_; rotate_left; (focus (intro wS hSw; skip; go_simp; try with_reducible rfl)); (try simp only [Act.put, List.setIfInBounds_toArray, List.set_cons_zero, List.set_cons_succ]))
                    (refine take_at 1 (some 28) rfl rfl (by kernel_rfl) (by kernel_rfl) (by kernel_rfl) (fun _ _ _ h => h) (v := ?_) (by kernel_rfl) ?_ (by assumption) ?_; rotate_left; (focus (intro wS hSw; skip; go_simp; try with_reducible rfl)); (try simp only [Act.put, List.setIfInBounds_toArray, List.set_cons_zero, List.set_cons_succ]))
                    (refine take_at 2 (some 29) rfl rfl (by kernel_rfl) (by kernel_rfl) (by kernel_rfl) (fun _ _ _ h => h) (v := ?_) (by kernel_rfl) ?_ (by assumption) ?_; rotate_left; (focus (intro wS hSw; skip; go_simp; try with_reducible rfl)); (try simp only [Act.put, List.setIfInBounds_toArray, List.set_cons_zero, List.set_cons_succ]))
                    (refine take_at 3 (some 30) rfl rfl (by kernel_rfl) (by kernel_rfl) (by kernel_rfl) (fun _ _ _ h => h) (v := ?_) (by kernel_rfl) ?_ (by assumption) ?_; rotate_left; (focus (intro wS hSw; (have qx0 := (hSw.cell (p := ⟨b0, o0 + k * 13, none⟩) lb id).trans x0); (have qx1 := (hSw.cell (p := ⟨b0, o0 + k * 13 + 1, none⟩) lb id).trans x1); (have qx2 := (hSw.cell (p := ⟨b0, o0 + k * 13 + 2, none⟩) lb id).trans x2); (have qx3 := (hSw.cell (p := ⟨b0, o0 + k * 13 + 3, none⟩) lb id).trans x3); (have qx4 := (hSw.cell (p := ⟨b0, o0 + k * 13 + 4, none⟩) lb id).trans x4); (have qx5 := (hSw.cell (p := ⟨b0, o0 + k * 13 + 5, none⟩) lb id).trans x5); (have qx6 := (hSw.cell (p := ⟨b0, o0 + k * 13 + 6, none⟩) lb id).trans x6); (have qx7 := (hSw.cell (p := ⟨b0, o0 + k * 13 + 7, none⟩) lb id).trans x7); (have qx8 := (hSw.cell (p := ⟨b0, o0 + k * 13 + 8, none⟩) lb id).trans x8); (have qx9 := (hSw.cell (p := ⟨b0, o0 + k * 13 + 9, none⟩) lb id).trans x9); (have qx10 := (hSw.cell (p := ⟨b0, o0 + k * 13 + 10, none⟩) lb id).trans x10); (have qx11 := (hSw.cell (p := ⟨b0, o0 + k * 13 + 11, none⟩) lb id).trans x11); (have qx12 := (hSw.cell (p := ⟨b0, o0 + k * 13 + 12, none⟩) lb id).trans x12); go_simp; try with_reducible rfl)); (try simp only [Act.put, List.setIfInBounds_toArray, List.set_cons_zero, List.set_cons_succ]))
                    (refine take_at 4 (some 31) rfl rfl (by kernel_rfl) (by kernel_rfl) (by kernel_rfl) (fun _ _ _ h => h) (v := ?_) (by kernel_rfl) ?_ (by assumption) ?_; rotate_left; (focus (intro wS hSw; skip; go_simp; try with_reducible rfl)); (try simp only [Act.put, List.setIfInBounds_toArray, List.set_cons_zero, List.set_cons_succ]))
                    refine wpAnyH_ready (rs := [5]) (by kernel_rfl) (by simp) ?_
                    refine AllReadyH.cons rfl (fun K hK => ?_) AllReadyH.nil
                    go_simp
                    go_at_call 29
                    refine (show Calls _ _ _ _ _ from KM.out _).mono ?_
                    rintro e v2 ⟨rfl, hp⟩
                    have hn := Fp.trans hHeld hp (fun _ _ h => h.elim)
                    refine k_now hK hn ?_
                    clear hK K hp hHeld
                    have hHeld := hn
                    clear hn
                    try simp only [Act.put, List.setIfInBounds_toArray, List.set_cons_zero, List.set_cons_succ]
                    (refine take_at 6 (some 33) rfl rfl (by kernel_rfl) (by kernel_rfl) (by kernel_rfl) (fun _ _ _ h => h) (v := ?_) (by kernel_rfl) ?_ (by assumption) ?_; rotate_left; (focus (intro wS hSw; skip; go_simp; try with_reducible rfl)); (try simp only [Act.put, List.setIfInBounds_toArray, List.set_cons_zero, List.set_cons_succ]))
                    (refine take_at 7 (some 34) rfl rfl (by kernel_rfl) (by kernel_rfl) (by kernel_rfl) (fun _ _ _ h => h) (v := ?_) (by kernel_rfl) ?_ (by assumption) ?_; rotate_left; (focus (intro wS hSw; skip; go_simp; try with_reducible rfl)); (try simp only [Act.put, List.setIfInBounds_toArray, List.set_cons_zero, List.set_cons_succ]))
                    (refine take_at 8 (some 35) rfl rfl (by kernel_rfl) (by kernel_rfl) (by kernel_rfl) (fun _ _ _ h => h) (v := ?_) (by kernel_rfl) ?_ (by assumption) ?_; rotate_left; (focus (intro wS hSw; skip; go_simp; try with_reducible rfl)); (try simp only [Act.put, List.setIfInBounds_toArray, List.set_cons_zero, List.set_cons_succ]))
                    (refine take_at 9 (some 36) rfl rfl (by kernel_rfl) (by kernel_rfl) (by kernel_rfl) (fun _ _ _ h => h) (v := ?_) (by kernel_rfl) ?_ (by assumption) ?_; rotate_left; (focus (intro wS hSw; skip; go_simp; try with_reducible rfl)); (try simp only [Act.put, List.setIfInBounds_toArray, List.set_cons_zero, List.set_cons_succ]))
                    (refine take_at 10 (some 37) rfl rfl (by kernel_rfl) (by kernel_rfl) (by kernel_rfl) (fun _ _ _ h => h) (v := ?_) (by kernel_rfl) ?_ (by assumption) ?_; rotate_left; (focus (intro wS hSw; (have qx0 := (hSw.cell (p := ⟨b0, o0 + k * 13, none⟩) lb id).trans x0); (have qx1 := (hSw.cell (p := ⟨b0, o0 + k * 13 + 1, none⟩) lb id).trans x1); (have qx2 := (hSw.cell (p := ⟨b0, o0 + k * 13 + 2, none⟩) lb id).trans x2); (have qx3 := (hSw.cell (p := ⟨b0, o0 + k * 13 + 3, none⟩) lb id).trans x3); (have qx4 := (hSw.cell (p := ⟨b0, o0 + k * 13 + 4, none⟩) lb id).trans x4); (have qx5 := (hSw.cell (p := ⟨b0, o0 + k * 13 + 5, none⟩) lb id).trans x5); (have qx6 := (hSw.cell (p := ⟨b0, o0 + k * 13 + 6, none⟩) lb id).trans x6); (have qx7 := (hSw.cell (p := ⟨b0, o0 + k * 13 + 7, none⟩) lb id).trans x7); (have qx8 := (hSw.cell (p := ⟨b0, o0 + k * 13 + 8, none⟩) lb id).trans x8); (have qx9 := (hSw.cell (p := ⟨b0, o0 + k * 13 + 9, none⟩) lb id).trans x9); (have qx10 := (hSw.cell (p := ⟨b0, o0 + k * 13 + 10, none⟩) lb id).trans x10); (have qx11 := (hSw.cell (p := ⟨b0, o0 + k * 13 + 11, none⟩) lb id).trans x11); (have qx12 := (hSw.cell (p := ⟨b0, o0 + k * 13 + 12, none⟩) lb id).trans x12); go_simp; try with_reducible rfl)); (try simp only [Act.put, List.setIfInBounds_toArray, List.set_cons_zero, List.set_cons_succ]))
                    (refine take_at 11 (some 38) rfl rfl (by kernel_rfl) (by kernel_rfl) (by kernel_rfl) (fun _ _ _ h => h) (v := ?_) (by kernel_rfl) ?_ (by assumption) ?_; rotate_left; (focus (intro wS hSw; skip; go_simp; try with_reducible rfl)); (try simp only [Act.put, List.setIfInBounds_toArray, List.set_cons_zero, List.set_cons_succ]))
                    (refine take_at 12 (some 39) rfl rfl (by kernel_rfl) (by kernel_rfl) (by kernel_rfl) (fun _ _ _ h => h) (v := ?_) (by kernel_rfl) ?_ (by assumption) ?_; rotate_left; (focus (intro wS hSw; skip; go_simp; try with_reducible rfl)); (try simp only [Act.put, List.setIfInBounds_toArray, List.set_cons_zero, List.set_cons_succ]))
                    (refine take_at 13 (some 40) rfl rfl (by kernel_rfl) (by kernel_rfl) (by kernel_rfl) (fun _ _ _ h => h) (v := ?_) (by kernel_rfl) ?_ (by assumption) ?_; rotate_left; (focus (intro wS hSw; skip; go_simp; try with_reducible rfl)); (try simp only [Act.put, List.setIfInBounds_toArray, List.set_cons_zero, List.set_cons_succ]))
                    (refine take_at 14 (some 41) rfl rfl (by kernel_rfl) (by kernel_rfl) (by kernel_rfl) (fun _ _ _ h => h) (v := ?_) (by kernel_rfl) ?_ (by assumption) ?_; rotate_left; (focus (intro wS hSw; (have qy0 := (hSw.cell (p := ⟨b0, o0 + i * 13, none⟩) lb id).trans y0); (have qy1 := (hSw.cell (p := ⟨b0, o0 + i * 13 + 1, none⟩) lb id).trans y1); (have qy2 := (hSw.cell (p := ⟨b0, o0 + i * 13 + 2, none⟩) lb id).trans y2); (have qy3 := (hSw.cell (p := ⟨b0, o0 + i * 13 + 3, none⟩) lb id).trans y3); (have qy4 := (hSw.cell (p := ⟨b0, o0 + i * 13 + 4, none⟩) lb id).trans y4); (have qy5 := (hSw.cell (p := ⟨b0, o0 + i * 13 + 5, none⟩) lb id).trans y5); (have qy6 := (hSw.cell (p := ⟨b0, o0 + i * 13 + 6, none⟩) lb id).trans y6); (have qy7 := (hSw.cell (p := ⟨b0, o0 + i * 13 + 7, none⟩) lb id).trans y7); (have qy8 := (hSw.cell (p := ⟨b0, o0 + i * 13 + 8, none⟩) lb id).trans y8); (have qy9 := (hSw.cell (p := ⟨b0, o0 + i * 13 + 9, none⟩) lb id).trans y9); (have qy10 := (hSw.cell (p := ⟨b0, o0 + i * 13 + 10, none⟩) lb id).trans y10); (have qy11 := (hSw.cell (p := ⟨b0, o0 + i * 13 + 11, none⟩) lb id).trans y11); (have qy12 := (hSw.cell (p := ⟨b0, o0 + i * 13 + 12, none⟩) lb id).trans y12); go_simp; try with_reducible rfl)); (try simp only [Act.put, List.setIfInBounds_toArray, List.set_cons_zero, List.set_cons_succ]))
                    refine wpAnyH_ready (rs := [15]) (by kernel_rfl) (by simp) ?_
                    refine AllReadyH.cons rfl (fun K hK => ?_) AllReadyH.nil
                    go_simp
                    go_at_call 30
                    refine (show Calls _ _ _ _ _ from KA.out _).mono ?_
                    rintro e v3 ⟨rfl, hp⟩
                    have hn := Fp.trans hHeld hp (fun _ _ h => h.elim)
                    refine k_now hK hn ?_
                    clear hK K hp hHeld
                    have hHeld := hn
                    clear hn
                    try simp only [Act.put, List.setIfInBounds_toArray, List.set_cons_zero, List.set_cons_succ]
                    (refine take_at 16 (some 43) rfl rfl (by kernel_rfl) (by kernel_rfl) (by kernel_rfl) (fun _ _ _ h => h) (v := ?_) (by kernel_rfl) ?_ (by assumption) ?_; rotate_left; (focus (intro wS hSw; skip; go_simp; try with_reducible rfl)); (try simp only [Act.put, List.setIfInBounds_toArray, List.set_cons_zero, List.set_cons_succ]))
                    (refine take_at 17 (some 44) rfl rfl (by kernel_rfl) (by kernel_rfl) (by kernel_rfl) (fun _ _ _ h => h) (v := ?_) (by kernel_rfl) ?_ (by assumption) ?_; rotate_left; (focus (intro wS hSw; skip; go_simp; try with_reducible rfl)); (try simp only [Act.put, List.setIfInBounds_toArray, List.set_cons_zero, List.set_cons_succ]))
                    (refine take_at 18 (some 45) rfl rfl (by kernel_rfl) (by kernel_rfl) (by kernel_rfl) (fun _ _ _ h => h) (v := ?_) (by kernel_rfl) ?_ (by assumption) ?_; rotate_left; (focus (intro wS hSw; skip; go_simp; try with_reducible rfl)); (try simp only [Act.put, List.setIfInBounds_toArray, List.set_cons_zero, List.set_cons_succ]))
                    (refine take_at 19 (some 46) rfl rfl (by kernel_rfl) (by kernel_rfl) (by kernel_rfl) (fun _ _ _ h => h) (v := ?_) (by kernel_rfl) ?_ (by assumption) ?_; rotate_left; (focus (intro wS hSw; skip; go_simp; try with_reducible rfl)); (try simp only [Act.put, List.setIfInBounds_toArray, List.set_cons_zero, List.set_cons_succ]))
                    (refine take_at 20 (some 47) rfl rfl (by kernel_rfl) (by kernel_rfl) (by kernel_rfl) (fun _ _ _ h => h) (v := ?_) (by kernel_rfl) ?_ (by assumption) ?_; rotate_left; (focus (intro wS hSw; skip; go_simp; try with_reducible rfl)); (try simp only [Act.put, List.setIfInBounds_toArray, List.set_cons_zero, List.set_cons_succ]))
                    (refine take_at 21 (some 48) rfl rfl (by kernel_rfl) (by kernel_rfl) (by kernel_rfl) (fun _ _ _ h => h) (v := ?_) (by kernel_rfl) ?_ (by assumption) ?_; rotate_left; (focus (intro wS hSw; skip; go_simp; try with_reducible rfl)); (try simp only [Act.put, List.setIfInBounds_toArray, List.set_cons_zero, List.set_cons_succ]))
                    (refine take_at 22 (some 49) rfl rfl (by kernel_rfl) (by kernel_rfl) (by kernel_rfl) (fun _ _ _ h => h) (v := ?_) (by kernel_rfl) ?_ (by assumption) ?_; rotate_left; (focus (intro wS hSw; skip; go_simp; try with_reducible rfl)); (try simp only [Act.put, List.setIfInBounds_toArray, List.set_cons_zero, List.set_cons_succ]))
                    (refine take_at 23 (some 50) rfl rfl (by kernel_rfl) (by kernel_rfl) (by kernel_rfl) (fun _ _ _ h => h) (v := ?_) (by kernel_rfl) ?_ (by assumption) ?_; rotate_left; (focus (intro wS hSw; skip; go_simp; try with_reducible rfl)); (try simp only [Act.put, List.setIfInBounds_toArray, List.set_cons_zero, List.set_cons_succ]))
                    (refine take_at 24 (some 51) rfl rfl (by kernel_rfl) (by kernel_rfl) (by kernel_rfl) (fun _ _ _ h => h) (v := ?_) (by kernel_rfl) ?_ (by assumption) ?_; rotate_left; (focus (intro wS hSw; (have qy0 := (hSw.cell (p := ⟨b0, o0 + i * 13, none⟩) lb id).trans y0); (have qy1 := (hSw.cell (p := ⟨b0, o0 + i * 13 + 1, none⟩) lb id).trans y1); (have qy2 := (hSw.cell (p := ⟨b0, o0 + i * 13 + 2, none⟩) lb id).trans y2); (have qy3 := (hSw.cell (p := ⟨b0, o0 + i * 13 + 3, none⟩) lb id).trans y3); (have qy4 := (hSw.cell (p := ⟨b0, o0 + i * 13 + 4, none⟩) lb id).trans y4); (have qy5 := (hSw.cell (p := ⟨b0, o0 + i * 13 + 5, none⟩) lb id).trans y5); (have qy6 := (hSw.cell (p := ⟨b0, o0 + i * 13 + 6, none⟩) lb id).trans y6); (have qy7 := (hSw.cell (p := ⟨b0, o0 + i * 13 + 7, none⟩) lb id).trans y7); (have qy8 := (hSw.cell (p := ⟨b0, o0 + i * 13 + 8, none⟩) lb id).trans y8); (have qy9 := (hSw.cell (p := ⟨b0, o0 + i * 13 + 9, none⟩) lb id).trans y9); (have qy10 := (hSw.cell (p := ⟨b0, o0 + i * 13 + 10, none⟩) lb id).trans y10); (have qy11 := (hSw.cell (p := ⟨b0, o0 + i * 13 + 11, none⟩) lb id).trans y11); (have qy12 := (hSw.cell (p := ⟨b0, o0 + i * 13 + 12, none⟩) lb id).trans y12); go_simp; try with_reducible rfl)); (try simp only [Act.put, List.setIfInBounds_toArray, List.set_cons_zero, List.set_cons_succ]))
                    (refine take_at 25 (some 52) rfl rfl (by kernel_rfl) (by kernel_rfl) (by kernel_rfl) (fun _ _ _ h => h) (v := ?_) (by kernel_rfl) ?_ (by assumption) ?_; rotate_left; (focus (intro wS hSw; skip; go_simp; try with_reducible rfl)); (try simp only [Act.put, List.setIfInBounds_toArray, List.set_cons_zero, List.set_cons_succ]))
                    (refine take_at 26 (some 53) rfl rfl (by kernel_rfl) (by kernel_rfl) (by kernel_rfl) (fun _ _ _ h => h) (v := ?_) (by kernel_rfl) ?_ (by assumption) ?_; rotate_left; (focus (intro wS hSw; skip; go_simp; try with_reducible rfl)); (try simp only [Act.put, List.setIfInBounds_toArray, List.set_cons_zero, List.set_cons_succ]))
                    (refine take_at 27 (some 54) rfl rfl (by kernel_rfl) (by kernel_rfl) (by kernel_rfl) (fun _ _ _ h => h) (v := ?_) (by kernel_rfl) ?_ (by assumption) ?_; rotate_left; (focus (intro wS hSw; skip; go_simp; try with_reducible rfl)); (try simp only [Act.put, List.setIfInBounds_toArray, List.set_cons_zero, List.set_cons_succ]))
                    (refine take_at 28 (some 55) rfl rfl (by kernel_rfl) (by kernel_rfl) (by kernel_rfl) (fun _ _ _ h => h) (v := ?_) (by kernel_rfl) ?_ (by assumption) ?_; rotate_left; (focus (intro wS hSw; (have qx0 := (hSw.cell (p := ⟨b0, o0 + k * 13, none⟩) lb id).trans x0); (have qx1 := (hSw.cell (p := ⟨b0, o0 + k * 13 + 1, none⟩) lb id).trans x1); (have qx2 := (hSw.cell (p := ⟨b0, o0 + k * 13 + 2, none⟩) lb id).trans x2); (have qx3 := (hSw.cell (p := ⟨b0, o0 + k * 13 + 3, none⟩) lb id).trans x3); (have qx4 := (hSw.cell (p := ⟨b0, o0 + k * 13 + 4, none⟩) lb id).trans x4); (have qx5 := (hSw.cell (p := ⟨b0, o0 + k * 13 + 5, none⟩) lb id).trans x5); (have qx6 := (hSw.cell (p := ⟨b0, o0 + k * 13 + 6, none⟩) lb id).trans x6); (have qx7 := (hSw.cell (p := ⟨b0, o0 + k * 13 + 7, none⟩) lb id).trans x7); (have qx8 := (hSw.cell (p := ⟨b0, o0 + k * 13 + 8, none⟩) lb id).trans x8); (have qx9 := (hSw.cell (p := ⟨b0, o0 + k * 13 + 9, none⟩) lb id).trans x9); (have qx10 := (hSw.cell (p := ⟨b0, o0 + k * 13 + 10, none⟩) lb id).trans x10); (have qx11 := (hSw.cell (p := ⟨b0, o0 + k * 13 + 11, none⟩) lb id).trans x11); (have qx12 := (hSw.cell (p := ⟨b0, o0 + k * 13 + 12, none⟩) lb id).trans x12); go_simp; try with_reducible rfl)); (try simp only [Act.put, List.setIfInBounds_toArray, List.set_cons_zero, List.set_cons_succ]))
                    refine wpAnyH_ready (rs := [29]) (by kernel_rfl) (by simp) ?_
                    refine AllReadyH.cons rfl (fun K hK => ?_) AllReadyH.nil
                    go_simp
                    go_at_call 30
                    refine (show Calls _ _ _ _ _ from KB.out _).mono ?_
                    rintro e v4 ⟨rfl, hp⟩
                    have hn := Fp.trans hHeld hp (fun _ _ h => h.elim)
                    refine k_now hK hn ?_
                    clear hK K hp hHeld
                    have hHeld := hn
                    clear hn
                    try simp only [Act.put, List.setIfInBounds_toArray, List.set_cons_zero, List.set_cons_succ]
                    (refine take_at 30 (some 57) rfl rfl (by kernel_rfl) (by kernel_rfl) (by kernel_rfl) (fun _ _ _ h => h) (v := ?_) (by kernel_rfl) ?_ (by assumption) ?_; rotate_left; (focus (intro wS hSw; skip; go_simp; try with_reducible rfl)); (try simp only [Act.put, List.setIfInBounds_toArray, List.set_cons_zero, List.set_cons_succ]))
                    (refine take_at 31 (some 58) rfl rfl (by kernel_rfl) (by kernel_rfl) (by kernel_rfl) (fun _ _ _ h => h) (v := ?_) (by kernel_rfl) ?_ (by assumption) ?_; rotate_left; (focus (intro wS hSw; skip; go_simp; try with_reducible rfl)); (try simp only [Act.put, List.setIfInBounds_toArray, List.set_cons_zero, List.set_cons_succ]))
                    (refine take_at 32 (some 59) rfl rfl (by kernel_rfl) (by kernel_rfl) (by kernel_rfl) (fun _ _ _ h => h) (v := ?_) (by kernel_rfl) ?_ (by assumption) ?_; rotate_left; (focus (intro wS hSw; skip; go_simp; try with_reducible rfl)); (try simp only [Act.put, List.setIfInBounds_toArray, List.set_cons_zero, List.set_cons_succ]))
                    (refine take_at 33 (some 60) rfl rfl (by kernel_rfl) (by kernel_rfl) (by kernel_rfl) (fun _ _ _ h => h) (v := ?_) (by kernel_rfl) ?_ (by assumption) ?_; rotate_left; (focus (intro wS hSw; skip; go_simp; try with_reducible rfl)); (try simp only [Act.put, List.setIfInBounds_toArray, List.set_cons_zero, List.set_cons_succ]))
                    refine wpAnyH_done (by kernel_rfl) ?_ _
                    clear x0 y0 x1 y1 x2 y2 x3 y3 x4 y4 x5 y5 x6 y6 x7 y7 x8 y8 x9 y9 x10 y10 x11 y11 x12 y12
                    have hGe := hid_ge HN
                    replace HN := hid_now HN hHeld
                    clear hHeld hGe
                    go_wp2_with fail
                    go_roundg (n - k)
                    case measure => have := Hg2.out; omega
                    case rel => exact ⟨k + 1, false, by omega, by omega, rfl, by go_num, ⟨(fun h => by cases h), fun h => absurd (h k (by omega)) HQ.out⟩, HN.out⟩
                  · have KM := Lib.hid (fun W => rmay_ok (E k) now W)
                    rw [hmk] at KM
                    unfold EntD.cs at KM
                    have KA := Lib.hid (fun W => rless18_ok (E k).r (E k).a (E k).p (E k).b (E k).q (E i).r (E i).a (E i).p (E i).b (E i).q (E k).r2 (E k).a2 (E k).p2 (E k).b2 (E k).q2 (E i).r2 (E i).a2 (E i).p2 (E i).b2 (E i).q2 (E k).st (E i).st (E k).dl (E i).dl (.slice (E k).ad (E k).n (E k).c) (.slice (E i).ad (E i).n (E i).c) okk.a okk.p okk.b okk.q oki.a oki.p oki.b oki.q W)
                    rw [show elB (E k).dl (tkey (E k).r (E k).a (E k).p (E k).b (E k).q) (E i).dl (tkey (E i).r (E i).a (E i).p (E i).b (E i).q) = false from hla] at KA
                    have KB := Lib.hid (fun W => rless18_ok (E i).r (E i).a (E i).p (E i).b (E i).q (E k).r (E k).a (E k).p (E k).b (E k).q (E i).r2 (E i).a2 (E i).p2 (E i).b2 (E i).q2 (E k).r2 (E k).a2 (E k).p2 (E k).b2 (E k).q2 (E i).st (E k).st (E i).dl (E k).dl (.slice (E i).ad (E i).n (E i).c) (.slice (E k).ad (E k).n (E k).c) oki.a oki.p oki.b oki.q okk.a okk.p okk.b okk.q W)
                    rw [show elB (E i).dl (tkey (E i).r (E i).a (E i).p (E i).b (E i).q) (E k).dl (tkey (E k).r (E k).a (E k).p (E k).b (E k).q) = true from hlb] at KB
                    have kil : decide ((k : Int) < (i : Int)) = true := decide_eq_true (by omega)
                    have kin : decide (k < i) = true := decide_eq_true (by omega)
                    have HQ := Lib.hid (show okV E now k i from fun _ => ⟨hla, fun h => hlb⟩)
                    clear hmk hla hlb hltk
                    go_upto_region 9 with fail
                    refine wp_region_held_drew (S := fun wx => NoW wr wx) (by kernel_rfl) (Fp.drew (Fp.refl _ _)) (fun hHeld0 => ?_)
                    refine any_eq hHeld0 (fun v1 hW hHeld => ?_)
                    clear hHeld0
                    clear hW
                    (refine take_at 0 (some 27) rfl rfl (by kernel_rfl) (by kernel_rfl) (by kernel_rfl) (fun _ _ _ h => h) (v := ?_) (by kernel_rfl) ?_ (by assumption) ?_; rotate_left; (focus (intro wS hSw; skip; go_simp; try with_reducible rfl)); (try simp only [Act.put, List.setIfInBounds_toArray, List.set_cons_zero, List.set_cons_succ]))
                    (refine take_at 1 (some 28) rfl rfl (by kernel_rfl) (by kernel_rfl) (by kernel_rfl) (fun _ _ _ h => h) (v := ?_) (by kernel_rfl) ?_ (by assumption) ?_; rotate_left; (focus (intro wS hSw; skip; go_simp; try with_reducible rfl)); (try simp only [Act.put, List.setIfInBounds_toArray, List.set_cons_zero, List.set_cons_succ]))
                    (refine take_at 2 (some 29) rfl rfl (by kernel_rfl) (by kernel_rfl) (by kernel_rfl) (fun _ _ _ h => h) (v := ?_) (by kernel_rfl) ?_ (by assumption) ?_; rotate_left; (focus (intro wS hSw; skip; go_simp; try with_reducible rfl)); (try simp only [Act.put, List.setIfInBounds_toArray, List.set_cons_zero, List.set_cons_succ]))
                    (refine take_at 3 (some 30) rfl rfl (by kernel_rfl) (by kernel_rfl) (by kernel_rfl) (fun _ _ _ h => h) (v := ?_) (by kernel_rfl) ?_ (by assumption) ?_; rotate_left; (focus (intro wS hSw; (have qx0 := (hSw.cell (p := ⟨b0, o0 + k * 13, none⟩) lb id).trans x0); (have qx1 := (hSw.cell (p := ⟨b0, o0 + k * 13 + 1, none⟩) lb id).trans x1); (have qx2 := (hSw.cell (p := ⟨b0, o0 + k * 13 + 2, none⟩) lb id).trans x2); (have qx3 := (hSw.cell (p := ⟨b0, o0 + k * 13 + 3, none⟩) lb id).trans x3); (have qx4 := (hSw.cell (p := ⟨b0, o0 + k * 13 + 4, none⟩) lb id).trans x4); (have qx5 := (hSw.cell (p := ⟨b0, o0 + k * 13 + 5, none⟩) lb id).trans x5); (have qx6 := (hSw.cell (p := ⟨b0, o0 + k * 13 + 6, none⟩) lb id).trans x6); (have qx7 := (hSw.cell (p := ⟨b0, o0 + k * 13 + 7, none⟩) lb id).trans x7); (have qx8 := (hSw.cell (p := ⟨b0, o0 + k * 13 + 8, none⟩) lb id).trans x8); (have qx9 := (hSw.cell (p := ⟨b0, o0 + k * 13 + 9, none⟩) lb id).trans x9); (have qx10 := (hSw.cell (p := ⟨b0, o0 + k * 13 + 10, none⟩) lb id).trans x10); (have qx11 := (hSw.cell (p := ⟨b0, o0 + k * 13 + 11, none⟩) lb id).trans x11); (have qx12 := (hSw.cell (p := ⟨b0, o0 + k * 13 + 12, none⟩) lb id).trans x12); go_simp; try with_reducible rfl)); (try simp only [Act.put, List.setIfInBounds_toArray, List.set_cons_zero, List.set_cons_succ]))
                    (refine take_at 4 (some 31) rfl rfl (by kernel_rfl) (by kernel_rfl) (by kernel_rfl) (fun _ _ _ h => h) (v := ?_) (by kernel_rfl) ?_ (by assumption) ?_; rotate_left; (focus (intro wS hSw; skip; go_simp; try with_reducible rfl)); (try simp only [Act.put, List.setIfInBounds_toArray, List.set_cons_zero, List.set_cons_succ]))
                    refine wpAnyH_ready (rs := [5]) (by kernel_rfl) (by simp) ?_
                    refine AllReadyH.cons rfl (fun K hK => ?_) AllReadyH.nil
                    go_simp
                    go_at_call 29
                    refine (show Calls _ _ _ _ _ from KM.out _).mono ?_
                    rintro e v2 ⟨rfl, hp⟩
                    have hn := Fp.trans hHeld hp (fun _ _ h => h.elim)
                    refine k_now hK hn ?_
                    clear hK K hp hHeld
                    have hHeld := hn
                    clear hn
                    try simp only [Act.put, List.setIfInBounds_toArray, List.set_cons_zero, List.set_cons_succ]
                    (refine take_at 6 (some 33) rfl rfl (by kernel_rfl) (by kernel_rfl) (by kernel_rfl) (fun _ _ _ h => h) (v := ?_) (by kernel_rfl) ?_ (by assumption) ?_; rotate_left; (focus (intro wS hSw; skip; go_simp; try with_reducible rfl)); (try simp only [Act.put, List.setIfInBounds_toArray, List.set_cons_zero, List.set_cons_succ]))
                    (refine take_at 7 (some 34) rfl rfl (by kernel_rfl) (by kernel_rfl) (by kernel_rfl) (fun _ _ _ h => h) (v := ?_) (by kernel_rfl) ?_ (by assumption) ?_; rotate_left; (focus (intro wS hSw; skip; go_simp; try with_reducible rfl)); (try simp only [Act.put, List.setIfInBounds_toArray, List.set_cons_zero, List.set_cons_succ]))
                    (refine take_at 8 (some 35) rfl rfl (by kernel_rfl) (by kernel_rfl) (by kernel_rfl) (fun _ _ _ h => h) (v := ?_) (by kernel_rfl) ?_ (by assumption) ?_; rotate_left; (focus (intro wS hSw; skip; go_simp; try with_reducible rfl)); (try simp only [Act.put, List.setIfInBounds_toArray, List.set_cons_zero, List.set_cons_succ]))
                    (refine take_at 9 (some 36) rfl rfl (by kernel_rfl) (by kernel_rfl) (by kernel_rfl) (fun _ _ _ h => h) (v := ?_) (by kernel_rfl) ?_ (by assumption) ?_; rotate_left; (focus (intro wS hSw; skip; go_simp; try with_reducible rfl)); (try simp only [Act.put, List.setIfInBounds_toArray, List.set_cons_zero, List.set_cons_succ]))
                    (refine take_at 10 (some 37) rfl rfl (by kernel_rfl) (by kernel_rfl) (by kernel_rfl) (fun _ _ _ h => h) (v := ?_) (by kernel_rfl) ?_ (by assumption) ?_; rotate_left; (focus (intro wS hSw; (have qx0 := (hSw.cell (p := ⟨b0, o0 + k * 13, none⟩) lb id).trans x0); (have qx1 := (hSw.cell (p := ⟨b0, o0 + k * 13 + 1, none⟩) lb id).trans x1); (have qx2 := (hSw.cell (p := ⟨b0, o0 + k * 13 + 2, none⟩) lb id).trans x2); (have qx3 := (hSw.cell (p := ⟨b0, o0 + k * 13 + 3, none⟩) lb id).trans x3); (have qx4 := (hSw.cell (p := ⟨b0, o0 + k * 13 + 4, none⟩) lb id).trans x4); (have qx5 := (hSw.cell (p := ⟨b0, o0 + k * 13 + 5, none⟩) lb id).trans x5); (have qx6 := (hSw.cell (p := ⟨b0, o0 + k * 13 + 6, none⟩) lb id).trans x6); (have qx7 := (hSw.cell (p := ⟨b0, o0 + k * 13 + 7, none⟩) lb id).trans x7); (have qx8 := (hSw.cell (p := ⟨b0, o0 + k * 13 + 8, none⟩) lb id).trans x8); (have qx9 := (hSw.cell (p := ⟨b0, o0 + k * 13 + 9, none⟩) lb id).trans x9); (have qx10 := (hSw.cell (p := ⟨b0, o0 + k * 13 + 10, none⟩) lb id).trans x10); (have qx11 := (hSw.cell (p := ⟨b0, o0 + k * 13 + 11, none⟩) lb id).trans x11); (have qx12 := (hSw.cell (p := ⟨b0, o0 + k * 13 + 12, none⟩) lb id).trans x12); go_simp; try with_reducible rfl)); (try simp only [Act.put, List.setIfInBounds_toArray, List.set_cons_zero, List.set_cons_succ]))
                    (refine take_at 11 (some 38) rfl rfl (by kernel_rfl) (by kernel_rfl) (by kernel_rfl) (fun _ _ _ h => h) (v := ?_) (by kernel_rfl) ?_ (by assumption) ?_; rotate_left; (focus (intro wS hSw; skip; go_simp; try with_reducible rfl)); (try simp only [Act.put, List.setIfInBounds_toArray, List.set_cons_zero, List.set_cons_succ]))
                    (refine take_at 12 (some 39) rfl rfl (by kernel_rfl) (by kernel_rfl) (by kernel_rfl) (fun _ _ _ h => h) (v := ?_) (by kernel_rfl) ?_ (by assumption) ?_; rotate_left; (focus (intro wS hSw; skip; go_simp; try with_reducible rfl)); (try simp only [Act.put, List.setIfInBounds_toArray, List.set_cons_zero, List.set_cons_succ]))
                    (refine take_at 13 (some 40) rfl rfl (by kernel_rfl) (by kernel_rfl) (by kernel_rfl) (fun _ _ _ h => h) (v := ?_) (by kernel_rfl) ?_ (by assumption) ?_; rotate_left; (focus (intro wS hSw; skip; go_simp; try with_reducible rfl)); (try simp only [Act.put, List.setIfInBounds_toArray, List.set_cons_zero, List.set_cons_succ]))
                    (refine take_at 14 (some 41) rfl rfl (by kernel_rfl) (by kernel_rfl) (by kernel_rfl) (fun _ _ _ h => h) (v := ?_) (by kernel_rfl) ?_ (by assumption) ?_; rotate_left; (focus (intro wS hSw; (have qy0 := (hSw.cell (p := ⟨b0, o0 + i * 13, none⟩) lb id).trans y0); (have qy1 := (hSw.cell (p := ⟨b0, o0 + i * 13 + 1, none⟩) lb id).trans y1); (have qy2 := (hSw.cell (p := ⟨b0, o0 + i * 13 + 2, none⟩) lb id).trans y2); (have qy3 := (hSw.cell (p := ⟨b0, o0 + i * 13 + 3, none⟩) lb id).trans y3); (have qy4 := (hSw.cell (p := ⟨b0, o0 + i * 13 + 4, none⟩) lb id).trans y4); (have qy5 := (hSw.cell (p := ⟨b0, o0 + i * 13 + 5, none⟩) lb id).trans y5); (have qy6 := (hSw.cell (p := ⟨b0, o0 + i * 13 + 6, none⟩) lb id).trans y6); (have qy7 := (hSw.cell (p := ⟨b0, o0 + i * 13 + 7, none⟩) lb id).trans y7); (have qy8 := (hSw.cell (p := ⟨b0, o0 + i * 13 + 8, none⟩) lb id).trans y8); (have qy9 := (hSw.cell (p := ⟨b0, o0 + i * 13 + 9, none⟩) lb id).trans y9); (have qy10 := (hSw.cell (p := ⟨b0, o0 + i * 13 + 10, none⟩) lb id).trans y10); (have qy11 := (hSw.cell (p := ⟨b0, o0 + i * 13 + 11, none⟩) lb id).trans y11); (have qy12 := (hSw.cell (p := ⟨b0, o0 + i * 13 + 12, none⟩) lb id).trans y12); go_simp; try with_reducible rfl)); (try simp only [Act.put, List.setIfInBounds_toArray, List.set_cons_zero, List.set_cons_succ]))
                    refine wpAnyH_ready (rs := [15]) (by kernel_rfl) (by simp) ?_
                    refine AllReadyH.cons rfl (fun K hK => ?_) AllReadyH.nil
                    go_simp
                    go_at_call 30
                    refine (show Calls _ _ _ _ _ from KA.out _).mono ?_
                    rintro e v3 ⟨rfl, hp⟩
                    have hn := Fp.trans hHeld hp (fun _ _ h => h.elim)
                    refine k_now hK hn ?_
                    clear hK K hp hHeld
                    have hHeld := hn
                    clear hn
                    try simp only [Act.put, List.setIfInBounds_toArray, List.set_cons_zero, List.set_cons_succ]
                    (refine take_at 16 (some 43) rfl rfl (by kernel_rfl) (by kernel_rfl) (by kernel_rfl) (fun _ _ _ h => h) (v := ?_) (by kernel_rfl) ?_ (by assumption) ?_; rotate_left; (focus (intro wS hSw; skip; go_simp; try with_reducible rfl)); (try simp only [Act.put, List.setIfInBounds_toArray, List.set_cons_zero, List.set_cons_succ]))
                    (refine take_at 17 (some 44) rfl rfl (by kernel_rfl) (by kernel_rfl) (by kernel_rfl) (fun _ _ _ h => h) (v := ?_) (by kernel_rfl) ?_ (by assumption) ?_; rotate_left; (focus (intro wS hSw; skip; go_simp; try with_reducible rfl)); (try simp only [Act.put, List.setIfInBounds_toArray, List.set_cons_zero, List.set_cons_succ]))
                    (refine take_at 18 (some 45) rfl rfl (by kernel_rfl) (by kernel_rfl) (by kernel_rfl) (fun _ _ _ h => h) (v := ?_) (by kernel_rfl) ?_ (by assumption) ?_; rotate_left; (focus (intro wS hSw; skip; go_simp; try with_reducible rfl)); (try simp only [Act.put, List.setIfInBounds_toArray, List.set_cons_zero, List.set_cons_succ]))
                    (refine take_at 19 (some 46) rfl rfl (by kernel_rfl) (by kernel_rfl) (by kernel_rfl) (fun _ _ _ h => h) (v := ?_) (by kernel_rfl) ?_ (by assumption) ?_; rotate_left; (focus (intro wS hSw; skip; go_simp; try with_reducible rfl)); (try simp only [Act.put, List.setIfInBounds_toArray, List.set_cons_zero, List.set_cons_succ]))
                    (refine take_at 20 (some 47) rfl rfl (by kernel_rfl) (by kernel_rfl) (by kernel_rfl) (fun _ _ _ h => h) (v := ?_) (by kernel_rfl) ?_ (by assumption) ?_; rotate_left; (focus (intro wS hSw; skip; go_simp; try with_reducible rfl)); (try simp only [Act.put, List.setIfInBounds_toArray, List.set_cons_zero, List.set_cons_succ]))
                    (refine take_at 21 (some 48) rfl rfl (by kernel_rfl) (by kernel_rfl) (by kernel_rfl) (fun _ _ _ h => h) (v := ?_) (by kernel_rfl) ?_ (by assumption) ?_; rotate_left; (focus (intro wS hSw; skip; go_simp; try with_reducible rfl)); (try simp only [Act.put, List.setIfInBounds_toArray, List.set_cons_zero, List.set_cons_succ]))
                    (refine take_at 22 (some 49) rfl rfl (by kernel_rfl) (by kernel_rfl) (by kernel_rfl) (fun _ _ _ h => h) (v := ?_) (by kernel_rfl) ?_ (by assumption) ?_; rotate_left; (focus (intro wS hSw; skip; go_simp; try with_reducible rfl)); (try simp only [Act.put, List.setIfInBounds_toArray, List.set_cons_zero, List.set_cons_succ]))
                    (refine take_at 23 (some 50) rfl rfl (by kernel_rfl) (by kernel_rfl) (by kernel_rfl) (fun _ _ _ h => h) (v := ?_) (by kernel_rfl) ?_ (by assumption) ?_; rotate_left; (focus (intro wS hSw; skip; go_simp; try with_reducible rfl)); (try simp only [Act.put, List.setIfInBounds_toArray, List.set_cons_zero, List.set_cons_succ]))
                    (refine take_at 24 (some 51) rfl rfl (by kernel_rfl) (by kernel_rfl) (by kernel_rfl) (fun _ _ _ h => h) (v := ?_) (by kernel_rfl) ?_ (by assumption) ?_; rotate_left; (focus (intro wS hSw; (have qy0 := (hSw.cell (p := ⟨b0, o0 + i * 13, none⟩) lb id).trans y0); (have qy1 := (hSw.cell (p := ⟨b0, o0 + i * 13 + 1, none⟩) lb id).trans y1); (have qy2 := (hSw.cell (p := ⟨b0, o0 + i * 13 + 2, none⟩) lb id).trans y2); (have qy3 := (hSw.cell (p := ⟨b0, o0 + i * 13 + 3, none⟩) lb id).trans y3); (have qy4 := (hSw.cell (p := ⟨b0, o0 + i * 13 + 4, none⟩) lb id).trans y4); (have qy5 := (hSw.cell (p := ⟨b0, o0 + i * 13 + 5, none⟩) lb id).trans y5); (have qy6 := (hSw.cell (p := ⟨b0, o0 + i * 13 + 6, none⟩) lb id).trans y6); (have qy7 := (hSw.cell (p := ⟨b0, o0 + i * 13 + 7, none⟩) lb id).trans y7); (have qy8 := (hSw.cell (p := ⟨b0, o0 + i * 13 + 8, none⟩) lb id).trans y8); (have qy9 := (hSw.cell (p := ⟨b0, o0 + i * 13 + 9, none⟩) lb id).trans y9); (have qy10 := (hSw.cell (p := ⟨b0, o0 + i * 13 + 10, none⟩) lb id).trans y10); (have qy11 := (hSw.cell (p := ⟨b0, o0 + i * 13 + 11, none⟩) lb id).trans y11); (have qy12 := (hSw.cell (p := ⟨b0, o0 + i * 13 + 12, none⟩) lb id).trans y12); go_simp; try with_reducible rfl)); (try simp only [Act.put, List.setIfInBounds_toArray, List.set_cons_zero, List.set_cons_succ]))
                    (refine take_at 25 (some 52) rfl rfl (by kernel_rfl) (by kernel_rfl) (by kernel_rfl) (fun _ _ _ h => h) (v := ?_) (by kernel_rfl) ?_ (by assumption) ?_; rotate_left; (focus (intro wS hSw; skip; go_simp; try with_reducible rfl)); (try simp only [Act.put, List.setIfInBounds_toArray, List.set_cons_zero, List.set_cons_succ]))
                    (refine take_at 26 (some 53) rfl rfl (by kernel_rfl) (by kernel_rfl) (by kernel_rfl) (fun _ _ _ h => h) (v := ?_) (by kernel_rfl) ?_ (by assumption) ?_; rotate_left; (focus (intro wS hSw; skip; go_simp; try with_reducible rfl)); (try simp only [Act.put, List.setIfInBounds_toArray, List.set_cons_zero, List.set_cons_succ]))
                    (refine take_at 27 (some 54) rfl rfl (by kernel_rfl) (by kernel_rfl) (by kernel_rfl) (fun _ _ _ h => h) (v := ?_) (by kernel_rfl) ?_ (by assumption) ?_; rotate_left; (focus (intro wS hSw; skip; go_simp; try with_reducible rfl)); (try simp only [Act.put, List.setIfInBounds_toArray, List.set_cons_zero, List.set_cons_succ]))
                    (refine take_at 28 (some 55) rfl rfl (by kernel_rfl) (by kernel_rfl) (by kernel_rfl) (fun _ _ _ h => h) (v := ?_) (by kernel_rfl) ?_ (by assumption) ?_; rotate_left; (focus (intro wS hSw; (have qx0 := (hSw.cell (p := ⟨b0, o0 + k * 13, none⟩) lb id).trans x0); (have qx1 := (hSw.cell (p := ⟨b0, o0 + k * 13 + 1, none⟩) lb id).trans x1); (have qx2 := (hSw.cell (p := ⟨b0, o0 + k * 13 + 2, none⟩) lb id).trans x2); (have qx3 := (hSw.cell (p := ⟨b0, o0 + k * 13 + 3, none⟩) lb id).trans x3); (have qx4 := (hSw.cell (p := ⟨b0, o0 + k * 13 + 4, none⟩) lb id).trans x4); (have qx5 := (hSw.cell (p := ⟨b0, o0 + k * 13 + 5, none⟩) lb id).trans x5); (have qx6 := (hSw.cell (p := ⟨b0, o0 + k * 13 + 6, none⟩) lb id).trans x6); (have qx7 := (hSw.cell (p := ⟨b0, o0 + k * 13 + 7, none⟩) lb id).trans x7); (have qx8 := (hSw.cell (p := ⟨b0, o0 + k * 13 + 8, none⟩) lb id).trans x8); (have qx9 := (hSw.cell (p := ⟨b0, o0 + k * 13 + 9, none⟩) lb id).trans x9); (have qx10 := (hSw.cell (p := ⟨b0, o0 + k * 13 + 10, none⟩) lb id).trans x10); (have qx11 := (hSw.cell (p := ⟨b0, o0 + k * 13 + 11, none⟩) lb id).trans x11); (have qx12 := (hSw.cell (p := ⟨b0, o0 + k * 13 + 12, none⟩) lb id).trans x12); go_simp; try with_reducible rfl)); (try simp only [Act.put, List.setIfInBounds_toArray, List.set_cons_zero, List.set_cons_succ]))
                    refine wpAnyH_ready (rs := [29]) (by kernel_rfl) (by simp) ?_
                    refine AllReadyH.cons rfl (fun K hK => ?_) AllReadyH.nil
                    go_simp
                    go_at_call 30
                    refine (show Calls _ _ _ _ _ from KB.out _).mono ?_
                    rintro e v4 ⟨rfl, hp⟩
                    have hn := Fp.trans hHeld hp (fun _ _ h => h.elim)
                    refine k_now hK hn ?_
                    clear hK K hp hHeld
                    have hHeld := hn
                    clear hn
                    try simp only [Act.put, List.setIfInBounds_toArray, List.set_cons_zero, List.set_cons_succ]
                    (refine take_at 30 (some 57) rfl rfl (by kernel_rfl) (by kernel_rfl) (by kernel_rfl) (fun _ _ _ h => h) (v := ?_) (by kernel_rfl) ?_ (by assumption) ?_; rotate_left; (focus (intro wS hSw; skip; go_simp; try with_reducible rfl)); (try simp only [Act.put, List.setIfInBounds_toArray, List.set_cons_zero, List.set_cons_succ]))
                    (refine take_at 31 (some 58) rfl rfl (by kernel_rfl) (by kernel_rfl) (by kernel_rfl) (fun _ _ _ h => h) (v := ?_) (by kernel_rfl) ?_ (by assumption) ?_; rotate_left; (focus (intro wS hSw; skip; go_simp; try with_reducible rfl)); (try simp only [Act.put, List.setIfInBounds_toArray, List.set_cons_zero, List.set_cons_succ]))
                    (refine take_at 32 (some 59) rfl rfl (by kernel_rfl) (by kernel_rfl) (by kernel_rfl) (fun _ _ _ h => h) (v := ?_) (by kernel_rfl) ?_ (by assumption) ?_; rotate_left; (focus (intro wS hSw; skip; go_simp; try with_reducible rfl)); (try simp only [Act.put, List.setIfInBounds_toArray, List.set_cons_zero, List.set_cons_succ]))
                    (refine take_at 33 (some 60) rfl rfl (by kernel_rfl) (by kernel_rfl) (by kernel_rfl) (fun _ _ _ h => h) (v := ?_) (by kernel_rfl) ?_ (by assumption) ?_; rotate_left; (focus (intro wS hSw; skip; go_simp; try with_reducible rfl)); (try simp only [Act.put, List.setIfInBounds_toArray, List.set_cons_zero, List.set_cons_succ]))
                    refine wpAnyH_done (by kernel_rfl) ?_ _
                    clear x0 y0 x1 y1 x2 y2 x3 y3 x4 y4 x5 y5 x6 y6 x7 y7 x8 y8 x9 y9 x10 y10 x11 y11 x12 y12
                    have hGe := hid_ge HN
                    replace HN := hid_now HN hHeld
                    clear hHeld hGe
                    go_wp2_with fail
                    go_roundg (n - k)
                    case measure => have := Hg2.out; omega
                    case rel => exact ⟨k + 1, fb, by omega, by omega, rfl, by go_num, ⟨fun h k' hk' => by by_cases e : k' = k; (rw [e]; exact HQ.out); exact HP.out.1 h k' (by omega), fun h => HP.out.2 (fun k' hk' => h k' (by omega))⟩, HN.out⟩
                · have KM := Lib.hid (fun W => rmay_ok (E k) now W)
                  rw [hmk] at KM
                  unfold EntD.cs at KM
                  have KA := Lib.hid (fun W => rless18_ok (E k).r (E k).a (E k).p (E k).b (E k).q (E i).r (E i).a (E i).p (E i).b (E i).q (E k).r2 (E k).a2 (E k).p2 (E k).b2 (E k).q2 (E i).r2 (E i).a2 (E i).p2 (E i).b2 (E i).q2 (E k).st (E i).st (E k).dl (E i).dl (.slice (E k).ad (E k).n (E k).c) (.slice (E i).ad (E i).n (E i).c) okk.a okk.p okk.b okk.q oki.a oki.p oki.b oki.q W)
                  rw [show elB (E k).dl (tkey (E k).r (E k).a (E k).p (E k).b (E k).q) (E i).dl (tkey (E i).r (E i).a (E i).p (E i).b (E i).q) = false from hla] at KA
                  have kil : decide ((k : Int) < (i : Int)) = false := decide_eq_false (by omega)
                  have kin : decide (k < i) = false := decide_eq_false (by omega)
                  have HQ := Lib.hid (show okV E now k i from fun _ => ⟨hla, fun h => absurd h hltk⟩)
                  clear hmk hla hltk
                  go_upto_region 9 with fail
                  refine wp_region_held_drew (S := fun wx => NoW wr wx) (by kernel_rfl) (Fp.drew (Fp.refl _ _)) (fun hHeld0 => ?_)
                  refine any_eq hHeld0 (fun v1 hW hHeld => ?_)
                  clear hHeld0
                  clear hW
                  (refine take_at 0 (some 27) rfl rfl (by kernel_rfl) (by kernel_rfl) (by kernel_rfl) (fun _ _ _ h => h) (v := ?_) (by kernel_rfl) ?_ (by assumption) ?_; rotate_left; (focus (intro wS hSw; skip; go_simp; try with_reducible rfl)); (try simp only [Act.put, List.setIfInBounds_toArray, List.set_cons_zero, List.set_cons_succ]))
                  (refine take_at 1 (some 28) rfl rfl (by kernel_rfl) (by kernel_rfl) (by kernel_rfl) (fun _ _ _ h => h) (v := ?_) (by kernel_rfl) ?_ (by assumption) ?_; rotate_left; (focus (intro wS hSw; skip; go_simp; try with_reducible rfl)); (try simp only [Act.put, List.setIfInBounds_toArray, List.set_cons_zero, List.set_cons_succ]))
                  (refine take_at 2 (some 29) rfl rfl (by kernel_rfl) (by kernel_rfl) (by kernel_rfl) (fun _ _ _ h => h) (v := ?_) (by kernel_rfl) ?_ (by assumption) ?_; rotate_left; (focus (intro wS hSw; skip; go_simp; try with_reducible rfl)); (try simp only [Act.put, List.setIfInBounds_toArray, List.set_cons_zero, List.set_cons_succ]))
                  (refine take_at 3 (some 30) rfl rfl (by kernel_rfl) (by kernel_rfl) (by kernel_rfl) (fun _ _ _ h => h) (v := ?_) (by kernel_rfl) ?_ (by assumption) ?_; rotate_left; (focus (intro wS hSw; (have qx0 := (hSw.cell (p := ⟨b0, o0 + k * 13, none⟩) lb id).trans x0); (have qx1 := (hSw.cell (p := ⟨b0, o0 + k * 13 + 1, none⟩) lb id).trans x1); (have qx2 := (hSw.cell (p := ⟨b0, o0 + k * 13 + 2, none⟩) lb id).trans x2); (have qx3 := (hSw.cell (p := ⟨b0, o0 + k * 13 + 3, none⟩) lb id).trans x3); (have qx4 := (hSw.cell (p := ⟨b0, o0 + k * 13 + 4, none⟩) lb id).trans x4); (have qx5 := (hSw.cell (p := ⟨b0, o0 + k * 13 + 5, none⟩) lb id).trans x5); (have qx6 := (hSw.cell (p := ⟨b0, o0 + k * 13 + 6, none⟩) lb id).trans x6); (have qx7 := (hSw.cell (p := ⟨b0, o0 + k * 13 + 7, none⟩) lb id).trans x7); (have qx8 := (hSw.cell (p := ⟨b0, o0 + k * 13 + 8, none⟩) lb id).trans x8); (have qx9 := (hSw.cell (p := ⟨b0, o0 + k * 13 + 9, none⟩) lb id).trans x9); (have qx10 := (hSw.cell (p := ⟨b0, o0 + k * 13 + 10, none⟩) lb id).trans x10); (have qx11 := (hSw.cell (p := ⟨b0, o0 + k * 13 + 11, none⟩) lb id).trans x11); (have qx12 := (hSw.cell (p := ⟨b0, o0 + k * 13 + 12, none⟩) lb id).trans x12); go_simp; try with_reducible rfl)); (try simp only [Act.put, List.setIfInBounds_toArray, List.set_cons_zero, List.set_cons_succ]))
                  (refine take_at 4 (some 31) rfl rfl (by kernel_rfl) (by kernel_rfl) (by kernel_rfl) (fun _ _ _ h => h) (v := ?_) (by kernel_rfl) ?_ (by assumption) ?_; rotate_left; (focus (intro wS hSw; skip; go_simp; try with_reducible rfl)); (try simp only [Act.put, List.setIfInBounds_toArray, List.set_cons_zero, List.set_cons_succ]))
                  refine wpAnyH_ready (rs := [5]) (by kernel_rfl) (by simp) ?_
                  refine AllReadyH.cons rfl (fun K hK => ?_) AllReadyH.nil
                  go_simp
                  go_at_call 29
                  refine (show Calls _ _ _ _ _ from KM.out _).mono ?_
                  rintro e v2 ⟨rfl, hp⟩
                  have hn := Fp.trans hHeld hp (fun _ _ h => h.elim)
                  refine k_now hK hn ?_
                  clear hK K hp hHeld
                  have hHeld := hn
                  clear hn
                  try simp only [Act.put, List.setIfInBounds_toArray, List.set_cons_zero, List.set_cons_succ]
                  (refine take_at 6 (some 33) rfl rfl (by kernel_rfl) (by kernel_rfl) (by kernel_rfl) (fun _ _ _ h => h) (v := ?_) (by kernel_rfl) ?_ (by assumption) ?_; rotate_left; (focus (intro wS hSw; skip; go_simp; try with_reducible rfl)); (try simp only [Act.put, List.setIfInBounds_toArray, List.set_cons_zero, List.set_cons_succ]))
                  (refine take_at 7 (some 34) rfl rfl (by kernel_rfl) (by kernel_rfl) (by kernel_rfl) (fun _ _ _ h => h) (v := ?_) (by kernel_rfl) ?_ (by assumption) ?_; rotate_left; (focus (intro wS hSw; skip; go_simp; try with_reducible rfl)); (try simp only [Act.put, List.setIfInBounds_toArray, List.set_cons_zero, List.set_cons_succ]))
                  (refine take_at 8 (some 35) rfl rfl (by kernel_rfl) (by kernel_rfl) (by kernel_rfl) (fun _ _ _ h => h) (v := ?_) (by kernel_rfl) ?_ (by assumption) ?_; rotate_left; (focus (intro wS hSw; skip; go_simp; try with_reducible rfl)); (try simp only [Act.put, List.setIfInBounds_toArray, List.set_cons_zero, List.set_cons_succ]))
                  (refine take_at 9 (some 36) rfl rfl (by kernel_rfl) (by kernel_rfl) (by kernel_rfl) (fun _ _ _ h => h) (v := ?_) (by kernel_rfl) ?_ (by assumption) ?_; rotate_left; (focus (intro wS hSw; skip; go_simp; try with_reducible rfl)); (try simp only [Act.put, List.setIfInBounds_toArray, List.set_cons_zero, List.set_cons_succ]))
                  (refine take_at 10 (some 37) rfl rfl (by kernel_rfl) (by kernel_rfl) (by kernel_rfl) (fun _ _ _ h => h) (v := ?_) (by kernel_rfl) ?_ (by assumption) ?_; rotate_left; (focus (intro wS hSw; (have qx0 := (hSw.cell (p := ⟨b0, o0 + k * 13, none⟩) lb id).trans x0); (have qx1 := (hSw.cell (p := ⟨b0, o0 + k * 13 + 1, none⟩) lb id).trans x1); (have qx2 := (hSw.cell (p := ⟨b0, o0 + k * 13 + 2, none⟩) lb id).trans x2); (have qx3 := (hSw.cell (p := ⟨b0, o0 + k * 13 + 3, none⟩) lb id).trans x3); (have qx4 := (hSw.cell (p := ⟨b0, o0 + k * 13 + 4, none⟩) lb id).trans x4); (have qx5 := (hSw.cell (p := ⟨b0, o0 + k * 13 + 5, none⟩) lb id).trans x5); (have qx6 := (hSw.cell (p := ⟨b0, o0 + k * 13 + 6, none⟩) lb id).trans x6); (have qx7 := (hSw.cell (p := ⟨b0, o0 + k * 13 + 7, none⟩) lb id).trans x7); (have qx8 := (hSw.cell (p := ⟨b0, o0 + k * 13 + 8, none⟩) lb id).trans x8); (have qx9 := (hSw.cell (p := ⟨b0, o0 + k * 13 + 9, none⟩) lb id).trans x9); (have qx10 := (hSw.cell (p := ⟨b0, o0 + k * 13 + 10, none⟩) lb id).trans x10); (have qx11 := (hSw.cell (p := ⟨b0, o0 + k * 13 + 11, none⟩) lb id).trans x11); (have qx12 := (hSw.cell (p := ⟨b0, o0 + k * 13 + 12, none⟩) lb id).trans x12); go_simp; try with_reducible rfl)); (try simp only [Act.put, List.setIfInBounds_toArray, List.set_cons_zero, List.set_cons_succ]))
                  (refine take_at 11 (some 38) rfl rfl (by kernel_rfl) (by kernel_rfl) (by kernel_rfl) (fun _ _ _ h => h) (v := ?_) (by kernel_rfl) ?_ (by assumption) ?_; rotate_left; (focus (intro wS hSw; skip; go_simp; try with_reducible rfl)); (try simp only [Act.put, List.setIfInBounds_toArray, List.set_cons_zero, List.set_cons_succ]))
                  (refine take_at 12 (some 39) rfl rfl (by kernel_rfl) (by kernel_rfl) (by kernel_rfl) (fun _ _ _ h => h) (v := ?_) (by kernel_rfl) ?_ (by assumption) ?_; rotate_left; (focus (intro wS hSw; skip; go_simp; try with_reducible rfl)); (try simp only [Act.put, List.setIfInBounds_toArray, List.set_cons_zero, List.set_cons_succ]))
                  (refine take_at 13 (some 40) rfl rfl (by kernel_rfl) (by kernel_rfl) (by kernel_rfl) (fun _ _ _ h => h) (v := ?_) (by kernel_rfl) ?_ (by assumption) ?_; rotate_left; (focus (intro wS hSw; skip; go_simp; try with_reducible rfl)); (try simp only [Act.put, List.setIfInBounds_toArray, List.set_cons_zero, List.set_cons_succ]))
                  (refine take_at 14 (some 41) rfl rfl (by kernel_rfl) (by kernel_rfl) (by kernel_rfl) (fun _ _ _ h => h) (v := ?_) (by kernel_rfl) ?_ (by assumption) ?_; rotate_left; (focus (intro wS hSw; (have qy0 := (hSw.cell (p := ⟨b0, o0 + i * 13, none⟩) lb id).trans y0); (have qy1 := (hSw.cell (p := ⟨b0, o0 + i * 13 + 1, none⟩) lb id).trans y1); (have qy2 := (hSw.cell (p := ⟨b0, o0 + i * 13 + 2, none⟩) lb id).trans y2); (have qy3 := (hSw.cell (p := ⟨b0, o0 + i * 13 + 3, none⟩) lb id).trans y3); (have qy4 := (hSw.cell (p := ⟨b0, o0 + i * 13 + 4, none⟩) lb id).trans y4); (have qy5 := (hSw.cell (p := ⟨b0, o0 + i * 13 + 5, none⟩) lb id).trans y5); (have qy6 := (hSw.cell (p := ⟨b0, o0 + i * 13 + 6, none⟩) lb id).trans y6); (have qy7 := (hSw.cell (p := ⟨b0, o0 + i * 13 + 7, none⟩) lb id).trans y7); (have qy8 := (hSw.cell (p := ⟨b0, o0 + i * 13 + 8, none⟩) lb id).trans y8); (have qy9 := (hSw.cell (p := ⟨b0, o0 + i * 13 + 9, none⟩) lb id).trans y9); (have qy10 := (hSw.cell (p := ⟨b0, o0 + i * 13 + 10, none⟩) lb id).trans y10); (have qy11 := (hSw.cell (p := ⟨b0, o0 + i * 13 + 11, none⟩) lb id).trans y11); (have qy12 := (hSw.cell (p := ⟨b0, o0 + i * 13 + 12, none⟩) lb id).trans y12); go_simp; try with_reducible rfl)); (try simp only [Act.put, List.setIfInBounds_toArray, List.set_cons_zero, List.set_cons_succ]))
                  refine wpAnyH_ready (rs := [15]) (by kernel_rfl) (by simp) ?_
                  refine AllReadyH.cons rfl (fun K hK => ?_) AllReadyH.nil
                  go_simp
                  go_at_call 30
                  refine (show Calls _ _ _ _ _ from KA.out _).mono ?_
                  rintro e v3 ⟨rfl, hp⟩
                  have hn := Fp.trans hHeld hp (fun _ _ h => h.elim)
                  refine k_now hK hn ?_
                  clear hK K hp hHeld
                  have hHeld := hn
                  clear hn
                  try simp only [Act.put, List.setIfInBounds_toArray, List.set_cons_zero, List.set_cons_succ]
                  (refine take_at 16 (some 43) rfl rfl (by kernel_rfl) (by kernel_rfl) (by kernel_rfl) (fun _ _ _ h => h) (v := ?_) (by kernel_rfl) ?_ (by assumption) ?_; rotate_left; (focus (intro wS hSw; skip; go_simp; try with_reducible rfl)); (try simp only [Act.put, List.setIfInBounds_toArray, List.set_cons_zero, List.set_cons_succ]))
                  (refine take_at 17 (some 44) rfl rfl (by kernel_rfl) (by kernel_rfl) (by kernel_rfl) (fun _ _ _ h => h) (v := ?_) (by kernel_rfl) ?_ (by assumption) ?_; rotate_left; (focus (intro wS hSw; skip; go_simp; try with_reducible rfl)); (try simp only [Act.put, List.setIfInBounds_toArray, List.set_cons_zero, List.set_cons_succ]))
                  (refine take_at 18 (some 45) rfl rfl (by kernel_rfl) (by kernel_rfl) (by kernel_rfl) (fun _ _ _ h => h) (v := ?_) (by kernel_rfl) ?_ (by assumption) ?_; rotate_left; (focus (intro wS hSw; skip; go_simp; try with_reducible rfl)); (try simp only [Act.put, List.setIfInBounds_toArray, List.set_cons_zero, List.set_cons_succ]))
                  (refine take_at 19 (some 46) rfl rfl (by kernel_rfl) (by kernel_rfl) (by kernel_rfl) (fun _ _ _ h => h) (v := ?_) (by kernel_rfl) ?_ (by assumption) ?_; rotate_left; (focus (intro wS hSw; skip; go_simp; try with_reducible rfl)); (try simp only [Act.put, List.setIfInBounds_toArray, List.set_cons_zero, List.set_cons_succ]))
                  (refine take_at 20 (some 47) rfl rfl (by kernel_rfl) (by kernel_rfl) (by kernel_rfl) (fun _ _ _ h => h) (v := ?_) (by kernel_rfl) ?_ (by assumption) ?_; rotate_left; (focus (intro wS hSw; skip; go_simp; try with_reducible rfl)); (try simp only [Act.put, List.setIfInBounds_toArray, List.set_cons_zero, List.set_cons_succ]))
                  (refine drop_at 21 (some 48) rfl rfl (by kernel_rfl) (by kernel_rfl) (by kernel_rfl) (fun _ _ _ h => h) (by kernel_rfl) (by assumption) ?_; (try simp only [Act.put, List.setIfInBounds_toArray, List.set_cons_zero, List.set_cons_succ]))
                  (refine drop_at 22 (some 49) rfl rfl (by kernel_rfl) (by kernel_rfl) (by kernel_rfl) (fun _ _ _ h => h) (by kernel_rfl) (by assumption) ?_; (try simp only [Act.put, List.setIfInBounds_toArray, List.set_cons_zero, List.set_cons_succ]))
                  (refine drop_at 23 (some 50) rfl rfl (by kernel_rfl) (by kernel_rfl) (by kernel_rfl) (fun _ _ _ h => h) (by kernel_rfl) (by assumption) ?_; (try simp only [Act.put, List.setIfInBounds_toArray, List.set_cons_zero, List.set_cons_succ]))
                  (refine drop_at 24 (some 51) rfl rfl (by kernel_rfl) (by kernel_rfl) (by kernel_rfl) (fun _ _ _ h => h) (by kernel_rfl) (by assumption) ?_; (try simp only [Act.put, List.setIfInBounds_toArray, List.set_cons_zero, List.set_cons_succ]))
                  (refine drop_at 25 (some 52) rfl rfl (by kernel_rfl) (by kernel_rfl) (by kernel_rfl) (fun _ _ _ h => h) (by kernel_rfl) (by assumption) ?_; (try simp only [Act.put, List.setIfInBounds_toArray, List.set_cons_zero, List.set_cons_succ]))
                  (refine drop_at 26 (some 53) rfl rfl (by kernel_rfl) (by kernel_rfl) (by kernel_rfl) (fun _ _ _ h => h) (by kernel_rfl) (by assumption) ?_; (try simp only [Act.put, List.setIfInBounds_toArray, List.set_cons_zero, List.set_cons_succ]))
                  (refine drop_at 27 (some 54) rfl rfl (by kernel_rfl) (by kernel_rfl) (by kernel_rfl) (fun _ _ _ h => h) (by kernel_rfl) (by assumption) ?_; (try simp only [Act.put, List.setIfInBounds_toArray, List.set_cons_zero, List.set_cons_succ]))
                  (refine drop_at 28 (some 55) rfl rfl (by kernel_rfl) (by kernel_rfl) (by kernel_rfl) (fun _ _ _ h => h) (by kernel_rfl) (by assumption) ?_; (try simp only [Act.put, List.setIfInBounds_toArray, List.set_cons_zero, List.set_cons_succ]))
                  (refine drop_at 29 (some 56) rfl rfl (by kernel_rfl) (by kernel_rfl) (by kernel_rfl) (fun _ _ _ h => h) (by kernel_rfl) (by assumption) ?_; (try simp only [Act.put, List.setIfInBounds_toArray, List.set_cons_zero, List.set_cons_succ]))
                  (refine drop_at 30 (some 57) rfl rfl (by kernel_rfl) (by kernel_rfl) (by kernel_rfl) (fun _ _ _ h => h) (by kernel_rfl) (by assumption) ?_; (try simp only [Act.put, List.setIfInBounds_toArray, List.set_cons_zero, List.set_cons_succ]))
                  (refine take_at 31 (some 58) rfl rfl (by kernel_rfl) (by kernel_rfl) (by kernel_rfl) (fun _ _ _ h => h) (v := ?_) (by kernel_rfl) ?_ (by assumption) ?_; rotate_left; (focus (intro wS hSw; skip; go_simp; try with_reducible rfl)); (try simp only [Act.put, List.setIfInBounds_toArray, List.set_cons_zero, List.set_cons_succ]))
                  (refine take_at 32 (some 59) rfl rfl (by kernel_rfl) (by kernel_rfl) (by kernel_rfl) (fun _ _ _ h => h) (v := ?_) (by kernel_rfl) ?_ (by assumption) ?_; rotate_left; (focus (intro wS hSw; skip; go_simp; try with_reducible rfl)); (try simp only [Act.put, List.setIfInBounds_toArray, List.set_cons_zero, List.set_cons_succ]))
                  (refine take_at 33 (some 60) rfl rfl (by kernel_rfl) (by kernel_rfl) (by kernel_rfl) (fun _ _ _ h => h) (v := ?_) (by kernel_rfl) ?_ (by assumption) ?_; rotate_left; (focus (intro wS hSw; skip; go_simp; try with_reducible rfl)); (try simp only [Act.put, List.setIfInBounds_toArray, List.set_cons_zero, List.set_cons_succ]))
                  refine wpAnyH_done (by kernel_rfl) ?_ _
                  clear x0 y0 x1 y1 x2 y2 x3 y3 x4 y4 x5 y5 x6 y6 x7 y7 x8 y8 x9 y9 x10 y10 x11 y11 x12 y12
                  have hGe := hid_ge HN
                  replace HN := hid_now HN hHeld
                  clear hHeld hGe
                  go_wp2_with fail
                  go_roundg (n - k)
                  case measure => have := Hg2.out; omega
                  case rel => exact ⟨k + 1, fb, by omega, by omega, rfl, by go_num, ⟨fun h k' hk' => by by_cases e : k' = k; (rw [e]; exact HQ.out); exact HP.out.1 h k' (by omega), fun h => HP.out.2 (fun k' hk' => h k' (by omega))⟩, HN.out⟩
              · have KM := Lib.hid (fun W => rmay_ok (E k) now W)
                rw [hmk] at KM
                unfold EntD.cs at KM
                have KA := Lib.hid (fun W => rless18_ok (E k).r (E k).a (E k).p (E k).b (E k).q (E i).r (E i).a (E i).p (E i).b (E i).q (E k).r2 (E k).a2 (E k).p2 (E k).b2 (E k).q2 (E i).r2 (E i).a2 (E i).p2 (E i).b2 (E i).q2 (E k).st (E i).st (E k).dl (E i).dl (.slice (E k).ad (E k).n (E k).c) (.slice (E i).ad (E i).n (E i).c) okk.a okk.p okk.b okk.q oki.a oki.p oki.b oki.q W)
                rw [show elB (E k).dl (tkey (E k).r (E k).a (E k).p (E k).b (E k).q) (E i).dl (tkey (E i).r (E i).a (E i).p (E i).b (E i).q) = true from hla] at KA
                have HQ := Lib.hid (show ¬ okV E now k i from fun h => by have h9 := h hmk; rw [hla] at h9; cases h9.1)
                clear hmk hla
                go_upto_region 9 with fail
                refine wp_region_held_drew (S := fun wx => NoW wr wx) (by kernel_rfl) (Fp.drew (Fp.refl _ _)) (fun hHeld0 => ?_)
                refine any_eq hHeld0 (fun v1 hW hHeld => ?_)
                clear hHeld0
                clear hW
                (refine take_at 0 (some 27) rfl rfl (by kernel_rfl) (by kernel_rfl) (by kernel_rfl) (fun _ _ _ h => h) (v := ?_) (by kernel_rfl) ?_ (by assumption) ?_; rotate_left; (focus (intro wS hSw; skip; go_simp; try with_reducible rfl)); (try simp only [Act.put, List.setIfInBounds_toArray, List.set_cons_zero, List.set_cons_succ]))
                (refine take_at 1 (some 28) rfl rfl (by kernel_rfl) (by kernel_rfl) (by kernel_rfl) (fun _ _ _ h => h) (v := ?_) (by kernel_rfl) ?_ (by assumption) ?_; rotate_left; (focus (intro wS hSw; skip; go_simp; try with_reducible rfl)); (try simp only [Act.put, List.setIfInBounds_toArray, List.set_cons_zero, List.set_cons_succ]))
                (refine take_at 2 (some 29) rfl rfl (by kernel_rfl) (by kernel_rfl) (by kernel_rfl) (fun _ _ _ h => h) (v := ?_) (by kernel_rfl) ?_ (by assumption) ?_; rotate_left; (focus (intro wS hSw; skip; go_simp; try with_reducible rfl)); (try simp only [Act.put, List.setIfInBounds_toArray, List.set_cons_zero, List.set_cons_succ]))
                (refine take_at 3 (some 30) rfl rfl (by kernel_rfl) (by kernel_rfl) (by kernel_rfl) (fun _ _ _ h => h) (v := ?_) (by kernel_rfl) ?_ (by assumption) ?_; rotate_left; (focus (intro wS hSw; (have qx0 := (hSw.cell (p := ⟨b0, o0 + k * 13, none⟩) lb id).trans x0); (have qx1 := (hSw.cell (p := ⟨b0, o0 + k * 13 + 1, none⟩) lb id).trans x1); (have qx2 := (hSw.cell (p := ⟨b0, o0 + k * 13 + 2, none⟩) lb id).trans x2); (have qx3 := (hSw.cell (p := ⟨b0, o0 + k * 13 + 3, none⟩) lb id).trans x3); (have qx4 := (hSw.cell (p := ⟨b0, o0 + k * 13 + 4, none⟩) lb id).trans x4); (have qx5 := (hSw.cell (p := ⟨b0, o0 + k * 13 + 5, none⟩) lb id).trans x5); (have qx6 := (hSw.cell (p := ⟨b0, o0 + k * 13 + 6, none⟩) lb id).trans x6); (have qx7 := (hSw.cell (p := ⟨b0, o0 + k * 13 + 7, none⟩) lb id).trans x7); (have qx8 := (hSw.cell (p := ⟨b0, o0 + k * 13 + 8, none⟩) lb id).trans x8); (have qx9 := (hSw.cell (p := ⟨b0, o0 + k * 13 + 9, none⟩) lb id).trans x9); (have qx10 := (hSw.cell (p := ⟨b0, o0 + k * 13 + 10, none⟩) lb id).trans x10); (have qx11 := (hSw.cell (p := ⟨b0, o0 + k * 13 + 11, none⟩) lb id).trans x11); (have qx12 := (hSw.cell (p := ⟨b0, o0 + k * 13 + 12, none⟩) lb id).trans x12); go_simp; try with_reducible rfl)); (try simp only [Act.put, List.setIfInBounds_toArray, List.set_cons_zero, List.set_cons_succ]))
                (refine take_at 4 (some 31) rfl rfl (by kernel_rfl) (by kernel_rfl) (by kernel_rfl) (fun _ _ _ h => h) (v := ?_) (by kernel_rfl) ?_ (by assumption) ?_; rotate_left; (focus (intro wS hSw; skip; go_simp; try with_reducible rfl)); (try simp only [Act.put, List.setIfInBounds_toArray, List.set_cons_zero, List.set_cons_succ]))
                refine wpAnyH_ready (rs := [5]) (by kernel_rfl) (by simp) ?_
                refine AllReadyH.cons rfl (fun K hK => ?_) AllReadyH.nil
                go_simp
                go_at_call 29
                refine (show Calls _ _ _ _ _ from KM.out _).mono ?_
                rintro e v2 ⟨rfl, hp⟩
                have hn := Fp.trans hHeld hp (fun _ _ h => h.elim)
                refine k_now hK hn ?_
                clear hK K hp hHeld
                have hHeld := hn
                clear hn
                try simp only [Act.put, List.setIfInBounds_toArray, List.set_cons_zero, List.set_cons_succ]
                (refine take_at 6 (some 33) rfl rfl (by kernel_rfl) (by kernel_rfl) (by kernel_rfl) (fun _ _ _ h => h) (v := ?_) (by kernel_rfl) ?_ (by assumption) ?_; rotate_left; (focus (intro wS hSw; skip; go_simp; try with_reducible rfl)); (try simp only [Act.put, List.setIfInBounds_toArray, List.set_cons_zero, List.set_cons_succ]))
                (refine take_at 7 (some 34) rfl rfl (by kernel_rfl) (by kernel_rfl) (by kernel_rfl) (fun _ _ _ h => h) (v := ?_) (by kernel_rfl) ?_ (by assumption) ?_; rotate_left; (focus (intro wS hSw; skip; go_simp; try with_reducible rfl)); (try simp only [Act.put, List.setIfInBounds_toArray, List.set_cons_zero, List.set_cons_succ]))
                (refine take_at 8 (some 35) rfl rfl (by kernel_rfl) (by kernel_rfl) (by kernel_rfl) (fun _ _ _ h => h) (v := ?_) (by kernel_rfl) ?_ (by assumption) ?_; rotate_left; (focus (intro wS hSw; skip; go_simp; try with_reducible rfl)); (try simp only [Act.put, List.setIfInBounds_toArray, List.set_cons_zero, List.set_cons_succ]))
                (refine take_at 9 (some 36) rfl rfl (by kernel_rfl) (by kernel_rfl) (by kernel_rfl) (fun _ _ _ h => h) (v := ?_) (by kernel_rfl) ?_ (by assumption) ?_; rotate_left; (focus (intro wS hSw; skip; go_simp; try with_reducible rfl)); (try simp only [Act.put, List.setIfInBounds_toArray, List.set_cons_zero, List.set_cons_succ]))
                (refine take_at 10 (some 37) rfl rfl (by kernel_rfl) (by kernel_rfl) (by kernel_rfl) (fun _ _ _ h => h) (v := ?_) (by kernel_rfl) ?_ (by assumption) ?_; rotate_left; (focus (intro wS hSw; (have qx0 := (hSw.cell (p := ⟨b0, o0 + k * 13, none⟩) lb id).trans x0); (have qx1 := (hSw.cell (p := ⟨b0, o0 + k * 13 + 1, none⟩) lb id).trans x1); (have qx2 := (hSw.cell (p := ⟨b0, o0 + k * 13 + 2, none⟩) lb id).trans x2); (have qx3 := (hSw.cell (p := ⟨b0, o0 + k * 13 + 3, none⟩) lb id).trans x3); (have qx4 := (hSw.cell (p := ⟨b0, o0 + k * 13 + 4, none⟩) lb id).trans x4); (have qx5 := (hSw.cell (p := ⟨b0, o0 + k * 13 + 5, none⟩) lb id).trans x5); (have qx6 := (hSw.cell (p := ⟨b0, o0 + k * 13 + 6, none⟩) lb id).trans x6); (have qx7 := (hSw.cell (p := ⟨b0, o0 + k * 13 + 7, none⟩) lb id).trans x7); (have qx8 := (hSw.cell (p := ⟨b0, o0 + k * 13 + 8, none⟩) lb id).trans x8); (have qx9 := (hSw.cell (p := ⟨b0, o0 + k * 13 + 9, none⟩) lb id).trans x9); (have qx10 := (hSw.cell (p := ⟨b0, o0 + k * 13 + 10, none⟩) lb id).trans x10); (have qx11 := (hSw.cell (p := ⟨b0, o0 + k * 13 + 11, none⟩) lb id).trans x11); (have qx12 := (hSw.cell (p := ⟨b0, o0 + k * 13 + 12, none⟩) lb id).trans x12); go_simp; try with_reducible rfl)); (try simp only [Act.put, List.setIfInBounds_toArray, List.set_cons_zero, List.set_cons_succ]))
                (refine take_at 11 (some 38) rfl rfl (by kernel_rfl) (by kernel_rfl) (by kernel_rfl) (fun _ _ _ h => h) (v := ?_) (by kernel_rfl) ?_ (by assumption) ?_; rotate_left; (focus (intro wS hSw; skip; go_simp; try with_reducible rfl)); (try simp only [Act.put, List.setIfInBounds_toArray, List.set_cons_zero, List.set_cons_succ]))
                (refine take_at 12 (some 39) rfl rfl (by kernel_rfl) (by kernel_rfl) (by kernel_rfl) (fun _ _ _ h => h) (v := ?_) (by kernel_rfl) ?_ (by assumption) ?_; rotate_left; (focus (intro wS hSw; skip; go_simp; try with_reducible rfl)); (try simp only [Act.put, List.setIfInBounds_toArray, List.set_cons_zero, List.set_cons_succ]))
                (refine take_at 13 (some 40) rfl rfl (by kernel_rfl) (by kernel_rfl) (by kernel_rfl) (fun _ _ _ h => h) (v := ?_) (by kernel_rfl) ?_ (by assumption) ?_; rotate_left; (focus (intro wS hSw; skip; go_simp; try with_reducible rfl)); (try simp only [Act.put, List.setIfInBounds_toArray, List.set_cons_zero, List.set_cons_succ]))
                (refine take_at 14 (some 41) rfl rfl (by kernel_rfl) (by kernel_rfl) (by kernel_rfl) (fun _ _ _ h => h) (v := ?_) (by kernel_rfl) ?_ (by assumption) ?_; rotate_left; (focus (intro wS hSw; (have qy0 := (hSw.cell (p := ⟨b0, o0 + i * 13, none⟩) lb id).trans y0); (have qy1 := (hSw.cell (p := ⟨b0, o0 + i * 13 + 1, none⟩) lb id).trans y1); (have qy2 := (hSw.cell (p := ⟨b0, o0 + i * 13 + 2, none⟩) lb id).trans y2); (have qy3 := (hSw.cell (p := ⟨b0, o0 + i * 13 + 3, none⟩) lb id).trans y3); (have qy4 := (hSw.cell (p := ⟨b0, o0 + i * 13 + 4, none⟩) lb id).trans y4); (have qy5 := (hSw.cell (p := ⟨b0, o0 + i * 13 + 5, none⟩) lb id).trans y5); (have qy6 := (hSw.cell (p := ⟨b0, o0 + i * 13 + 6, none⟩) lb id).trans y6); (have qy7 := (hSw.cell (p := ⟨b0, o0 + i * 13 + 7, none⟩) lb id).trans y7); (have qy8 := (hSw.cell (p := ⟨b0, o0 + i * 13 + 8, none⟩) lb id).trans y8); (have qy9 := (hSw.cell (p := ⟨b0, o0 + i * 13 + 9, none⟩) lb id).trans y9); (have qy10 := (hSw.cell (p := ⟨b0, o0 + i * 13 + 10, none⟩) lb id).trans y10); (have qy11 := (hSw.cell (p := ⟨b0, o0 + i * 13 + 11, none⟩) lb id).trans y11); (have qy12 := (hSw.cell (p := ⟨b0, o0 + i * 13 + 12, none⟩) lb id).trans y12); go_simp; try with_reducible rfl)); (try simp only [Act.put, List.setIfInBounds_toArray, List.set_cons_zero, List.set_cons_succ]))
                refine wpAnyH_ready (rs := [15]) (by kernel_rfl) (by simp) ?_
                refine AllReadyH.cons rfl (fun K hK => ?_) AllReadyH.nil
                go_simp
                go_at_call 30
                refine (show Calls _ _ _ _ _ from KA.out _).mono ?_
                rintro e v3 ⟨rfl, hp⟩
                have hn := Fp.trans hHeld hp (fun _ _ h => h.elim)
                refine k_now hK hn ?_
                clear hK K hp hHeld
                have hHeld := hn
                clear hn
                try simp only [Act.put, List.setIfInBounds_toArray, List.set_cons_zero, List.set_cons_succ]
                (refine take_at 16 (some 43) rfl rfl (by kernel_rfl) (by kernel_rfl) (by kernel_rfl) (fun _ _ _ h => h) (v := ?_) (by kernel_rfl) ?_ (by assumption) ?_; rotate_left; (focus (intro wS hSw; skip; go_simp; try with_reducible rfl)); (try simp only [Act.put, List.setIfInBounds_toArray, List.set_cons_zero, List.set_cons_succ]))
                (refine drop_at 17 (some 44) rfl rfl (by kernel_rfl) (by kernel_rfl) (by kernel_rfl) (fun _ _ _ h => h) (by kernel_rfl) (by assumption) ?_; (try simp only [Act.put, List.setIfInBounds_toArray, List.set_cons_zero, List.set_cons_succ]))
                (refine drop_at 18 (some 45) rfl rfl (by kernel_rfl) (by kernel_rfl) (by kernel_rfl) (fun _ _ _ h => h) (by kernel_rfl) (by assumption) ?_; (try simp only [Act.put, List.setIfInBounds_toArray, List.set_cons_zero, List.set_cons_succ]))
                (refine drop_at 19 (some 46) rfl rfl (by kernel_rfl) (by kernel_rfl) (by kernel_rfl) (fun _ _ _ h => h) (by kernel_rfl) (by assumption) ?_; (try simp only [Act.put, List.setIfInBounds_toArray, List.set_cons_zero, List.set_cons_succ]))
                (refine drop_at 20 (some 47) rfl rfl (by kernel_rfl) (by kernel_rfl) (by kernel_rfl) (fun _ _ _ h => h) (by kernel_rfl) (by assumption) ?_; (try simp only [Act.put, List.setIfInBounds_toArray, List.set_cons_zero, List.set_cons_succ]))
                (refine drop_at 21 (some 48) rfl rfl (by kernel_rfl) (by kernel_rfl) (by kernel_rfl) (fun _ _ _ h => h) (by kernel_rfl) (by assumption) ?_; (try simp only [Act.put, List.setIfInBounds_toArray, List.set_cons_zero, List.set_cons_succ]))
                (refine drop_at 22 (some 49) rfl rfl (by kernel_rfl) (by kernel_rfl) (by kernel_rfl) (fun _ _ _ h => h) (by kernel_rfl) (by assumption) ?_; (try simp only [Act.put, List.setIfInBounds_toArray, List.set_cons_zero, List.set_cons_succ]))
                (refine drop_at 23 (some 50) rfl rfl (by kernel_rfl) (by kernel_rfl) (by kernel_rfl) (fun _ _ _ h => h) (by kernel_rfl) (by assumption) ?_; (try simp only [Act.put, List.setIfInBounds_toArray, List.set_cons_zero, List.set_cons_succ]))
                (refine drop_at 24 (some 51) rfl rfl (by kernel_rfl) (by kernel_rfl) (by kernel_rfl) (fun _ _ _ h => h) (by kernel_rfl) (by assumption) ?_; (try simp only [Act.put, List.setIfInBounds_toArray, List.set_cons_zero, List.set_cons_succ]))
                (refine drop_at 25 (some 52) rfl rfl (by kernel_rfl) (by kernel_rfl) (by kernel_rfl) (fun _ _ _ h => h) (by kernel_rfl) (by assumption) ?_; (try simp only [Act.put, List.setIfInBounds_toArray, List.set_cons_zero, List.set_cons_succ]))
                (refine drop_at 26 (some 53) rfl rfl (by kernel_rfl) (by kernel_rfl) (by kernel_rfl) (fun _ _ _ h => h) (by kernel_rfl) (by assumption) ?_; (try simp only [Act.put, List.setIfInBounds_toArray, List.set_cons_zero, List.set_cons_succ]))
                (refine drop_at 27 (some 54) rfl rfl (by kernel_rfl) (by kernel_rfl) (by kernel_rfl) (fun _ _ _ h => h) (by kernel_rfl) (by assumption) ?_; (try simp only [Act.put, List.setIfInBounds_toArray, List.set_cons_zero, List.set_cons_succ]))
                (refine drop_at 28 (some 55) rfl rfl (by kernel_rfl) (by kernel_rfl) (by kernel_rfl) (fun _ _ _ h => h) (by kernel_rfl) (by assumption) ?_; (try simp only [Act.put, List.setIfInBounds_toArray, List.set_cons_zero, List.set_cons_succ]))
                (refine drop_at 29 (some 56) rfl rfl (by kernel_rfl) (by kernel_rfl) (by kernel_rfl) (fun _ _ _ h => h) (by kernel_rfl) (by assumption) ?_; (try simp only [Act.put, List.setIfInBounds_toArray, List.set_cons_zero, List.set_cons_succ]))
                (refine drop_at 30 (some 57) rfl rfl (by kernel_rfl) (by kernel_rfl) (by kernel_rfl) (fun _ _ _ h => h) (by kernel_rfl) (by assumption) ?_; (try simp only [Act.put, List.setIfInBounds_toArray, List.set_cons_zero, List.set_cons_succ]))
                (refine drop_at 31 (some 58) rfl rfl (by kernel_rfl) (by kernel_rfl) (by kernel_rfl) (fun _ _ _ h => h) (by kernel_rfl) (by assumption) ?_; (try simp only [Act.put, List.setIfInBounds_toArray, List.set_cons_zero, List.set_cons_succ]))
                (refine take_at 32 (some 59) rfl rfl (by kernel_rfl) (by kernel_rfl) (by kernel_rfl) (fun _ _ _ h => h) (v := ?_) (by kernel_rfl) ?_ (by assumption) ?_; rotate_left; (focus (intro wS hSw; skip; go_simp; try with_reducible rfl)); (try simp only [Act.put, List.setIfInBounds_toArray, List.set_cons_zero, List.set_cons_succ]))
                (refine take_at 33 (some 60) rfl rfl (by kernel_rfl) (by kernel_rfl) (by kernel_rfl) (fun _ _ _ h => h) (v := ?_) (by kernel_rfl) ?_ (by assumption) ?_; rotate_left; (focus (intro wS hSw; skip; go_simp; try with_reducible rfl)); (try simp only [Act.put, List.setIfInBounds_toArray, List.set_cons_zero, List.set_cons_succ]))
                refine wpAnyH_done (by kernel_rfl) ?_ _
                clear x0 y0 x1 y1 x2 y2 x3 y3 x4 y4 x5 y5 x6 y6 x7 y7 x8 y8 x9 y9 x10 y10 x11 y11 x12 y12
                have hGe := hid_ge HN
                replace HN := hid_now HN hHeld
                clear hHeld hGe
                go_wp2_with fail
                go_roundg (n - k)
                case measure => have := Hg2.out; omega
                case rel => exact ⟨k + 1, false, by omega, by omega, rfl, by go_num, ⟨(fun h => by cases h), fun h => absurd (h k (by omega)) HQ.out⟩, HN.out⟩
          · obtain rfl : k = n := by omega
            cases fb with
            | true =>
              go_wp2_with fail
              go_ret
              exact ⟨_, rfl, Or.inl ⟨i, rfl, hlt, HM.out, HP.out.1 (by trivial)⟩, HN.out⟩
            | false =>
              go_wp2_with fail
              go_roundg (k - i)
              case measure => have := Hg.out; omega
              case rel => exact ⟨i + 1, by omega, by omega, by go_num, fun j hj => by by_cases e : j = i; (rw [e]; intro h; have h1 := HP.out.2 h.2; simp at h1); exact HO.out j (by omega), HN.out⟩
    · obtain rfl : i = n := by omega
      go_wp2_with fail
      go_ret
      exact ⟨_, rfl, Or.inr ⟨rfl, HO.out⟩, HN.out⟩
end Go.Proofs.YtaiimkcmgiceeaaDoor
