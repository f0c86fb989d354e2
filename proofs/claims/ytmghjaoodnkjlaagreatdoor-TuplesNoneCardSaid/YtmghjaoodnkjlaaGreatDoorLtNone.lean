/- Chapter 08: TuplesNone (written by gen8y.py). -/
import Derived.Test.YtmghjaoodnkjlaaGreatDoorTq
import Derived.Test.YtmghjaoodnkjlaaGreatDoorTw
import Derived.Test.YtmghjaoodnkjlaaGreatDoorTk
import Derived.Test.YtmghjaoodnkjlaaGreatDoorSees
import Derived.Laws.StructEq
namespace Go.Proofs.YtmghjaoodnkjlaaGreatDoor
set_option linter.unusedVariables false
set_option linter.unusedSimpArgs false
open Go.RowKit Go.Lib Go.Sort
set_option maxHeartbeats 8000000 in
set_option maxRecDepth 100000 in
theorem walk_TuplesNone (w : World) (ht : TbQ w) (v0 v1 : Value) (g0 : Good Tryz.prog w 9 v0) (g1 : Good Tryz.prog w 5 v1) : Calls Tryz.prog 4 #[v0, v1] w (Ret1 (.bool true) w) := by
  obtain ⟨s, rfl, _⟩ := good_string Tryz.underlying9 g0
  obtain ⟨l, rfl, hs⟩ := str_of s
  clear g0 hs
  obtain ⟨z, rfl, hz⟩ := good_int Tryz.underlying5 g1
  obtain ⟨n, rfl, hn⟩ := wf_nat hz rfl
  simp only [IntKind.bits] at hn
  clear g1 hz
  by_cases hl : l.length ≤ 2500
  · rcases hx : seenOf l with x | r
    · skip
      have d0 : decide ((2500 : Int) < (l.length : Int)) = false := decide_eq_false (by omega)
      have KO := Lib.hid (fun W hW => of_ok l (by omega) W hW)
      rw [hx] at KO
      obtain ⟨hok, hpr, hk1, hk3⟩ := seen_ok hx
      obtain ⟨lp, _, lsp, _, ldp, _, _⟩ := seen_lt hx
      have ht2 : seenOf (l.take (g16 l 2)) = .inl x := (seen_take hok (Nat.le_refl _) hok.has).trans hx
      have hal := hok.has
      have hla := hok.len
      have ho1 := hok.own
      have ho2 := hok.all
      obtain ⟨r, hr, hr0⟩ := seen_cut (m := g16 l 2 - 1 - n) hok (by omega)
      obtain ⟨pr, sr, sp, ds, dp, ki, fl, ask, tt⟩ := x
      simp only at hpr hk1 hk3 lp lsp ldp
      have hB : tupB pr sp dp = true := by unfold tupB isWord; rcases hpr with h | h | ⟨h, h'⟩ <;> (subst h; simp) ; rcases h' with h' | h' <;> simp [h']
      have KM := Lib.hid (fun W hW => tup_ok pr sr sp ds dp lp W hW)
      rw [hB] at KM
      have x2 := run_byte l (i := 2) (z := 2) rfl (by omega)
      have x3 := run_byte l (i := 3) (z := 3) rfl (by omega)
      have b2 := byt_lt l 2
      have b3 := byt_lt l 3
      have hg : g16 l 2 = byt l 2 * 256 + byt l 3 := by unfold g16; rw [if_pos (by omega)]
      have K2 := Lib.hid (fun W hW => of_ok (l.take (g16 l 2)) (by simp; omega) W hW)
      rw [ht2] at K2
      have K3 := Lib.hid (fun W hW => of_ok (l.take (g16 l 2 - 1 - n)) (by simp; omega) W hW)
      rw [hr] at K3
      obtain ⟨all, hall⟩ : ∃ all, all = g16 l 2 := ⟨_, rfl⟩
      rw [← hall] at hal hg K2 K3 ho2
      obtain ⟨m, hm⟩ : ∃ m, m = all - 1 - n := ⟨_, rfl⟩
      rw [← hm] at K3
      have s1 := run_cutTo l (j := all) rfl hal
      have s2 := run_cutTo l (j := m) rfl (by omega)
      generalize byt l 2 = u at *
      generalize byt l 3 = v at *
      have c0 : IntKind.i64.wrap (u : Int) = (u : Int) := IntWalk.i64_in _ (by omega)
      have c1 : IntKind.i64.wrap (v : Int) = (v : Int) := IntWalk.i64_in _ (by omega)
      have c2 : IntKind.i64.wrap ((u : Int) * 256) = ((u * 256 : Nat) : Int) := (IntWalk.i64_in _ (by omega)).trans (by omega)
      have c3 : IntKind.i64.wrap (((u * 256 : Nat) : Int) + (v : Int)) = (all : Int) := (IntWalk.i64_in _ (by omega)).trans (by omega)
      have c3n : (u : Int) * 256 + (v : Int) = (all : Int) := by omega
      have ex1 := ext_cut l 0 all
      rw [List.drop_zero] at ex1
      have ex2 := ext_cut l 0 m
      rw [List.drop_zero] at ex2
      have d1 : decide ((ki : Int) < 1) = false := decide_eq_false (by omega)
      have d2 : decide ((3 : Int) < (ki : Int)) = false := decide_eq_false (by omega)
      have d3 : decide ((l.length : Int) < 20) = false := decide_eq_false (by omega)
      have d4 : decide (l.length < all) = false := decide_eq_false (by omega)
      have d5 : decide ((l.length : Int) < (all : Int)) = false := decide_eq_false (by omega)
      have d6 : ((r : Int) != 0) = true := by simp [bne]; omega
      have c4 : IntKind.i64.wrap ((all : Int) - 1) = (all : Int) - 1 := IntWalk.i64_in _ (by omega)
      have c5 : IntKind.i64.wrap (n : Int) = (n : Int) := IntWalk.i64_in _ (by omega)
      have c6 : IntKind.i64.wrap ((all : Int) - 1 - (n : Int)) = (all : Int) - 1 - (n : Int) := IntWalk.i64_in _ (by omega)
      have c7 : max ((all : Int) - 1 - (n : Int)) 0 = (m : Int) := by omega
      have i0 : (all : Int) ≤ (l.length : Int) := by omega
      have i1 : (m : Int) ≤ (l.length : Int) := by omega
      unfold ofV seenV seenZ at KO K2 K3
      clear hx hl hok hpr hk1 hk3 ht2 hr hr0 hB hg hall hm lp lsp ldp ho1 ho2 hla
      go_enter Tryz.func4, Tryz.ntmps4
      have HN := Lib.hid (Fp.refl (fun _ => False) w)
      have HT := Lib.hid ht
      go_wp2_with fail
      refine (show Calls _ _ _ _ _ from KO.out _ (HT.out.low HN.out).toP.base).mono ?_
      rintro e x1 ⟨rfl, hp⟩
      replace HN := hid_now HN hp
      clear hp
      go_upto_region 4 with fail
      refine wp_gen (fun x2 hW => ?_)
      have hp := new_now hW
      have hB := new_blk hW
      clear hW
      have hGe := hid_ge HN
      replace HN := hid_now HN hp
      obtain ⟨g5, hg5⟩ : ∃ g5, g5 = x1.heap.size := ⟨_, rfl⟩
      have G_g5 := Lib.hid (Nat.le_trans hGe (Nat.le_of_eq hg5.symm))
      rw [← hg5] at hB ⊢
      have B_g5 := hB
      clear hB hGe hg5
      clear hp
      have cg50 := cell_at B_g5 0 rfl
      have cg51 := cell_at B_g5 1 rfl
      have cg52 := cell_at B_g5 2 rfl
      have cg53 := cell_at B_g5 3 rfl
      have cg54 := cell_at B_g5 4 rfl
      have cg55 := cell_at B_g5 5 rfl
      have cg56 := cell_at B_g5 6 rfl
      have cg57 := cell_at B_g5 7 rfl
      have cg58 := cell_at B_g5 8 rfl
      have zg5 := froz_at B_g5
      have lg5 := hid_lt B_g5
      go_wp2_with fail
      clear cg50 cg51 cg52 cg53 cg54 cg55 cg56 cg57 cg58 zg5 lg5
      refine (show Calls _ _ _ _ _ from KM.out _ (HT.out.low HN.out).toP.base).mono ?_
      rintro e x3 ⟨rfl, hp⟩
      replace HN := hid_now HN hp
      replace B_g5 := hid_blk B_g5 hp
      clear hp
      have cg50 := cell_at B_g5 0 rfl
      have cg51 := cell_at B_g5 1 rfl
      have cg52 := cell_at B_g5 2 rfl
      have cg53 := cell_at B_g5 3 rfl
      have cg54 := cell_at B_g5 4 rfl
      have cg55 := cell_at B_g5 5 rfl
      have cg56 := cell_at B_g5 6 rfl
      have cg57 := cell_at B_g5 7 rfl
      have cg58 := cell_at B_g5 8 rfl
      have zg5 := froz_at B_g5
      have lg5 := hid_lt B_g5
      go_wp2_with fail
      clear cg50 cg51 cg52 cg53 cg54 cg55 cg56 cg57 cg58 zg5 lg5
      refine wp_region_held_drew (S := fun wx => NoW x3 wx) (by kernel_rfl) (Fp.drew (Fp.refl _ _)) (fun hHeld0 => ?_)
      refine any_eq hHeld0 (fun x4 hW hHeld => ?_)
      clear hHeld0
      replace B_g5 := hid_blk B_g5 (noW_drew hW)
      clear hW
      (refine take_at 0 (some 52) rfl rfl (by kernel_rfl) (by kernel_rfl) (by kernel_rfl) (fun _ _ _ h => h) (v := ?_) (by kernel_rfl) ?_ (by assumption) ?_; rotate_left; (focus (intro wS hSw; skip; go_simp; try with_reducible rfl)); (try simp only [Act.put, List.setIfInBounds_toArray, List.set_cons_zero, List.set_cons_succ]))
      (refine take_at 1 (some 53) rfl rfl (by kernel_rfl) (by kernel_rfl) (by kernel_rfl) (fun _ _ _ h => h) (v := ?_) (by kernel_rfl) ?_ (by assumption) ?_; rotate_left; (focus (intro wS hSw; have hX := fun b o (h : b < _) => hSw.cell (p := ⟨b, o, none⟩) h id; go_simp; try with_reducible rfl)); (try simp only [Act.put, List.setIfInBounds_toArray, List.set_cons_zero, List.set_cons_succ]))
      (refine take_at 2 (some 54) rfl rfl (by kernel_rfl) (by kernel_rfl) (by kernel_rfl) (fun _ _ _ h => h) (v := ?_) (by kernel_rfl) ?_ (by assumption) ?_; rotate_left; (focus (intro wS hSw; skip; go_simp; try with_reducible rfl)); (try simp only [Act.put, List.setIfInBounds_toArray, List.set_cons_zero, List.set_cons_succ]))
      (refine take_at 3 (some 55) rfl rfl (by kernel_rfl) (by kernel_rfl) (by kernel_rfl) (fun _ _ _ h => h) (v := ?_) (by kernel_rfl) ?_ (by assumption) ?_; rotate_left; (focus (intro wS hSw; skip; go_simp; try with_reducible rfl)); (try simp only [Act.put, List.setIfInBounds_toArray, List.set_cons_zero, List.set_cons_succ]))
      (refine take_at 4 (some 56) rfl rfl (by kernel_rfl) (by kernel_rfl) (by kernel_rfl) (fun _ _ _ h => h) (v := ?_) (by kernel_rfl) ?_ (by assumption) ?_; rotate_left; (focus (intro wS hSw; skip; go_simp; try with_reducible rfl)); (try simp only [Act.put, List.setIfInBounds_toArray, List.set_cons_zero, List.set_cons_succ]))
      (refine take_at 5 (some 57) rfl rfl (by kernel_rfl) (by kernel_rfl) (by kernel_rfl) (fun _ _ _ h => h) (v := ?_) (by kernel_rfl) ?_ (by assumption) ?_; rotate_left; (focus (intro wS hSw; have hX := fun b o (h : b < _) => hSw.cell (p := ⟨b, o, none⟩) h id; go_simp; try with_reducible rfl)); (try simp only [Act.put, List.setIfInBounds_toArray, List.set_cons_zero, List.set_cons_succ]))
      (refine take_at 6 (some 58) rfl rfl (by kernel_rfl) (by kernel_rfl) (by kernel_rfl) (fun _ _ _ h => h) (v := ?_) (by kernel_rfl) ?_ (by assumption) ?_; rotate_left; (focus (intro wS hSw; skip; go_simp; try with_reducible rfl)); (try simp only [Act.put, List.setIfInBounds_toArray, List.set_cons_zero, List.set_cons_succ]))
      (refine take_at 7 (some 59) rfl rfl (by kernel_rfl) (by kernel_rfl) (by kernel_rfl) (fun _ _ _ h => h) (v := ?_) (by kernel_rfl) ?_ (by assumption) ?_; rotate_left; (focus (intro wS hSw; skip; go_simp; try with_reducible rfl)); (try simp only [Act.put, List.setIfInBounds_toArray, List.set_cons_zero, List.set_cons_succ]))
      (refine take_at 8 (some 7) rfl rfl (by kernel_rfl) (by kernel_rfl) (by kernel_rfl) (fun _ _ _ h => h) (v := ?_) (by kernel_rfl) ?_ (by assumption) ?_; rotate_left; (focus (intro wS hSw; skip; go_simp; try with_reducible rfl)); (try simp only [Act.put, List.setIfInBounds_toArray, List.set_cons_zero, List.set_cons_succ]))
      refine wpAnyH_done (by kernel_rfl) ?_ _
      have hGe := hid_ge HN
      replace HN := hid_now HN hHeld
      clear hHeld hGe
      go_wp2_with fail
      refine (show Calls _ _ _ _ _ from K2.out _ (HT.out.low HN.out).toP.base).mono ?_
      rintro e x5 ⟨rfl, hp⟩
      replace HN := hid_now HN hp
      replace B_g5 := hid_blk B_g5 hp
      clear hp
      go_upto_region 12 with fail
      refine wp_gen (fun x6 hW => ?_)
      have l2g5 := hid_lt B_g5
      have hp := new_now hW
      have hB := new_blk hW
      clear hW
      have hGe := hid_ge HN
      replace HN := hid_now HN hp
      replace B_g5 := hid_blk B_g5 hp
      obtain ⟨g8, hg8⟩ : ∃ g8, g8 = x5.heap.size := ⟨_, rfl⟩
      have G_g8 := Lib.hid (Nat.le_trans hGe (Nat.le_of_eq hg8.symm))
      have n_g5_g8 : ¬ g5 = g8 := by omega
      have n_g8_g5 : ¬ g8 = g5 := by omega
      clear l2g5
      rw [← hg8] at hB ⊢
      have B_g8 := hB
      clear hB hGe hg8
      clear hp
      go_wp2_with fail
      refine (show Calls _ _ _ _ _ from K3.out _ (HT.out.low HN.out).toP.base).mono ?_
      rintro e x7 ⟨rfl, hp⟩
      replace HN := hid_now HN hp
      replace B_g5 := hid_blk B_g5 hp
      replace B_g8 := hid_blk B_g8 hp
      clear hp
      go_upto_region 13 with fail
      refine wp_gen (fun x8 hW => ?_)
      have l2g5 := hid_lt B_g5
      have l2g8 := hid_lt B_g8
      have hp := new_now hW
      have hB := new_blk hW
      clear hW
      have hGe := hid_ge HN
      replace HN := hid_now HN hp
      replace B_g5 := hid_blk B_g5 hp
      replace B_g8 := hid_blk B_g8 hp
      obtain ⟨g10, hg10⟩ : ∃ g10, g10 = x7.heap.size := ⟨_, rfl⟩
      have G_g10 := Lib.hid (Nat.le_trans hGe (Nat.le_of_eq hg10.symm))
      have n_g5_g10 : ¬ g5 = g10 := by omega
      have n_g10_g5 : ¬ g10 = g5 := by omega
      clear l2g5
      have n_g8_g10 : ¬ g8 = g10 := by omega
      have n_g10_g8 : ¬ g10 = g8 := by omega
      clear l2g8
      rw [← hg10] at hB ⊢
      have B_g10 := hB
      clear hB hGe hg10
      clear hp
      have cg50 := cell_at B_g5 0 rfl
      have cg51 := cell_at B_g5 1 rfl
      have cg52 := cell_at B_g5 2 rfl
      have cg53 := cell_at B_g5 3 rfl
      have cg54 := cell_at B_g5 4 rfl
      have cg55 := cell_at B_g5 5 rfl
      have cg56 := cell_at B_g5 6 rfl
      have cg57 := cell_at B_g5 7 rfl
      have cg58 := cell_at B_g5 8 rfl
      have zg5 := froz_at B_g5
      have lg5 := hid_lt B_g5
      have cg80 := cell_at B_g8 0 rfl
      have cg81 := cell_at B_g8 1 rfl
      have cg82 := cell_at B_g8 2 rfl
      have cg83 := cell_at B_g8 3 rfl
      have cg84 := cell_at B_g8 4 rfl
      have cg85 := cell_at B_g8 5 rfl
      have cg86 := cell_at B_g8 6 rfl
      have cg87 := cell_at B_g8 7 rfl
      have cg88 := cell_at B_g8 8 rfl
      have zg8 := froz_at B_g8
      have lg8 := hid_lt B_g8
      go_wp2_with fail
      clear cg50 cg51 cg52 cg53 cg54 cg55 cg56 cg57 cg58 zg5 lg5 cg80 cg81 cg82 cg83 cg84 cg85 cg86 cg87 cg88 zg8 lg8
      refine (show Calls _ _ _ _ _ from watched_ok _ (HT.out.low HN.out)).mono ?_
      rintro e x9 ⟨rfl, hp⟩
      replace HN := hid_now HN hp
      replace B_g5 := hid_blk B_g5 hp
      replace B_g8 := hid_blk B_g8 hp
      replace B_g10 := hid_blk B_g10 hp
      clear hp
      go_wp2_with fail
      go_ret
      exact ⟨rfl, HN.out⟩
    · skip
      have d0 : decide ((2500 : Int) < (l.length : Int)) = false := decide_eq_false (by omega)
      have KO := Lib.hid (fun W hW => of_ok l (by omega) W hW)
      rw [hx] at KO
      have h0 := seen_no hx
      have d1 : ((r : Int) != 0) = true := by simp [bne]; omega
      have d2 : decide ((0 : Int) < (r : Int)) = true := decide_eq_true (by omega)
      have d3 : decide (0 < r) = true := decide_eq_true h0
      unfold ofV seenZ at KO
      clear hx hl h0
      go_enter Tryz.func4, Tryz.ntmps4
      have HN := Lib.hid (Fp.refl (fun _ => False) w)
      have HT := Lib.hid ht
      go_wp2_with fail
      refine (show Calls _ _ _ _ _ from KO.out _ (HT.out.low HN.out).toP.base).mono ?_
      rintro e x1 ⟨rfl, hp⟩
      replace HN := hid_now HN hp
      clear hp
      go_upto_region 4 with fail
      refine wp_gen (fun x2 hW => ?_)
      have hp := new_now hW
      have hB := new_blk hW
      clear hW
      have hGe := hid_ge HN
      replace HN := hid_now HN hp
      obtain ⟨g5, hg5⟩ : ∃ g5, g5 = x1.heap.size := ⟨_, rfl⟩
      have G_g5 := Lib.hid (Nat.le_trans hGe (Nat.le_of_eq hg5.symm))
      rw [← hg5] at hB ⊢
      have B_g5 := hB
      clear hB hGe hg5
      clear hp
      have cg50 := cell_at B_g5 0 rfl
      have cg51 := cell_at B_g5 1 rfl
      have cg52 := cell_at B_g5 2 rfl
      have cg53 := cell_at B_g5 3 rfl
      have cg54 := cell_at B_g5 4 rfl
      have cg55 := cell_at B_g5 5 rfl
      have cg56 := cell_at B_g5 6 rfl
      have cg57 := cell_at B_g5 7 rfl
      have cg58 := cell_at B_g5 8 rfl
      have zg5 := froz_at B_g5
      have lg5 := hid_lt B_g5
      go_wp2_with fail
      clear cg50 cg51 cg52 cg53 cg54 cg55 cg56 cg57 cg58 zg5 lg5
      refine (show Calls _ _ _ _ _ from watched_ok _ (HT.out.low HN.out)).mono ?_
      rintro e x3 ⟨rfl, hp⟩
      replace HN := hid_now HN hp
      replace B_g5 := hid_blk B_g5 hp
      clear hp
      go_wp2_with fail
      go_ret
      exact ⟨rfl, HN.out⟩
  · skip
    have d0 : decide ((2500 : Int) < (l.length : Int)) = true := decide_eq_true (by omega)
    clear hl
    go_enter Tryz.func4, Tryz.ntmps4
    have HN := Lib.hid (Fp.refl (fun _ => False) w)
    have HT := Lib.hid ht
    go_wp2_with fail
    refine (show Calls _ _ _ _ _ from watched_ok _ (HT.out.low HN.out)).mono ?_
    rintro e x1 ⟨rfl, hp⟩
    replace HN := hid_now HN hp
    clear hp
    go_wp2_with fail
    go_ret
    exact ⟨rfl, HN.out⟩
end Go.Proofs.YtmghjaoodnkjlaaGreatDoor
