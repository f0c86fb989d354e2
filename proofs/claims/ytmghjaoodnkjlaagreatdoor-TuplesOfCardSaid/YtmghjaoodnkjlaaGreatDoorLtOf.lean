/- Chapter 08: TuplesOf (written by gen8y.py). -/
import Derived.Test.YtmghjaoodnkjlaaGreatDoorTq
import Derived.Test.YtmghjaoodnkjlaaGreatDoorTw
import Derived.Test.YtmghjaoodnkjlaaGreatDoorTv
import Derived.Test.YtmghjaoodnkjlaaGreatDoorSees
import Derived.Laws.StructEq
namespace Go.Proofs.YtmghjaoodnkjlaaGreatDoor
set_option linter.unusedVariables false
set_option linter.unusedSimpArgs false
open Go.RowKit Go.Lib Go.Sort
set_option maxHeartbeats 8000000 in
set_option maxRecDepth 100000 in
theorem walk_TuplesOf (w : World) (ht : TbQ w) (v0 : Value) (g0 : Good Tryz.prog w 9 v0) : Calls Tryz.prog 3 #[v0] w (Ret1 (.bool true) w) := by
  obtain ⟨s, rfl, _⟩ := good_string Tryz.underlying9 g0
  obtain ⟨l, rfl, hs⟩ := str_of s
  clear g0 hs
  by_cases hl : l.length ≤ 2500
  · rcases hx : seenOf l with x | r
    · skip
      have d0 : decide ((2500 : Int) < (l.length : Int)) = false := decide_eq_false (by omega)
      have KO := Lib.hid (fun W hW => of_ok l (by omega) W hW)
      have KR := Lib.hid (fun W => rof_ok l (by omega) W)
      rw [hx] at KO KR
      obtain ⟨pr, sr, sp, ds, dp, ki, fl, ask, tt⟩ := x
      unfold ofV seenV at KO KR
      clear hx hl
      go_enter Tryz.func3, Tryz.ntmps3
      have HN := Lib.hid (Fp.refl (fun _ => False) w)
      have HT := Lib.hid ht
      go_wp2_with fail
      refine (show Calls _ _ _ _ _ from KO.out _ (HT.out.low HN.out).toP.base).mono ?_
      rintro e x1 ⟨rfl, hp⟩
      replace HN := hid_now HN hp
      clear hp
      go_wp2_with fail
      refine calls_gen (fun x2 hW => ?_)
      have hp := new_now hW
      have hB := new_blk hW
      clear hW
      have hGe := hid_ge HN
      replace HN := hid_now HN hp
      obtain ⟨g3, hg3⟩ : ∃ g3, g3 = x1.heap.size := ⟨_, rfl⟩
      have G_g3 := Lib.hid (Nat.le_trans hGe (Nat.le_of_eq hg3.symm))
      rw [← hg3] at hB ⊢
      have B_g3 := hB
      clear hB hGe hg3
      clear hp
      refine (show Calls _ _ _ _ _ from KR.out _).mono ?_
      rintro e x3 ⟨rfl, hp⟩
      replace HN := hid_now HN hp
      replace B_g3 := hid_blk B_g3 hp
      clear hp
      go_upto_region 5 with fail
      refine wp_gen (fun x4 hW => ?_)
      have l2g3 := hid_lt B_g3
      have hp := new_now hW
      have hB := new_blk hW
      clear hW
      have hGe := hid_ge HN
      replace HN := hid_now HN hp
      replace B_g3 := hid_blk B_g3 hp
      obtain ⟨g5, hg5⟩ : ∃ g5, g5 = x3.heap.size := ⟨_, rfl⟩
      have G_g5 := Lib.hid (Nat.le_trans hGe (Nat.le_of_eq hg5.symm))
      have n_g3_g5 : ¬ g3 = g5 := by omega
      have n_g5_g3 : ¬ g5 = g3 := by omega
      clear l2g3
      rw [← hg5] at hB ⊢
      have B_g5 := hB
      clear hB hGe hg5
      clear hp
      have cg30 := cell_at B_g3 0 rfl
      have cg31 := cell_at B_g3 1 rfl
      have cg32 := cell_at B_g3 2 rfl
      have cg33 := cell_at B_g3 3 rfl
      have cg34 := cell_at B_g3 4 rfl
      have cg35 := cell_at B_g3 5 rfl
      have cg36 := cell_at B_g3 6 rfl
      have cg37 := cell_at B_g3 7 rfl
      have cg38 := cell_at B_g3 8 rfl
      have zg3 := froz_at B_g3
      have lg3 := hid_lt B_g3
      have cg50 := cell_at B_g5 0 rfl
      have cg51 := cell_at B_g5 1 rfl
      have cg52 := cell_at B_g5 2 rfl
      have cg53 := cell_at B_g5 3 rfl
      have cg54 := cell_at B_g5 4 rfl
      have cg55 := cell_at B_g5 5 rfl
      have cg56 := cell_at B_g5 6 rfl
      have cg57 := cell_at B_g5 7 rfl
      have cg58 := cell_at B_g5 8 rfl
      have zg5 := froz_at B_g5
      have lg5 := hid_lt B_g5
      go_wp2_with fail
      clear cg30 cg31 cg32 cg33 cg34 cg35 cg36 cg37 cg38 zg3 lg3 cg50 cg51 cg52 cg53 cg54 cg55 cg56 cg57 cg58 zg5 lg5
      refine (show Calls _ _ _ _ _ from watched_ok _ (HT.out.low HN.out)).mono ?_
      rintro e x5 ⟨rfl, hp⟩
      replace HN := hid_now HN hp
      replace B_g3 := hid_blk B_g3 hp
      replace B_g5 := hid_blk B_g5 hp
      clear hp
      go_wp2_with fail
      go_ret
      exact ⟨rfl, HN.out⟩
    · skip
      have d0 : decide ((2500 : Int) < (l.length : Int)) = false := decide_eq_false (by omega)
      have KO := Lib.hid (fun W hW => of_ok l (by omega) W hW)
      have KR := Lib.hid (fun W => rof_ok l (by omega) W)
      rw [hx] at KO KR
      unfold ofV seenZ at KO KR
      clear hx hl
      go_enter Tryz.func3, Tryz.ntmps3
      have HN := Lib.hid (Fp.refl (fun _ => False) w)
      have HT := Lib.hid ht
      go_wp2_with fail
      refine (show Calls _ _ _ _ _ from KO.out _ (HT.out.low HN.out).toP.base).mono ?_
      rintro e x1 ⟨rfl, hp⟩
      replace HN := hid_now HN hp
      clear hp
      go_wp2_with fail
      refine calls_gen (fun x2 hW => ?_)
      have hp := new_now hW
      have hB := new_blk hW
      clear hW
      have hGe := hid_ge HN
      replace HN := hid_now HN hp
      obtain ⟨g3, hg3⟩ : ∃ g3, g3 = x1.heap.size := ⟨_, rfl⟩
      have G_g3 := Lib.hid (Nat.le_trans hGe (Nat.le_of_eq hg3.symm))
      rw [← hg3] at hB ⊢
      have B_g3 := hB
      clear hB hGe hg3
      clear hp
      refine (show Calls _ _ _ _ _ from KR.out _).mono ?_
      rintro e x3 ⟨rfl, hp⟩
      replace HN := hid_now HN hp
      replace B_g3 := hid_blk B_g3 hp
      clear hp
      go_upto_region 5 with fail
      refine wp_gen (fun x4 hW => ?_)
      have l2g3 := hid_lt B_g3
      have hp := new_now hW
      have hB := new_blk hW
      clear hW
      have hGe := hid_ge HN
      replace HN := hid_now HN hp
      replace B_g3 := hid_blk B_g3 hp
      obtain ⟨g5, hg5⟩ : ∃ g5, g5 = x3.heap.size := ⟨_, rfl⟩
      have G_g5 := Lib.hid (Nat.le_trans hGe (Nat.le_of_eq hg5.symm))
      have n_g3_g5 : ¬ g3 = g5 := by omega
      have n_g5_g3 : ¬ g5 = g3 := by omega
      clear l2g3
      rw [← hg5] at hB ⊢
      have B_g5 := hB
      clear hB hGe hg5
      clear hp
      have cg30 := cell_at B_g3 0 rfl
      have cg31 := cell_at B_g3 1 rfl
      have cg32 := cell_at B_g3 2 rfl
      have cg33 := cell_at B_g3 3 rfl
      have cg34 := cell_at B_g3 4 rfl
      have cg35 := cell_at B_g3 5 rfl
      have cg36 := cell_at B_g3 6 rfl
      have cg37 := cell_at B_g3 7 rfl
      have cg38 := cell_at B_g3 8 rfl
      have zg3 := froz_at B_g3
      have lg3 := hid_lt B_g3
      have cg50 := cell_at B_g5 0 rfl
      have cg51 := cell_at B_g5 1 rfl
      have cg52 := cell_at B_g5 2 rfl
      have cg53 := cell_at B_g5 3 rfl
      have cg54 := cell_at B_g5 4 rfl
      have cg55 := cell_at B_g5 5 rfl
      have cg56 := cell_at B_g5 6 rfl
      have cg57 := cell_at B_g5 7 rfl
      have cg58 := cell_at B_g5 8 rfl
      have zg5 := froz_at B_g5
      have lg5 := hid_lt B_g5
      go_wp2_with fail
      clear cg30 cg31 cg32 cg33 cg34 cg35 cg36 cg37 cg38 zg3 lg3 cg50 cg51 cg52 cg53 cg54 cg55 cg56 cg57 cg58 zg5 lg5
      refine (show Calls _ _ _ _ _ from watched_ok _ (HT.out.low HN.out)).mono ?_
      rintro e x5 ⟨rfl, hp⟩
      replace HN := hid_now HN hp
      replace B_g3 := hid_blk B_g3 hp
      replace B_g5 := hid_blk B_g5 hp
      clear hp
      go_wp2_with fail
      go_ret
      exact ⟨rfl, HN.out⟩
  · skip
    have d0 : decide ((2500 : Int) < (l.length : Int)) = true := decide_eq_true (by omega)
    clear hl
    go_enter Tryz.func3, Tryz.ntmps3
    have HN := Lib.hid (Fp.refl (fun _ => False) w)
    have HT := Lib.hid ht
    go_wp2_with fail
    refine (show Calls _ _ _ _ _ from watched_ok _ (HT.out.low HN.out)).mono ?_
    rintro e x1 ⟨rfl, hp⟩
    replace HN := hid_now HN hp
    clear hp
    go_wp2_with fail
    go_ret
    exact ⟨rfl, HN.out⟩
end Go.Proofs.YtmghjaoodnkjlaaGreatDoor
