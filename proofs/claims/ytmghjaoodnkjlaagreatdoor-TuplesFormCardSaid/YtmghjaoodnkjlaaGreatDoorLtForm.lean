/- Chapter 08: TuplesForm (written by gen8y.py). -/
import Derived.Test.YtmghjaoodnkjlaaGreatDoorTq
import Derived.Test.YtmghjaoodnkjlaaGreatDoorTw
import Derived.Test.YtmghjaoodnkjlaaGreatDoorTk
import Derived.Test.YtmghjaoodnkjlaaGreatDoorSees
import Derived.Laws.StructEq
namespace Go.Proofs.YtmghjaoodnkjlaaGreatDoor
set_option linter.unusedVariables false
set_option linter.unusedSimpArgs false
open Go.RowKit Go.Lib Go.Sort
set_option maxHeartbeats 8000000 in
set_option maxRecDepth 100000 in
theorem walk_TuplesForm (w : World) (ht : TbQ w) (v0 : Value) (g0 : Good Tryz.prog w 9 v0) : Calls Tryz.prog 5 #[v0] w (Ret1 (.bool true) w) := by
  obtain ⟨s, rfl, _⟩ := good_string Tryz.underlying9 g0
  obtain ⟨l, rfl, hs⟩ := str_of s
  clear g0 hs
  by_cases hl : l.length ≤ 200
  · rcases hx : tupOf l with _ | x
    · skip
      have d0 : decide ((200 : Int) < (l.length : Int)) = false := decide_eq_false (by omega)
      have KO := Lib.hid (fun W hW => tup_parse l (by omega) W hW)
      rw [hx] at KO
      unfold tupRV at KO
      clear hx hl
      go_enter Tryz.func5, Tryz.ntmps5
      have HN := Lib.hid (Fp.refl (fun _ => False) w)
      have HT := Lib.hid ht
      go_wp2_with fail
      refine (show Calls _ _ _ _ _ from KO.out _ (HT.out.low HN.out)).mono ?_
      rintro e x1 ⟨rfl, hp⟩
      replace HN := hid_now HN hp
      clear hp
      go_upto_region 4 with fail
      refine wp_gen (fun x2 hW => ?_)
      have hp := new_now hW
      have hB := new_blk hW
      clear hW
      have hGe := hid_ge HN
      replace HN := hid_now HN hp
      obtain ⟨g3, hg3⟩ : ∃ g3, g3 = x1.heap.size := ⟨_, rfl⟩
      have G_g3 := Lib.hid (Nat.le_trans hGe (Nat.le_of_eq hg3.symm))
      rw [← hg3] at hB ⊢
      have B_g3 := hB
      clear hB hGe hg3
      clear hp
      have cg30 := cell_at B_g3 0 rfl
      have cg31 := cell_at B_g3 1 rfl
      have cg32 := cell_at B_g3 2 rfl
      have cg33 := cell_at B_g3 3 rfl
      have cg34 := cell_at B_g3 4 rfl
      have zg3 := froz_at B_g3
      have lg3 := hid_lt B_g3
      go_wp2_with fail
      clear cg30 cg31 cg32 cg33 cg34 zg3 lg3
      refine (show Calls _ _ _ _ _ from watched_ok _ (HT.out.low HN.out)).mono ?_
      rintro e x3 ⟨rfl, hp⟩
      replace HN := hid_now HN hp
      replace B_g3 := hid_blk B_g3 hp
      clear hp
      go_wp2_with fail
      go_ret
      exact ⟨rfl, HN.out⟩
    · skip
      have d0 : decide ((200 : Int) < (l.length : Int)) = false := decide_eq_false (by omega)
      have KO := Lib.hid (fun W hW => tup_parse l (by omega) W hW)
      rw [hx] at KO
      unfold tupRV at KO
      obtain ⟨k, a, p, b, q⟩ := x
      obtain ⟨e1, e2, e3, e4, e5, e6⟩ := tupOf_some.1 hx
      have KM := Lib.hid (fun W hW => tup_ok k a p b q (by have := of_decide_eq_true (tupB_word e2); omega) W hW)
      have KT := Lib.hid (fun W hW => tup_text k a p b q (by have := of_decide_eq_true (tupB_word e2); omega) e3 (by omega) e5 (by omega) e2 W hW)
      rw [e2] at KM
      rw [← e1] at KT
      clear e1 e2 e3 e4 e5 e6
      skip
      clear hx hl
      go_enter Tryz.func5, Tryz.ntmps5
      have HN := Lib.hid (Fp.refl (fun _ => False) w)
      have HT := Lib.hid ht
      go_wp2_with fail
      refine (show Calls _ _ _ _ _ from KO.out _ (HT.out.low HN.out)).mono ?_
      rintro e x1 ⟨rfl, hp⟩
      replace HN := hid_now HN hp
      clear hp
      go_upto_region 4 with fail
      refine wp_gen (fun x2 hW => ?_)
      have hp := new_now hW
      have hB := new_blk hW
      clear hW
      have hGe := hid_ge HN
      replace HN := hid_now HN hp
      obtain ⟨g3, hg3⟩ : ∃ g3, g3 = x1.heap.size := ⟨_, rfl⟩
      have G_g3 := Lib.hid (Nat.le_trans hGe (Nat.le_of_eq hg3.symm))
      rw [← hg3] at hB ⊢
      have B_g3 := hB
      clear hB hGe hg3
      clear hp
      have cg30 := cell_at B_g3 0 rfl
      have cg31 := cell_at B_g3 1 rfl
      have cg32 := cell_at B_g3 2 rfl
      have cg33 := cell_at B_g3 3 rfl
      have cg34 := cell_at B_g3 4 rfl
      have zg3 := froz_at B_g3
      have lg3 := hid_lt B_g3
      go_wp2_with fail
      clear cg30 cg31 cg32 cg33 cg34 zg3 lg3
      refine (show Calls _ _ _ _ _ from KM.out _ (HT.out.low HN.out).toP.base).mono ?_
      rintro e x3 ⟨rfl, hp⟩
      replace HN := hid_now HN hp
      replace B_g3 := hid_blk B_g3 hp
      clear hp
      have cg30 := cell_at B_g3 0 rfl
      have cg31 := cell_at B_g3 1 rfl
      have cg32 := cell_at B_g3 2 rfl
      have cg33 := cell_at B_g3 3 rfl
      have cg34 := cell_at B_g3 4 rfl
      have zg3 := froz_at B_g3
      have lg3 := hid_lt B_g3
      go_wp2_with fail
      clear cg30 cg31 cg32 cg33 cg34 zg3 lg3
      refine (show Calls _ _ _ _ _ from KT.out _ (HT.out.low HN.out).toP.base).mono ?_
      rintro e x4 ⟨rfl, hp⟩
      replace HN := hid_now HN hp
      replace B_g3 := hid_blk B_g3 hp
      clear hp
      go_wp2_with fail
      refine (show Calls _ _ _ _ _ from watched_ok _ (HT.out.low HN.out)).mono ?_
      rintro e x5 ⟨rfl, hp⟩
      replace HN := hid_now HN hp
      replace B_g3 := hid_blk B_g3 hp
      clear hp
      go_wp2_with fail
      go_ret
      exact ⟨rfl, HN.out⟩
  · skip
    have d0 : decide ((200 : Int) < (l.length : Int)) = true := decide_eq_true (by omega)
    clear hl
    go_enter Tryz.func5, Tryz.ntmps5
    have HN := Lib.hid (Fp.refl (fun _ => False) w)
    have HT := Lib.hid ht
    go_wp2_with fail
    refine (show Calls _ _ _ _ _ from watched_ok _ (HT.out.low HN.out)).mono ?_
    rintro e x1 ⟨rfl, hp⟩
    replace HN := hid_now HN hp
    clear hp
    go_wp2_with fail
    go_ret
    exact ⟨rfl, HN.out⟩
end Go.Proofs.YtmghjaoodnkjlaaGreatDoor
