/- Next for all flows; the document's Next (written by gennext2.py). -/
import Derived.Test.YtdmbjndhdldggaaDoorEtC
import Derived.Test.YtdmbjndhdldggaaDoorEtD
namespace Go.Proofs.YtdmbjndhdldggaaDoor
set_option linter.unusedVariables false
set_option linter.unusedSimpArgs false
open Go.RowKit Go.Lib Go.Sort
theorem toN3 {s : Int} (h : toN 3 s ≠ 0) : 1 ≤ s ∧ s ≤ 7 := by
  unfold toN at h
  split at h
  · rename_i hs
    refine ⟨?_, hs.2⟩
    by_cases h0 : s = 0
    · subst h0; exact absurd rfl h
    · omega
  · exact absurd rfl h
set_option maxHeartbeats 1000000 in
theorem next_three (s : Int) (bk : Bool) (fl : Nat) (hfl : fl < 256) (w : World) (ht : Tb w) :
    Calls Tryd.prog 45 #[.int .i64 3, .int .i64 s, .bool bk, .int .u8 fl] w (Ret1 (.int .i64 (nextN 3 s bk fl)) w) := by
  have k := fun W hW => tmay_ok 3 (by decide) s W hW
  have hnn := toN_nonneg 3 (by decide) s
  have Ht := Lib.hid ht
  clear ht
  unfold nextN
  by_cases hz : toN 3 s = 0
  · rw [if_pos hz]
    rw [show decide (0 < toN 3 s) = false from decide_eq_false (by omega)] at k
    have K := Lib.hid k
    clear k hz hnn
    go_enter Tryd.func45, Tryd.ntmps45
    go_wp2_with fail
    have hn : NoW w (w.alloc (.cells #[.bool bk, .int .u8 fl] 110)) := (Fp.refl _ _).alloc _
    refine (K.out _ (Ht.out.low hn)).mono ?_
    rintro e w' ⟨rfl, rfl⟩
    go_wp2_with fail
    go_ret
    exact ⟨rfl, hn⟩
  · rw [if_neg hz, if_pos rfl]
    have hs := toN3 hz
    rw [show decide (0 < toN 3 s) = true from decide_eq_true (by omega)] at k
    have kt := fun W => tracked_ok s hs bk fl hfl W
    have K := Lib.hid k
    have KT := Lib.hid kt
    generalize trackN s bk fl = tn at *
    clear k kt hz hnn hs hfl
    go_enter Tryd.func45, Tryd.ntmps45
    go_wp2_with fail
    have hn : NoW w (w.alloc (.cells #[.bool bk, .int .u8 fl] 110)) := (Fp.refl _ _).alloc _
    refine (K.out _ (Ht.out.low hn)).mono ?_
    rintro e w' ⟨rfl, rfl⟩
    go_wp2_with fail
    refine (KT.out _).mono ?_
    rintro e v ⟨rfl, hp⟩
    have Hn := Lib.hid (hn.trans hp (fun _ _ h => h))
    clear hp hn
    go_wp2_with fail
    go_ret
    exact ⟨rfl, Hn.out⟩
theorem next_all (f : Nat) (hf : f < 4) (s : Int) (bk : Bool) (fl : Nat) (hfl : fl < 256) (w : World) (ht : Tb w) :
    Calls Tryd.prog 45 #[.int .i64 f, .int .i64 s, .bool bk, .int .u8 fl] w (Ret1 (.int .i64 (nextN f s bk fl)) w) := by
  by_cases h3 : f = 3
  · subst h3
    exact next_three s bk fl hfl w ht
  · have h := next_ok f hf h3 s bk fl w ht
    have hnn := toN_nonneg f hf s
    have e : (if 0 < toN f s then (if bk = true then (2 : Int) else s) else 0) = nextN f s bk fl := by
      unfold nextN
      by_cases hz : toN f s = 0
      · rw [if_pos hz, if_neg (by omega)]
      · rw [if_neg hz, if_pos (by omega), if_neg h3]
    rw [e] at h
    exact h

set_option maxHeartbeats 8000000 in
theorem rnext_ok (f : Nat) (hf : f < 4) (s : Int) (bk : Bool) (fl : Nat) (hfl : fl < 256) (w : World) :
    Calls Tryd.prog 48 #[.int .i64 f, .int .i64 s, .bool bk, .int .u8 fl] w fun e w' => e = .returned (.int .i64 (nextN f s bk fl)) ∧ w' = w := by
  have kt := fun W => rtimeout_ok f hf s W
  have f4 := fun W => flag_ok fl 4 hfl (by omega) W
  have f1 := fun W => flag_ok fl 1 hfl (by omega) W
  have f2 := fun W => flag_ok fl 2 hfl (by omega) W
  have f16 := fun W => flag_ok fl 16 hfl (by omega) W
  unfold nextN
  by_cases hz : toN f s = 0
  · rw [if_pos hz]
    rw [hz] at kt
    clear hz hf hfl
    have F4 := Lib.hid f4
    have F1 := Lib.hid f1
    have F2 := Lib.hid f2
    have F16 := Lib.hid f16
    have KT := Lib.hid kt
    clear f4 f1 f2 f16 kt
    go_enter Tryd.func48, Tryd.ntmps48
    go_wp2_with fail
    refine (KT.out _).mono ?_
    rintro e v ⟨rfl, rfl⟩
    go_wp2_with fail
    go_ret
    exact ⟨rfl, rfl⟩
  · rw [if_neg hz]
    by_cases h3 : f = 3
    · rw [if_pos h3]
      have e3 : decide ((f : Int) < 3) = false := decide_eq_false (by omega)
      have hs : 1 ≤ s ∧ s ≤ 7 := toN3 (h3 ▸ hz)
      have hz2 : (toN f s == 0) = false := beq_eq_false_iff_ne.2 hz
      generalize toN f s = tm at *
      clear hz h3 hf hfl
      unfold trackN
      rcases h4 : tflag fl 4 with _ | _
      · rw [h4] at f4
        simp only [Bool.false_eq_true, if_false]
        by_cases h7 : s = 7
        · rw [if_pos h7]
          have e7 : (s == 7) = true := by rw [h7]; rfl
          clear h4 h7 hs
          have F4 := Lib.hid f4
          have F1 := Lib.hid f1
          have F2 := Lib.hid f2
          have F16 := Lib.hid f16
          have KT := Lib.hid kt
          clear f4 f1 f2 f16 kt
          go_enter Tryd.func48, Tryd.ntmps48
          go_wp2_with fail
          refine (KT.out _).mono ?_
          rintro e v ⟨rfl, rfl⟩
          go_wp2_with fail
          refine (F4.out _).mono ?_
          rintro e v ⟨rfl, rfl⟩
          go_wp2_with fail
          go_ret
          exact ⟨rfl, rfl⟩
        · rw [if_neg h7]
          have e7 : (s == 7) = false := beq_eq_false_iff_ne.2 h7
          rcases h1 : tflag fl 1 with _ | _
          · rw [h1] at f1
            simp only [Bool.false_eq_true, if_false]
            clear h4 h1
            by_cases s1 : s = 1
            · have es : (s == 1) = true := by rw [s1]; rfl
              have es2 : (s == 2) = false := by rw [s1]; rfl
              rcases bk with _ | _
              · rw [if_neg (by simp), if_neg (by omega)]
                clear h7 hs s1
                have F4 := Lib.hid f4
                have F1 := Lib.hid f1
                have F2 := Lib.hid f2
                have F16 := Lib.hid f16
                have KT := Lib.hid kt
                clear f4 f1 f2 f16 kt
                go_enter Tryd.func48, Tryd.ntmps48
                go_wp2_with fail
                refine (KT.out _).mono ?_
                rintro e v ⟨rfl, rfl⟩
                go_wp2_with fail
                refine (F4.out _).mono ?_
                rintro e v ⟨rfl, rfl⟩
                go_wp2_with fail
                refine (F1.out _).mono ?_
                rintro e v ⟨rfl, rfl⟩
                go_wp2_with fail
                go_ret
                exact ⟨rfl, rfl⟩
              · rcases h2 : tflag fl 2 with _ | _
                · rw [if_neg (by simp), if_neg (by omega)]
                  rw [h2] at f2
                  clear h7 hs s1 h2
                  have F4 := Lib.hid f4
                  have F1 := Lib.hid f1
                  have F2 := Lib.hid f2
                  have F16 := Lib.hid f16
                  have KT := Lib.hid kt
                  clear f4 f1 f2 f16 kt
                  go_enter Tryd.func48, Tryd.ntmps48
                  go_wp2_with fail
                  refine (KT.out _).mono ?_
                  rintro e v ⟨rfl, rfl⟩
                  go_wp2_with fail
                  refine (F4.out _).mono ?_
                  rintro e v ⟨rfl, rfl⟩
                  go_wp2_with fail
                  refine (F1.out _).mono ?_
                  rintro e v ⟨rfl, rfl⟩
                  go_wp2_with fail
                  refine (F2.out _).mono ?_
                  rintro e v ⟨rfl, rfl⟩
                  go_wp2_with fail
                  go_ret
                  exact ⟨rfl, rfl⟩
                · rw [if_pos ⟨s1, rfl, rfl⟩]
                  rw [h2] at f2
                  clear h7 hs s1 h2
                  have F4 := Lib.hid f4
                  have F1 := Lib.hid f1
                  have F2 := Lib.hid f2
                  have F16 := Lib.hid f16
                  have KT := Lib.hid kt
                  clear f4 f1 f2 f16 kt
                  go_enter Tryd.func48, Tryd.ntmps48
                  go_wp2_with fail
                  refine (KT.out _).mono ?_
                  rintro e v ⟨rfl, rfl⟩
                  go_wp2_with fail
                  refine (F4.out _).mono ?_
                  rintro e v ⟨rfl, rfl⟩
                  go_wp2_with fail
                  refine (F1.out _).mono ?_
                  rintro e v ⟨rfl, rfl⟩
                  go_wp2_with fail
                  refine (F2.out _).mono ?_
                  rintro e v ⟨rfl, rfl⟩
                  go_wp2_with fail
                  go_ret
                  exact ⟨rfl, rfl⟩
            · have es : (s == 1) = false := beq_eq_false_iff_ne.2 s1
              rw [if_neg (fun h => s1 h.1)]
              by_cases s2 : s = 2
              · have es2 : (s == 2) = true := by rw [s2]; rfl
                rcases bk with _ | _
                · rcases h16 : tflag fl 16 with _ | _
                  · rw [if_neg (by simp)]
                    rw [h16] at f16
                    clear h7 hs s1 s2 h16
                    have F4 := Lib.hid f4
                    have F1 := Lib.hid f1
                    have F2 := Lib.hid f2
                    have F16 := Lib.hid f16
                    have KT := Lib.hid kt
                    clear f4 f1 f2 f16 kt
                    go_enter Tryd.func48, Tryd.ntmps48
                    go_wp2_with fail
                    refine (KT.out _).mono ?_
                    rintro e v ⟨rfl, rfl⟩
                    go_wp2_with fail
                    refine (F4.out _).mono ?_
                    rintro e v ⟨rfl, rfl⟩
                    go_wp2_with fail
                    refine (F1.out _).mono ?_
                    rintro e v ⟨rfl, rfl⟩
                    go_wp2_with fail
                    refine (F16.out _).mono ?_
                    rintro e v ⟨rfl, rfl⟩
                    go_wp2_with fail
                    go_ret
                    exact ⟨rfl, rfl⟩
                  · rcases h2 : tflag fl 2 with _ | _
                    · rw [if_pos ⟨s2, rfl, rfl, rfl⟩]
                      rw [h16] at f16
                      rw [h2] at f2
                      clear h7 hs s1 s2 h16 h2
                      have F4 := Lib.hid f4
                      have F1 := Lib.hid f1
                      have F2 := Lib.hid f2
                      have F16 := Lib.hid f16
                      have KT := Lib.hid kt
                      clear f4 f1 f2 f16 kt
                      go_enter Tryd.func48, Tryd.ntmps48
                      go_wp2_with fail
                      refine (KT.out _).mono ?_
                      rintro e v ⟨rfl, rfl⟩
                      go_wp2_with fail
                      refine (F4.out _).mono ?_
                      rintro e v ⟨rfl, rfl⟩
                      go_wp2_with fail
                      refine (F1.out _).mono ?_
                      rintro e v ⟨rfl, rfl⟩
                      go_wp2_with fail
                      refine (F16.out _).mono ?_
                      rintro e v ⟨rfl, rfl⟩
                      go_wp2_with fail
                      refine (F2.out _).mono ?_
                      rintro e v ⟨rfl, rfl⟩
                      go_wp2_with fail
                      go_ret
                      exact ⟨rfl, rfl⟩
                    · rw [if_neg (by simp)]
                      rw [h16] at f16
                      rw [h2] at f2
                      clear h7 hs s1 s2 h16 h2
                      have F4 := Lib.hid f4
                      have F1 := Lib.hid f1
                      have F2 := Lib.hid f2
                      have F16 := Lib.hid f16
                      have KT := Lib.hid kt
                      clear f4 f1 f2 f16 kt
                      go_enter Tryd.func48, Tryd.ntmps48
                      go_wp2_with fail
                      refine (KT.out _).mono ?_
                      rintro e v ⟨rfl, rfl⟩
                      go_wp2_with fail
                      refine (F4.out _).mono ?_
                      rintro e v ⟨rfl, rfl⟩
                      go_wp2_with fail
                      refine (F1.out _).mono ?_
                      rintro e v ⟨rfl, rfl⟩
                      go_wp2_with fail
                      refine (F16.out _).mono ?_
                      rintro e v ⟨rfl, rfl⟩
                      go_wp2_with fail
                      refine (F2.out _).mono ?_
                      rintro e v ⟨rfl, rfl⟩
                      go_wp2_with fail
                      go_ret
                      exact ⟨rfl, rfl⟩
                · rw [if_neg (by simp)]
                  clear h7 hs s1 s2
                  have F4 := Lib.hid f4
                  have F1 := Lib.hid f1
                  have F2 := Lib.hid f2
                  have F16 := Lib.hid f16
                  have KT := Lib.hid kt
                  clear f4 f1 f2 f16 kt
                  go_enter Tryd.func48, Tryd.ntmps48
                  go_wp2_with fail
                  refine (KT.out _).mono ?_
                  rintro e v ⟨rfl, rfl⟩
                  go_wp2_with fail
                  refine (F4.out _).mono ?_
                  rintro e v ⟨rfl, rfl⟩
                  go_wp2_with fail
                  refine (F1.out _).mono ?_
                  rintro e v ⟨rfl, rfl⟩
                  go_wp2_with fail
                  go_ret
                  exact ⟨rfl, rfl⟩
              · have es2 : (s == 2) = false := beq_eq_false_iff_ne.2 s2
                rw [if_neg (fun h => s2 h.1)]
                clear h7 hs s1 s2
                have F4 := Lib.hid f4
                have F1 := Lib.hid f1
                have F2 := Lib.hid f2
                have F16 := Lib.hid f16
                have KT := Lib.hid kt
                clear f4 f1 f2 f16 kt
                go_enter Tryd.func48, Tryd.ntmps48
                go_wp2_with fail
                refine (KT.out _).mono ?_
                rintro e v ⟨rfl, rfl⟩
                go_wp2_with fail
                refine (F4.out _).mono ?_
                rintro e v ⟨rfl, rfl⟩
                go_wp2_with fail
                refine (F1.out _).mono ?_
                rintro e v ⟨rfl, rfl⟩
                go_wp2_with fail
                go_ret
                exact ⟨rfl, rfl⟩
          · rw [h1] at f1
            rw [if_pos rfl]
            have hs' : s = 1 ∨ s = 2 ∨ s = 3 ∨ s = 4 ∨ s = 5 ∨ s = 6 := by omega
            clear h4 h1 hs h7 e7
            rcases hs' with rfl | rfl | rfl | rfl | rfl | rfl <;> rcases bk with _ | _
            · rw [show endsN 1 false = 4 by decide]
              have F4 := Lib.hid f4
              have F1 := Lib.hid f1
              have F2 := Lib.hid f2
              have F16 := Lib.hid f16
              have KT := Lib.hid kt
              clear f4 f1 f2 f16 kt
              go_enter Tryd.func48, Tryd.ntmps48
              go_wp2_with fail
              refine (KT.out _).mono ?_
              rintro e v ⟨rfl, rfl⟩
              go_wp2_with fail
              refine (F4.out _).mono ?_
              rintro e v ⟨rfl, rfl⟩
              go_wp2_with fail
              refine (F1.out _).mono ?_
              rintro e v ⟨rfl, rfl⟩
              go_wp2_with fail
              go_ret
              exact ⟨rfl, rfl⟩
            · rw [show endsN 1 true = 5 by decide]
              have F4 := Lib.hid f4
              have F1 := Lib.hid f1
              have F2 := Lib.hid f2
              have F16 := Lib.hid f16
              have KT := Lib.hid kt
              clear f4 f1 f2 f16 kt
              go_enter Tryd.func48, Tryd.ntmps48
              go_wp2_with fail
              refine (KT.out _).mono ?_
              rintro e v ⟨rfl, rfl⟩
              go_wp2_with fail
              refine (F4.out _).mono ?_
              rintro e v ⟨rfl, rfl⟩
              go_wp2_with fail
              refine (F1.out _).mono ?_
              rintro e v ⟨rfl, rfl⟩
              go_wp2_with fail
              go_ret
              exact ⟨rfl, rfl⟩
            · rw [show endsN 2 false = 4 by decide]
              have F4 := Lib.hid f4
              have F1 := Lib.hid f1
              have F2 := Lib.hid f2
              have F16 := Lib.hid f16
              have KT := Lib.hid kt
              clear f4 f1 f2 f16 kt
              go_enter Tryd.func48, Tryd.ntmps48
              go_wp2_with fail
              refine (KT.out _).mono ?_
              rintro e v ⟨rfl, rfl⟩
              go_wp2_with fail
              refine (F4.out _).mono ?_
              rintro e v ⟨rfl, rfl⟩
              go_wp2_with fail
              refine (F1.out _).mono ?_
              rintro e v ⟨rfl, rfl⟩
              go_wp2_with fail
              go_ret
              exact ⟨rfl, rfl⟩
            · rw [show endsN 2 true = 5 by decide]
              have F4 := Lib.hid f4
              have F1 := Lib.hid f1
              have F2 := Lib.hid f2
              have F16 := Lib.hid f16
              have KT := Lib.hid kt
              clear f4 f1 f2 f16 kt
              go_enter Tryd.func48, Tryd.ntmps48
              go_wp2_with fail
              refine (KT.out _).mono ?_
              rintro e v ⟨rfl, rfl⟩
              go_wp2_with fail
              refine (F4.out _).mono ?_
              rintro e v ⟨rfl, rfl⟩
              go_wp2_with fail
              refine (F1.out _).mono ?_
              rintro e v ⟨rfl, rfl⟩
              go_wp2_with fail
              go_ret
              exact ⟨rfl, rfl⟩
            · rw [show endsN 3 false = 4 by decide]
              have F4 := Lib.hid f4
              have F1 := Lib.hid f1
              have F2 := Lib.hid f2
              have F16 := Lib.hid f16
              have KT := Lib.hid kt
              clear f4 f1 f2 f16 kt
              go_enter Tryd.func48, Tryd.ntmps48
              go_wp2_with fail
              refine (KT.out _).mono ?_
              rintro e v ⟨rfl, rfl⟩
              go_wp2_with fail
              refine (F4.out _).mono ?_
              rintro e v ⟨rfl, rfl⟩
              go_wp2_with fail
              refine (F1.out _).mono ?_
              rintro e v ⟨rfl, rfl⟩
              go_wp2_with fail
              go_ret
              exact ⟨rfl, rfl⟩
            · rw [show endsN 3 true = 5 by decide]
              have F4 := Lib.hid f4
              have F1 := Lib.hid f1
              have F2 := Lib.hid f2
              have F16 := Lib.hid f16
              have KT := Lib.hid kt
              clear f4 f1 f2 f16 kt
              go_enter Tryd.func48, Tryd.ntmps48
              go_wp2_with fail
              refine (KT.out _).mono ?_
              rintro e v ⟨rfl, rfl⟩
              go_wp2_with fail
              refine (F4.out _).mono ?_
              rintro e v ⟨rfl, rfl⟩
              go_wp2_with fail
              refine (F1.out _).mono ?_
              rintro e v ⟨rfl, rfl⟩
              go_wp2_with fail
              go_ret
              exact ⟨rfl, rfl⟩
            · rw [show endsN 4 false = 4 by decide]
              have F4 := Lib.hid f4
              have F1 := Lib.hid f1
              have F2 := Lib.hid f2
              have F16 := Lib.hid f16
              have KT := Lib.hid kt
              clear f4 f1 f2 f16 kt
              go_enter Tryd.func48, Tryd.ntmps48
              go_wp2_with fail
              refine (KT.out _).mono ?_
              rintro e v ⟨rfl, rfl⟩
              go_wp2_with fail
              refine (F4.out _).mono ?_
              rintro e v ⟨rfl, rfl⟩
              go_wp2_with fail
              refine (F1.out _).mono ?_
              rintro e v ⟨rfl, rfl⟩
              go_wp2_with fail
              go_ret
              exact ⟨rfl, rfl⟩
            · rw [show endsN 4 true = 6 by decide]
              have F4 := Lib.hid f4
              have F1 := Lib.hid f1
              have F2 := Lib.hid f2
              have F16 := Lib.hid f16
              have KT := Lib.hid kt
              clear f4 f1 f2 f16 kt
              go_enter Tryd.func48, Tryd.ntmps48
              go_wp2_with fail
              refine (KT.out _).mono ?_
              rintro e v ⟨rfl, rfl⟩
              go_wp2_with fail
              refine (F4.out _).mono ?_
              rintro e v ⟨rfl, rfl⟩
              go_wp2_with fail
              refine (F1.out _).mono ?_
              rintro e v ⟨rfl, rfl⟩
              go_wp2_with fail
              go_ret
              exact ⟨rfl, rfl⟩
            · rw [show endsN 5 false = 6 by decide]
              have F4 := Lib.hid f4
              have F1 := Lib.hid f1
              have F2 := Lib.hid f2
              have F16 := Lib.hid f16
              have KT := Lib.hid kt
              clear f4 f1 f2 f16 kt
              go_enter Tryd.func48, Tryd.ntmps48
              go_wp2_with fail
              refine (KT.out _).mono ?_
              rintro e v ⟨rfl, rfl⟩
              go_wp2_with fail
              refine (F4.out _).mono ?_
              rintro e v ⟨rfl, rfl⟩
              go_wp2_with fail
              refine (F1.out _).mono ?_
              rintro e v ⟨rfl, rfl⟩
              go_wp2_with fail
              go_ret
              exact ⟨rfl, rfl⟩
            · rw [show endsN 5 true = 5 by decide]
              have F4 := Lib.hid f4
              have F1 := Lib.hid f1
              have F2 := Lib.hid f2
              have F16 := Lib.hid f16
              have KT := Lib.hid kt
              clear f4 f1 f2 f16 kt
              go_enter Tryd.func48, Tryd.ntmps48
              go_wp2_with fail
              refine (KT.out _).mono ?_
              rintro e v ⟨rfl, rfl⟩
              go_wp2_with fail
              refine (F4.out _).mono ?_
              rintro e v ⟨rfl, rfl⟩
              go_wp2_with fail
              refine (F1.out _).mono ?_
              rintro e v ⟨rfl, rfl⟩
              go_wp2_with fail
              go_ret
              exact ⟨rfl, rfl⟩
            · rw [show endsN 6 false = 6 by decide]
              have F4 := Lib.hid f4
              have F1 := Lib.hid f1
              have F2 := Lib.hid f2
              have F16 := Lib.hid f16
              have KT := Lib.hid kt
              clear f4 f1 f2 f16 kt
              go_enter Tryd.func48, Tryd.ntmps48
              go_wp2_with fail
              refine (KT.out _).mono ?_
              rintro e v ⟨rfl, rfl⟩
              go_wp2_with fail
              refine (F4.out _).mono ?_
              rintro e v ⟨rfl, rfl⟩
              go_wp2_with fail
              refine (F1.out _).mono ?_
              rintro e v ⟨rfl, rfl⟩
              go_wp2_with fail
              go_ret
              exact ⟨rfl, rfl⟩
            · rw [show endsN 6 true = 6 by decide]
              have F4 := Lib.hid f4
              have F1 := Lib.hid f1
              have F2 := Lib.hid f2
              have F16 := Lib.hid f16
              have KT := Lib.hid kt
              clear f4 f1 f2 f16 kt
              go_enter Tryd.func48, Tryd.ntmps48
              go_wp2_with fail
              refine (KT.out _).mono ?_
              rintro e v ⟨rfl, rfl⟩
              go_wp2_with fail
              refine (F4.out _).mono ?_
              rintro e v ⟨rfl, rfl⟩
              go_wp2_with fail
              refine (F1.out _).mono ?_
              rintro e v ⟨rfl, rfl⟩
              go_wp2_with fail
              go_ret
              exact ⟨rfl, rfl⟩
      · rw [h4] at f4
        rw [if_pos rfl]
        clear h4 hs
        have F4 := Lib.hid f4
        have F1 := Lib.hid f1
        have F2 := Lib.hid f2
        have F16 := Lib.hid f16
        have KT := Lib.hid kt
        clear f4 f1 f2 f16 kt
        go_enter Tryd.func48, Tryd.ntmps48
        go_wp2_with fail
        refine (KT.out _).mono ?_
        rintro e v ⟨rfl, rfl⟩
        go_wp2_with fail
        refine (F4.out _).mono ?_
        rintro e v ⟨rfl, rfl⟩
        go_wp2_with fail
        go_ret
        exact ⟨rfl, rfl⟩
    · rw [if_neg h3]
      have e3 : decide ((f : Int) < 3) = true := decide_eq_true (by omega)
      have hz2 : (toN f s == 0) = false := beq_eq_false_iff_ne.2 hz
      generalize toN f s = tm at *
      clear hz h3 hf hfl
      rcases bk with _ | _
      · simp only [Bool.false_eq_true, if_false]
        have F4 := Lib.hid f4
        have F1 := Lib.hid f1
        have F2 := Lib.hid f2
        have F16 := Lib.hid f16
        have KT := Lib.hid kt
        clear f4 f1 f2 f16 kt
        go_enter Tryd.func48, Tryd.ntmps48
        go_wp2_with fail
        refine (KT.out _).mono ?_
        rintro e v ⟨rfl, rfl⟩
        go_wp2_with fail
        go_ret
        exact ⟨rfl, rfl⟩
      · rw [if_pos rfl]
        have F4 := Lib.hid f4
        have F1 := Lib.hid f1
        have F2 := Lib.hid f2
        have F16 := Lib.hid f16
        have KT := Lib.hid kt
        clear f4 f1 f2 f16 kt
        go_enter Tryd.func48, Tryd.ntmps48
        go_wp2_with fail
        refine (KT.out _).mono ?_
        rintro e v ⟨rfl, rfl⟩
        go_wp2_with fail
        go_ret
        exact ⟨rfl, rfl⟩
end Go.Proofs.YtdmbjndhdldggaaDoor
