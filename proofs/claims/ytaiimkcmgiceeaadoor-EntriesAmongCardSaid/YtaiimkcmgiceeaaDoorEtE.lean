/- Next for all flows; the document's Next (written by gennext2.py). -/
import Derived.Test.YtaiimkcmgiceeaaDoorEtC
import Derived.Test.YtaiimkcmgiceeaaDoorEtD
namespace Go.Proofs.YtaiimkcmgiceeaaDoor
set_option linter.unusedVariables false
set_option linter.unusedSimpArgs false
open Go.RowKit Go.Lib Go.Sort
theorem toN3 {s : Int} (h : toN 3 s ≠ 0) : 1 ≤ s ∧ s ≤ 7 := by
  unfold toN at h
  split at h
  · rename_i hs
    refine ⟨?_, hs.2⟩
    by_cases h0 : s = 0
    · subst h0; exact absurd rfl h
    · omega
  · exact absurd rfl h
set_option maxHeartbeats 1000000 in
theorem next_three (s : Int) (bk : Bool) (fl : Nat) (hfl : fl < 256) (w : World) (ht : Tb w) :
    Calls Tryd.prog 35 #[.int .i64 3, .int .i64 s, .bool bk, .int .u8 fl] w (Ret1 (.int .i64 (nextN 3 s bk fl)) w) := by
  have k := fun W hW => tmay_ok 3 (by decide) s W hW
  have hnn := toN_nonneg 3 (by decide) s
  have Ht := Lib.hid ht
  clear ht
  unfold nextN
  by_cases hz : toN 3 s = 0
  · rw [if_pos hz]
    rw [show decide (0 < toN 3 s) = false from decide_eq_false (by omega)] at k
    have K := Lib.hid k
    clear k hz hnn
    go_enter Tryd.func35, Tryd.ntmps35
    go_wp2_with fail
    have hn : NoW w (w.alloc (.cells #[.bool bk, .int .u8 fl] 86)) := (Fp.refl _ _).alloc _
    refine (K.out _ (Ht.out.low hn)).mono ?_
    rintro e w' ⟨rfl, rfl⟩
    go_wp2_with fail
    go_ret
    exact ⟨rfl, hn⟩
  · rw [if_neg hz, if_pos rfl]
    have hs := toN3 hz
    rw [show decide (0 < toN 3 s) = true from decide_eq_true (by omega)] at k
    have kt := fun W => tracked_ok s hs bk fl hfl W
    have K := Lib.hid k
    have KT := Lib.hid kt
    generalize trackN s bk fl = tn at *
    clear k kt hz hnn hs hfl
    go_enter Tryd.func35, Tryd.ntmps35
    go_wp2_with fail
    have hn : NoW w (w.alloc (.cells #[.bool bk, .int .u8 fl] 86)) := (Fp.refl _ _).alloc _
    refine (K.out _ (Ht.out.low hn)).mono ?_
    rintro e w' ⟨rfl, rfl⟩
    go_wp2_with fail
    refine (KT.out _).mono ?_
    rintro e v ⟨rfl, hp⟩
    have Hn := Lib.hid (hn.trans hp (fun _ _ h => h))
    clear hp hn
    go_wp2_with fail
    go_ret
    exact ⟨rfl, Hn.out⟩
theorem next_all (f : Nat) (hf : f < 4) (s : Int) (bk : Bool) (fl : Nat) (hfl : fl < 256) (w : World) (ht : Tb w) :
    Calls Tryd.prog 35 #[.int .i64 f, .int .i64 s, .bool bk, .int .u8 fl] w (Ret1 (.int .i64 (nextN f s bk fl)) w) := by
  by_cases h3 : f = 3
  · subst h3
    exact next_three s bk fl hfl w ht
  · have h := next_ok f hf h3 s bk fl w ht
    have hnn := toN_nonneg f hf s
    have e : (if 0 < toN f s then (if bk = true then (2 : Int) else s) else 0) = nextN f s bk fl := by
      unfold nextN
      by_cases hz : toN f s = 0
      · rw [if_pos hz, if_neg (by omega)]
      · rw [if_neg hz, if_pos (by omega), if_neg h3]
    rw [e] at h
    exact h

end Go.Proofs.YtaiimkcmgiceeaaDoor
