/- Next, of the program and of the document (written by gennext.py). -/
import Derived.Test.YtaiimkcmgiceeaaDoorEtA
import Derived.Test.YtaiimkcmgiceeaaDoorEnL
namespace Go.Proofs.YtaiimkcmgiceeaaDoor
set_option linter.unusedVariables false
set_option linter.unusedSimpArgs false
open Go.RowKit Go.Lib Go.Sort

/-- The state behind a packet. -/
def endsN (s : Int) (bk : Bool) : Int := if s = 6 ∨ (s = 5 ∧ bk = false) ∨ (s = 4 ∧ bk = true) then 6 else if bk = true then 5 else 4
def trackN (s : Int) (bk : Bool) (fl : Nat) : Int :=
  if tflag fl 4 = true then 7 else if s = 7 then 7 else if tflag fl 1 = true then endsN s bk
  else if s = 1 ∧ bk = true ∧ tflag fl 2 = true then 2 else if s = 2 ∧ bk = false ∧ tflag fl 16 = true ∧ tflag fl 2 = false then 3 else s
def nextN (f : Nat) (s : Int) (bk : Bool) (fl : Nat) : Int := if toN f s = 0 then 0 else if f = 3 then trackN s bk fl else if bk = true then 2 else s

set_option maxHeartbeats 2000000 in
theorem ends_ok (s : Int) (hs : 1 ≤ s ∧ s ≤ 6) (bk : Bool) (fl : Nat) (w : World) : Calls Tryd.prog 60 #[.int .i64 s, .agg #[.bool bk, .int .u8 fl]] w (Ret1 (.int .i64 (endsN s bk)) w) := by
  have hs' : s = 1 ∨ s = 2 ∨ s = 3 ∨ s = 4 ∨ s = 5 ∨ s = 6 := by omega
  clear hs
  rcases hs' with rfl | rfl | rfl | rfl | rfl | rfl <;> rcases bk with _ | _
  · rw [show endsN 1 false = 4 by decide]
    go_enter Tryd.func60, Tryd.ntmps60
    go_wp2_with fail
    go_ret
    exact ⟨rfl, (Fp.refl _ _).alloc _⟩
  · rw [show endsN 1 true = 5 by decide]
    go_enter Tryd.func60, Tryd.ntmps60
    go_wp2_with fail
    go_ret
    exact ⟨rfl, (Fp.refl _ _).alloc _⟩
  · rw [show endsN 2 false = 4 by decide]
    go_enter Tryd.func60, Tryd.ntmps60
    go_wp2_with fail
    go_ret
    exact ⟨rfl, (Fp.refl _ _).alloc _⟩
  · rw [show endsN 2 true = 5 by decide]
    go_enter Tryd.func60, Tryd.ntmps60
    go_wp2_with fail
    go_ret
    exact ⟨rfl, (Fp.refl _ _).alloc _⟩
  · rw [show endsN 3 false = 4 by decide]
    go_enter Tryd.func60, Tryd.ntmps60
    go_wp2_with fail
    go_ret
    exact ⟨rfl, (Fp.refl _ _).alloc _⟩
  · rw [show endsN 3 true = 5 by decide]
    go_enter Tryd.func60, Tryd.ntmps60
    go_wp2_with fail
    go_ret
    exact ⟨rfl, (Fp.refl _ _).alloc _⟩
  · rw [show endsN 4 false = 4 by decide]
    go_enter Tryd.func60, Tryd.ntmps60
    go_wp2_with fail
    go_ret
    exact ⟨rfl, (Fp.refl _ _).alloc _⟩
  · rw [show endsN 4 true = 6 by decide]
    go_enter Tryd.func60, Tryd.ntmps60
    go_wp2_with fail
    go_ret
    exact ⟨rfl, (Fp.refl _ _).alloc _⟩
  · rw [show endsN 5 false = 6 by decide]
    go_enter Tryd.func60, Tryd.ntmps60
    go_wp2_with fail
    go_ret
    exact ⟨rfl, (Fp.refl _ _).alloc _⟩
  · rw [show endsN 5 true = 5 by decide]
    go_enter Tryd.func60, Tryd.ntmps60
    go_wp2_with fail
    go_ret
    exact ⟨rfl, (Fp.refl _ _).alloc _⟩
  · rw [show endsN 6 false = 6 by decide]
    go_enter Tryd.func60, Tryd.ntmps60
    go_wp2_with fail
    go_ret
    exact ⟨rfl, (Fp.refl _ _).alloc _⟩
  · rw [show endsN 6 true = 6 by decide]
    go_enter Tryd.func60, Tryd.ntmps60
    go_wp2_with fail
    go_ret
    exact ⟨rfl, (Fp.refl _ _).alloc _⟩

set_option maxHeartbeats 8000000 in
theorem tracked_ok (s : Int) (hs : 1 ≤ s ∧ s ≤ 7) (bk : Bool) (fl : Nat) (hf : fl < 256) (w : World) : Calls Tryd.prog 49 #[.int .i64 s, .agg #[.bool bk, .int .u8 fl]] w (Ret1 (.int .i64 (trackN s bk fl)) w) := by
  obtain ⟨b1, b2, b4, b16⟩ := bits_flag ⟨fl, hf⟩
  have f4 := fun W => has_ok bk fl 4 (tflag fl 4) b4 W
  have f1 := fun W => has_ok bk fl 1 (tflag fl 1) b1 W
  have f2 := fun W => has_ok bk fl 2 (tflag fl 2) b2 W
  have f16 := fun W => has_ok bk fl 16 (tflag fl 16) b16 W
  have ke : ∀ W, 1 ≤ s ∧ s ≤ 6 → Calls Tryd.prog 60 #[.int .i64 s, .agg #[.bool bk, .int .u8 fl]] W (Ret1 (.int .i64 (endsN s bk)) W) := fun W h => ends_ok s h bk fl W
  clear b1 b2 b4 b16 hf
  unfold trackN
  rcases h4 : tflag fl 4 with _ | _
  · rw [h4] at f4
    simp only [Bool.false_eq_true, if_false]
    by_cases h7 : s = 7
    · rw [if_pos h7, ← h7]
      have e7 : (s == 7) = true := by rw [h7]; rfl
      clear h4 h7 hs
      have KE := Lib.hid (show ∀ W : World, True from fun _ => trivial)
      clear ke
      have F4 := Lib.hid f4
      have F1 := Lib.hid f1
      have F2 := Lib.hid f2
      have F16 := Lib.hid f16
      clear f4 f1 f2 f16
      go_enter Tryd.func49, Tryd.ntmps49
      go_wp2_with fail
      have hn0 : NoW w (w.alloc (.cells #[.bool bk, .int .u8 fl] 86)) := (Fp.refl _ _).alloc _
      have hb0 := heap_alloc_new w (.cells #[.bool bk, .int .u8 fl] 86)
      generalize w.alloc (.cells #[.bool bk, .int .u8 fl] 86) = w0 at *
      generalize w.heap.size = g at *
      have Hn := Lib.hid hn0
      have B := Lib.hid hb0
      clear hn0 hb0
      refine (F4.out _).mono ?_
      rintro e v ⟨rfl, hp⟩
      have hn2 := Hn.out.trans hp (fun _ _ h => h)
      have hb2 := (hp.block _ (Array.getElem?_eq_some_iff.1 B.out).1 id).trans B.out
      clear Hn B hp
      have Hn := Lib.hid hn2
      have B := Lib.hid hb2
      clear hn2 hb2
      try clear c0 c1
      have c0 : v.cell? ⟨g, 0, none⟩ = some (.bool bk) := by simp [World.cell?, B.out]
      have c1 : v.cell? ⟨g, 1, none⟩ = some (.int .u8 fl) := by simp [World.cell?, B.out]
      go_wp2_with fail
      go_ret
      exact ⟨rfl, Hn.out⟩
    · rw [if_neg h7]
      have e7 : (s == 7) = false := beq_eq_false_iff_ne.2 h7
      rcases h1 : tflag fl 1 with _ | _
      · rw [h1] at f1
        simp only [Bool.false_eq_true, if_false]
        clear h4 h1
        by_cases s1 : s = 1
        · have es : (s == 1) = true := by rw [s1]; rfl
          have es2 : (s == 2) = false := by rw [s1]; rfl
          rcases bk with _ | _
          · rw [if_neg (by simp), if_neg (by omega)]
            clear h7 hs s1
            have KE := Lib.hid (show ∀ W : World, True from fun _ => trivial)
            clear ke
            have F4 := Lib.hid f4
            have F1 := Lib.hid f1
            have F2 := Lib.hid f2
            have F16 := Lib.hid f16
            clear f4 f1 f2 f16
            go_enter Tryd.func49, Tryd.ntmps49
            go_wp2_with fail
            have hn0 : NoW w (w.alloc (.cells #[.bool false, .int .u8 fl] 86)) := (Fp.refl _ _).alloc _
            have hb0 := heap_alloc_new w (.cells #[.bool false, .int .u8 fl] 86)
            generalize w.alloc (.cells #[.bool false, .int .u8 fl] 86) = w0 at *
            generalize w.heap.size = g at *
            have Hn := Lib.hid hn0
            have B := Lib.hid hb0
            clear hn0 hb0
            refine (F4.out _).mono ?_
            rintro e v ⟨rfl, hp⟩
            have hn2 := Hn.out.trans hp (fun _ _ h => h)
            have hb2 := (hp.block _ (Array.getElem?_eq_some_iff.1 B.out).1 id).trans B.out
            clear Hn B hp
            have Hn := Lib.hid hn2
            have B := Lib.hid hb2
            clear hn2 hb2
            try clear c0 c1
            have c0 : v.cell? ⟨g, 0, none⟩ = some (.bool false) := by simp [World.cell?, B.out]
            have c1 : v.cell? ⟨g, 1, none⟩ = some (.int .u8 fl) := by simp [World.cell?, B.out]
            go_wp2_with fail
            refine (F1.out _).mono ?_
            rintro e v ⟨rfl, hp⟩
            have hn2 := Hn.out.trans hp (fun _ _ h => h)
            have hb2 := (hp.block _ (Array.getElem?_eq_some_iff.1 B.out).1 id).trans B.out
            clear Hn B hp
            have Hn := Lib.hid hn2
            have B := Lib.hid hb2
            clear hn2 hb2
            try clear c0 c1
            have c0 : v.cell? ⟨g, 0, none⟩ = some (.bool false) := by simp [World.cell?, B.out]
            have c1 : v.cell? ⟨g, 1, none⟩ = some (.int .u8 fl) := by simp [World.cell?, B.out]
            go_wp2_with fail
            go_ret
            exact ⟨rfl, Hn.out⟩
          · rcases h2 : tflag fl 2 with _ | _
            · rw [if_neg (by simp), if_neg (by omega)]
              rw [h2] at f2
              clear h7 hs s1 h2
              have KE := Lib.hid (show ∀ W : World, True from fun _ => trivial)
              clear ke
              have F4 := Lib.hid f4
              have F1 := Lib.hid f1
              have F2 := Lib.hid f2
              have F16 := Lib.hid f16
              clear f4 f1 f2 f16
              go_enter Tryd.func49, Tryd.ntmps49
              go_wp2_with fail
              have hn0 : NoW w (w.alloc (.cells #[.bool true, .int .u8 fl] 86)) := (Fp.refl _ _).alloc _
              have hb0 := heap_alloc_new w (.cells #[.bool true, .int .u8 fl] 86)
              generalize w.alloc (.cells #[.bool true, .int .u8 fl] 86) = w0 at *
              generalize w.heap.size = g at *
              have Hn := Lib.hid hn0
              have B := Lib.hid hb0
              clear hn0 hb0
              refine (F4.out _).mono ?_
              rintro e v ⟨rfl, hp⟩
              have hn2 := Hn.out.trans hp (fun _ _ h => h)
              have hb2 := (hp.block _ (Array.getElem?_eq_some_iff.1 B.out).1 id).trans B.out
              clear Hn B hp
              have Hn := Lib.hid hn2
              have B := Lib.hid hb2
              clear hn2 hb2
              try clear c0 c1
              have c0 : v.cell? ⟨g, 0, none⟩ = some (.bool true) := by simp [World.cell?, B.out]
              have c1 : v.cell? ⟨g, 1, none⟩ = some (.int .u8 fl) := by simp [World.cell?, B.out]
              go_wp2_with fail
              refine (F1.out _).mono ?_
              rintro e v ⟨rfl, hp⟩
              have hn2 := Hn.out.trans hp (fun _ _ h => h)
              have hb2 := (hp.block _ (Array.getElem?_eq_some_iff.1 B.out).1 id).trans B.out
              clear Hn B hp
              have Hn := Lib.hid hn2
              have B := Lib.hid hb2
              clear hn2 hb2
              try clear c0 c1
              have c0 : v.cell? ⟨g, 0, none⟩ = some (.bool true) := by simp [World.cell?, B.out]
              have c1 : v.cell? ⟨g, 1, none⟩ = some (.int .u8 fl) := by simp [World.cell?, B.out]
              go_wp2_with fail
              refine (F2.out _).mono ?_
              rintro e v ⟨rfl, hp⟩
              have hn2 := Hn.out.trans hp (fun _ _ h => h)
              have hb2 := (hp.block _ (Array.getElem?_eq_some_iff.1 B.out).1 id).trans B.out
              clear Hn B hp
              have Hn := Lib.hid hn2
              have B := Lib.hid hb2
              clear hn2 hb2
              try clear c0 c1
              have c0 : v.cell? ⟨g, 0, none⟩ = some (.bool true) := by simp [World.cell?, B.out]
              have c1 : v.cell? ⟨g, 1, none⟩ = some (.int .u8 fl) := by simp [World.cell?, B.out]
              go_wp2_with fail
              go_ret
              exact ⟨rfl, Hn.out⟩
            · rw [if_pos ⟨s1, rfl, rfl⟩]
              rw [h2] at f2
              clear h7 hs s1 h2
              have KE := Lib.hid (show ∀ W : World, True from fun _ => trivial)
              clear ke
              have F4 := Lib.hid f4
              have F1 := Lib.hid f1
              have F2 := Lib.hid f2
              have F16 := Lib.hid f16
              clear f4 f1 f2 f16
              go_enter Tryd.func49, Tryd.ntmps49
              go_wp2_with fail
              have hn0 : NoW w (w.alloc (.cells #[.bool true, .int .u8 fl] 86)) := (Fp.refl _ _).alloc _
              have hb0 := heap_alloc_new w (.cells #[.bool true, .int .u8 fl] 86)
              generalize w.alloc (.cells #[.bool true, .int .u8 fl] 86) = w0 at *
              generalize w.heap.size = g at *
              have Hn := Lib.hid hn0
              have B := Lib.hid hb0
              clear hn0 hb0
              refine (F4.out _).mono ?_
              rintro e v ⟨rfl, hp⟩
              have hn2 := Hn.out.trans hp (fun _ _ h => h)
              have hb2 := (hp.block _ (Array.getElem?_eq_some_iff.1 B.out).1 id).trans B.out
              clear Hn B hp
              have Hn := Lib.hid hn2
              have B := Lib.hid hb2
              clear hn2 hb2
              try clear c0 c1
              have c0 : v.cell? ⟨g, 0, none⟩ = some (.bool true) := by simp [World.cell?, B.out]
              have c1 : v.cell? ⟨g, 1, none⟩ = some (.int .u8 fl) := by simp [World.cell?, B.out]
              go_wp2_with fail
              refine (F1.out _).mono ?_
              rintro e v ⟨rfl, hp⟩
              have hn2 := Hn.out.trans hp (fun _ _ h => h)
              have hb2 := (hp.block _ (Array.getElem?_eq_some_iff.1 B.out).1 id).trans B.out
              clear Hn B hp
              have Hn := Lib.hid hn2
              have B := Lib.hid hb2
              clear hn2 hb2
              try clear c0 c1
              have c0 : v.cell? ⟨g, 0, none⟩ = some (.bool true) := by simp [World.cell?, B.out]
              have c1 : v.cell? ⟨g, 1, none⟩ = some (.int .u8 fl) := by simp [World.cell?, B.out]
              go_wp2_with fail
              refine (F2.out _).mono ?_
              rintro e v ⟨rfl, hp⟩
              have hn2 := Hn.out.trans hp (fun _ _ h => h)
              have hb2 := (hp.block _ (Array.getElem?_eq_some_iff.1 B.out).1 id).trans B.out
              clear Hn B hp
              have Hn := Lib.hid hn2
              have B := Lib.hid hb2
              clear hn2 hb2
              try clear c0 c1
              have c0 : v.cell? ⟨g, 0, none⟩ = some (.bool true) := by simp [World.cell?, B.out]
              have c1 : v.cell? ⟨g, 1, none⟩ = some (.int .u8 fl) := by simp [World.cell?, B.out]
              go_wp2_with fail
              go_ret
              exact ⟨rfl, Hn.out⟩
        · have es : (s == 1) = false := beq_eq_false_iff_ne.2 s1
          rw [if_neg (fun h => s1 h.1)]
          by_cases s2 : s = 2
          · have es2 : (s == 2) = true := by rw [s2]; rfl
            rcases bk with _ | _
            · rcases h16 : tflag fl 16 with _ | _
              · rw [if_neg (by simp)]
                rw [h16] at f16
                clear h7 hs s1 s2 h16
                have KE := Lib.hid (show ∀ W : World, True from fun _ => trivial)
                clear ke
                have F4 := Lib.hid f4
                have F1 := Lib.hid f1
                have F2 := Lib.hid f2
                have F16 := Lib.hid f16
                clear f4 f1 f2 f16
                go_enter Tryd.func49, Tryd.ntmps49
                go_wp2_with fail
                have hn0 : NoW w (w.alloc (.cells #[.bool false, .int .u8 fl] 86)) := (Fp.refl _ _).alloc _
                have hb0 := heap_alloc_new w (.cells #[.bool false, .int .u8 fl] 86)
                generalize w.alloc (.cells #[.bool false, .int .u8 fl] 86) = w0 at *
                generalize w.heap.size = g at *
                have Hn := Lib.hid hn0
                have B := Lib.hid hb0
                clear hn0 hb0
                refine (F4.out _).mono ?_
                rintro e v ⟨rfl, hp⟩
                have hn2 := Hn.out.trans hp (fun _ _ h => h)
                have hb2 := (hp.block _ (Array.getElem?_eq_some_iff.1 B.out).1 id).trans B.out
                clear Hn B hp
                have Hn := Lib.hid hn2
                have B := Lib.hid hb2
                clear hn2 hb2
                try clear c0 c1
                have c0 : v.cell? ⟨g, 0, none⟩ = some (.bool false) := by simp [World.cell?, B.out]
                have c1 : v.cell? ⟨g, 1, none⟩ = some (.int .u8 fl) := by simp [World.cell?, B.out]
                go_wp2_with fail
                refine (F1.out _).mono ?_
                rintro e v ⟨rfl, hp⟩
                have hn2 := Hn.out.trans hp (fun _ _ h => h)
                have hb2 := (hp.block _ (Array.getElem?_eq_some_iff.1 B.out).1 id).trans B.out
                clear Hn B hp
                have Hn := Lib.hid hn2
                have B := Lib.hid hb2
                clear hn2 hb2
                try clear c0 c1
                have c0 : v.cell? ⟨g, 0, none⟩ = some (.bool false) := by simp [World.cell?, B.out]
                have c1 : v.cell? ⟨g, 1, none⟩ = some (.int .u8 fl) := by simp [World.cell?, B.out]
                go_wp2_with fail
                refine (F16.out _).mono ?_
                rintro e v ⟨rfl, hp⟩
                have hn2 := Hn.out.trans hp (fun _ _ h => h)
                have hb2 := (hp.block _ (Array.getElem?_eq_some_iff.1 B.out).1 id).trans B.out
                clear Hn B hp
                have Hn := Lib.hid hn2
                have B := Lib.hid hb2
                clear hn2 hb2
                try clear c0 c1
                have c0 : v.cell? ⟨g, 0, none⟩ = some (.bool false) := by simp [World.cell?, B.out]
                have c1 : v.cell? ⟨g, 1, none⟩ = some (.int .u8 fl) := by simp [World.cell?, B.out]
                go_wp2_with fail
                go_ret
                exact ⟨rfl, Hn.out⟩
              · rcases h2 : tflag fl 2 with _ | _
                · rw [if_pos ⟨s2, rfl, rfl, rfl⟩]
                  rw [h16] at f16
                  rw [h2] at f2
                  clear h7 hs s1 s2 h16 h2
                  have KE := Lib.hid (show ∀ W : World, True from fun _ => trivial)
                  clear ke
                  have F4 := Lib.hid f4
                  have F1 := Lib.hid f1
                  have F2 := Lib.hid f2
                  have F16 := Lib.hid f16
                  clear f4 f1 f2 f16
                  go_enter Tryd.func49, Tryd.ntmps49
                  go_wp2_with fail
                  have hn0 : NoW w (w.alloc (.cells #[.bool false, .int .u8 fl] 86)) := (Fp.refl _ _).alloc _
                  have hb0 := heap_alloc_new w (.cells #[.bool false, .int .u8 fl] 86)
                  generalize w.alloc (.cells #[.bool false, .int .u8 fl] 86) = w0 at *
                  generalize w.heap.size = g at *
                  have Hn := Lib.hid hn0
                  have B := Lib.hid hb0
                  clear hn0 hb0
                  refine (F4.out _).mono ?_
                  rintro e v ⟨rfl, hp⟩
                  have hn2 := Hn.out.trans hp (fun _ _ h => h)
                  have hb2 := (hp.block _ (Array.getElem?_eq_some_iff.1 B.out).1 id).trans B.out
                  clear Hn B hp
                  have Hn := Lib.hid hn2
                  have B := Lib.hid hb2
                  clear hn2 hb2
                  try clear c0 c1
                  have c0 : v.cell? ⟨g, 0, none⟩ = some (.bool false) := by simp [World.cell?, B.out]
                  have c1 : v.cell? ⟨g, 1, none⟩ = some (.int .u8 fl) := by simp [World.cell?, B.out]
                  go_wp2_with fail
                  refine (F1.out _).mono ?_
                  rintro e v ⟨rfl, hp⟩
                  have hn2 := Hn.out.trans hp (fun _ _ h => h)
                  have hb2 := (hp.block _ (Array.getElem?_eq_some_iff.1 B.out).1 id).trans B.out
                  clear Hn B hp
                  have Hn := Lib.hid hn2
                  have B := Lib.hid hb2
                  clear hn2 hb2
                  try clear c0 c1
                  have c0 : v.cell? ⟨g, 0, none⟩ = some (.bool false) := by simp [World.cell?, B.out]
                  have c1 : v.cell? ⟨g, 1, none⟩ = some (.int .u8 fl) := by simp [World.cell?, B.out]
                  go_wp2_with fail
                  refine (F16.out _).mono ?_
                  rintro e v ⟨rfl, hp⟩
                  have hn2 := Hn.out.trans hp (fun _ _ h => h)
                  have hb2 := (hp.block _ (Array.getElem?_eq_some_iff.1 B.out).1 id).trans B.out
                  clear Hn B hp
                  have Hn := Lib.hid hn2
                  have B := Lib.hid hb2
                  clear hn2 hb2
                  try clear c0 c1
                  have c0 : v.cell? ⟨g, 0, none⟩ = some (.bool false) := by simp [World.cell?, B.out]
                  have c1 : v.cell? ⟨g, 1, none⟩ = some (.int .u8 fl) := by simp [World.cell?, B.out]
                  go_wp2_with fail
                  refine (F2.out _).mono ?_
                  rintro e v ⟨rfl, hp⟩
                  have hn2 := Hn.out.trans hp (fun _ _ h => h)
                  have hb2 := (hp.block _ (Array.getElem?_eq_some_iff.1 B.out).1 id).trans B.out
                  clear Hn B hp
                  have Hn := Lib.hid hn2
                  have B := Lib.hid hb2
                  clear hn2 hb2
                  try clear c0 c1
                  have c0 : v.cell? ⟨g, 0, none⟩ = some (.bool false) := by simp [World.cell?, B.out]
                  have c1 : v.cell? ⟨g, 1, none⟩ = some (.int .u8 fl) := by simp [World.cell?, B.out]
                  go_wp2_with fail
                  go_ret
                  exact ⟨rfl, Hn.out⟩
                · rw [if_neg (by simp)]
                  rw [h16] at f16
                  rw [h2] at f2
                  clear h7 hs s1 s2 h16 h2
                  have KE := Lib.hid (show ∀ W : World, True from fun _ => trivial)
                  clear ke
                  have F4 := Lib.hid f4
                  have F1 := Lib.hid f1
                  have F2 := Lib.hid f2
                  have F16 := Lib.hid f16
                  clear f4 f1 f2 f16
                  go_enter Tryd.func49, Tryd.ntmps49
                  go_wp2_with fail
                  have hn0 : NoW w (w.alloc (.cells #[.bool false, .int .u8 fl] 86)) := (Fp.refl _ _).alloc _
                  have hb0 := heap_alloc_new w (.cells #[.bool false, .int .u8 fl] 86)
                  generalize w.alloc (.cells #[.bool false, .int .u8 fl] 86) = w0 at *
                  generalize w.heap.size = g at *
                  have Hn := Lib.hid hn0
                  have B := Lib.hid hb0
                  clear hn0 hb0
                  refine (F4.out _).mono ?_
                  rintro e v ⟨rfl, hp⟩
                  have hn2 := Hn.out.trans hp (fun _ _ h => h)
                  have hb2 := (hp.block _ (Array.getElem?_eq_some_iff.1 B.out).1 id).trans B.out
                  clear Hn B hp
                  have Hn := Lib.hid hn2
                  have B := Lib.hid hb2
                  clear hn2 hb2
                  try clear c0 c1
                  have c0 : v.cell? ⟨g, 0, none⟩ = some (.bool false) := by simp [World.cell?, B.out]
                  have c1 : v.cell? ⟨g, 1, none⟩ = some (.int .u8 fl) := by simp [World.cell?, B.out]
                  go_wp2_with fail
                  refine (F1.out _).mono ?_
                  rintro e v ⟨rfl, hp⟩
                  have hn2 := Hn.out.trans hp (fun _ _ h => h)
                  have hb2 := (hp.block _ (Array.getElem?_eq_some_iff.1 B.out).1 id).trans B.out
                  clear Hn B hp
                  have Hn := Lib.hid hn2
                  have B := Lib.hid hb2
                  clear hn2 hb2
                  try clear c0 c1
                  have c0 : v.cell? ⟨g, 0, none⟩ = some (.bool false) := by simp [World.cell?, B.out]
                  have c1 : v.cell? ⟨g, 1, none⟩ = some (.int .u8 fl) := by simp [World.cell?, B.out]
                  go_wp2_with fail
                  refine (F16.out _).mono ?_
                  rintro e v ⟨rfl, hp⟩
                  have hn2 := Hn.out.trans hp (fun _ _ h => h)
                  have hb2 := (hp.block _ (Array.getElem?_eq_some_iff.1 B.out).1 id).trans B.out
                  clear Hn B hp
                  have Hn := Lib.hid hn2
                  have B := Lib.hid hb2
                  clear hn2 hb2
                  try clear c0 c1
                  have c0 : v.cell? ⟨g, 0, none⟩ = some (.bool false) := by simp [World.cell?, B.out]
                  have c1 : v.cell? ⟨g, 1, none⟩ = some (.int .u8 fl) := by simp [World.cell?, B.out]
                  go_wp2_with fail
                  refine (F2.out _).mono ?_
                  rintro e v ⟨rfl, hp⟩
                  have hn2 := Hn.out.trans hp (fun _ _ h => h)
                  have hb2 := (hp.block _ (Array.getElem?_eq_some_iff.1 B.out).1 id).trans B.out
                  clear Hn B hp
                  have Hn := Lib.hid hn2
                  have B := Lib.hid hb2
                  clear hn2 hb2
                  try clear c0 c1
                  have c0 : v.cell? ⟨g, 0, none⟩ = some (.bool false) := by simp [World.cell?, B.out]
                  have c1 : v.cell? ⟨g, 1, none⟩ = some (.int .u8 fl) := by simp [World.cell?, B.out]
                  go_wp2_with fail
                  go_ret
                  exact ⟨rfl, Hn.out⟩
            · rw [if_neg (by simp)]
              clear h7 hs s1 s2
              have KE := Lib.hid (show ∀ W : World, True from fun _ => trivial)
              clear ke
              have F4 := Lib.hid f4
              have F1 := Lib.hid f1
              have F2 := Lib.hid f2
              have F16 := Lib.hid f16
              clear f4 f1 f2 f16
              go_enter Tryd.func49, Tryd.ntmps49
              go_wp2_with fail
              have hn0 : NoW w (w.alloc (.cells #[.bool true, .int .u8 fl] 86)) := (Fp.refl _ _).alloc _
              have hb0 := heap_alloc_new w (.cells #[.bool true, .int .u8 fl] 86)
              generalize w.alloc (.cells #[.bool true, .int .u8 fl] 86) = w0 at *
              generalize w.heap.size = g at *
              have Hn := Lib.hid hn0
              have B := Lib.hid hb0
              clear hn0 hb0
              refine (F4.out _).mono ?_
              rintro e v ⟨rfl, hp⟩
              have hn2 := Hn.out.trans hp (fun _ _ h => h)
              have hb2 := (hp.block _ (Array.getElem?_eq_some_iff.1 B.out).1 id).trans B.out
              clear Hn B hp
              have Hn := Lib.hid hn2
              have B := Lib.hid hb2
              clear hn2 hb2
              try clear c0 c1
              have c0 : v.cell? ⟨g, 0, none⟩ = some (.bool true) := by simp [World.cell?, B.out]
              have c1 : v.cell? ⟨g, 1, none⟩ = some (.int .u8 fl) := by simp [World.cell?, B.out]
              go_wp2_with fail
              refine (F1.out _).mono ?_
              rintro e v ⟨rfl, hp⟩
              have hn2 := Hn.out.trans hp (fun _ _ h => h)
              have hb2 := (hp.block _ (Array.getElem?_eq_some_iff.1 B.out).1 id).trans B.out
              clear Hn B hp
              have Hn := Lib.hid hn2
              have B := Lib.hid hb2
              clear hn2 hb2
              try clear c0 c1
              have c0 : v.cell? ⟨g, 0, none⟩ = some (.bool true) := by simp [World.cell?, B.out]
              have c1 : v.cell? ⟨g, 1, none⟩ = some (.int .u8 fl) := by simp [World.cell?, B.out]
              go_wp2_with fail
              go_ret
              exact ⟨rfl, Hn.out⟩
          · have es2 : (s == 2) = false := beq_eq_false_iff_ne.2 s2
            rw [if_neg (fun h => s2 h.1)]
            clear h7 hs s1 s2
            have KE := Lib.hid (show ∀ W : World, True from fun _ => trivial)
            clear ke
            have F4 := Lib.hid f4
            have F1 := Lib.hid f1
            have F2 := Lib.hid f2
            have F16 := Lib.hid f16
            clear f4 f1 f2 f16
            go_enter Tryd.func49, Tryd.ntmps49
            go_wp2_with fail
            have hn0 : NoW w (w.alloc (.cells #[.bool bk, .int .u8 fl] 86)) := (Fp.refl _ _).alloc _
            have hb0 := heap_alloc_new w (.cells #[.bool bk, .int .u8 fl] 86)
            generalize w.alloc (.cells #[.bool bk, .int .u8 fl] 86) = w0 at *
            generalize w.heap.size = g at *
            have Hn := Lib.hid hn0
            have B := Lib.hid hb0
            clear hn0 hb0
            refine (F4.out _).mono ?_
            rintro e v ⟨rfl, hp⟩
            have hn2 := Hn.out.trans hp (fun _ _ h => h)
            have hb2 := (hp.block _ (Array.getElem?_eq_some_iff.1 B.out).1 id).trans B.out
            clear Hn B hp
            have Hn := Lib.hid hn2
            have B := Lib.hid hb2
            clear hn2 hb2
            try clear c0 c1
            have c0 : v.cell? ⟨g, 0, none⟩ = some (.bool bk) := by simp [World.cell?, B.out]
            have c1 : v.cell? ⟨g, 1, none⟩ = some (.int .u8 fl) := by simp [World.cell?, B.out]
            go_wp2_with fail
            refine (F1.out _).mono ?_
            rintro e v ⟨rfl, hp⟩
            have hn2 := Hn.out.trans hp (fun _ _ h => h)
            have hb2 := (hp.block _ (Array.getElem?_eq_some_iff.1 B.out).1 id).trans B.out
            clear Hn B hp
            have Hn := Lib.hid hn2
            have B := Lib.hid hb2
            clear hn2 hb2
            try clear c0 c1
            have c0 : v.cell? ⟨g, 0, none⟩ = some (.bool bk) := by simp [World.cell?, B.out]
            have c1 : v.cell? ⟨g, 1, none⟩ = some (.int .u8 fl) := by simp [World.cell?, B.out]
            go_wp2_with fail
            go_ret
            exact ⟨rfl, Hn.out⟩
      · rw [h1] at f1
        rw [if_pos rfl]
        have KE := Lib.hid (show ∀ W, Calls Tryd.prog 60 #[.int .i64 s, .agg #[.bool bk, .int .u8 fl]] W (Ret1 (.int .i64 (endsN s bk)) W) from fun W => ke W (by omega))
        clear ke
        generalize endsN s bk = en at *
        clear h4 h7 h1 hs
        have F4 := Lib.hid f4
        have F1 := Lib.hid f1
        have F2 := Lib.hid f2
        have F16 := Lib.hid f16
        clear f4 f1 f2 f16
        go_enter Tryd.func49, Tryd.ntmps49
        go_wp2_with fail
        have hn0 : NoW w (w.alloc (.cells #[.bool bk, .int .u8 fl] 86)) := (Fp.refl _ _).alloc _
        have hb0 := heap_alloc_new w (.cells #[.bool bk, .int .u8 fl] 86)
        generalize w.alloc (.cells #[.bool bk, .int .u8 fl] 86) = w0 at *
        generalize w.heap.size = g at *
        have Hn := Lib.hid hn0
        have B := Lib.hid hb0
        clear hn0 hb0
        refine (F4.out _).mono ?_
        rintro e v ⟨rfl, hp⟩
        have hn2 := Hn.out.trans hp (fun _ _ h => h)
        have hb2 := (hp.block _ (Array.getElem?_eq_some_iff.1 B.out).1 id).trans B.out
        clear Hn B hp
        have Hn := Lib.hid hn2
        have B := Lib.hid hb2
        clear hn2 hb2
        try clear c0 c1
        have c0 : v.cell? ⟨g, 0, none⟩ = some (.bool bk) := by simp [World.cell?, B.out]
        have c1 : v.cell? ⟨g, 1, none⟩ = some (.int .u8 fl) := by simp [World.cell?, B.out]
        go_wp2_with fail
        refine (F1.out _).mono ?_
        rintro e v ⟨rfl, hp⟩
        have hn2 := Hn.out.trans hp (fun _ _ h => h)
        have hb2 := (hp.block _ (Array.getElem?_eq_some_iff.1 B.out).1 id).trans B.out
        clear Hn B hp
        have Hn := Lib.hid hn2
        have B := Lib.hid hb2
        clear hn2 hb2
        try clear c0 c1
        have c0 : v.cell? ⟨g, 0, none⟩ = some (.bool bk) := by simp [World.cell?, B.out]
        have c1 : v.cell? ⟨g, 1, none⟩ = some (.int .u8 fl) := by simp [World.cell?, B.out]
        go_wp2_with fail
        refine (KE.out _).mono ?_
        rintro e v ⟨rfl, hp⟩
        have hn2 := Hn.out.trans hp (fun _ _ h => h)
        have hb2 := (hp.block _ (Array.getElem?_eq_some_iff.1 B.out).1 id).trans B.out
        clear Hn B hp
        have Hn := Lib.hid hn2
        have B := Lib.hid hb2
        clear hn2 hb2
        try clear c0 c1
        have c0 : v.cell? ⟨g, 0, none⟩ = some (.bool bk) := by simp [World.cell?, B.out]
        have c1 : v.cell? ⟨g, 1, none⟩ = some (.int .u8 fl) := by simp [World.cell?, B.out]
        go_wp2_with fail
        go_ret
        exact ⟨rfl, Hn.out⟩
  · rw [h4] at f4
    rw [if_pos rfl]
    clear h4 hs
    have KE := Lib.hid (show ∀ W : World, True from fun _ => trivial)
    clear ke
    have F4 := Lib.hid f4
    have F1 := Lib.hid f1
    have F2 := Lib.hid f2
    have F16 := Lib.hid f16
    clear f4 f1 f2 f16
    go_enter Tryd.func49, Tryd.ntmps49
    go_wp2_with fail
    have hn0 : NoW w (w.alloc (.cells #[.bool bk, .int .u8 fl] 86)) := (Fp.refl _ _).alloc _
    have hb0 := heap_alloc_new w (.cells #[.bool bk, .int .u8 fl] 86)
    generalize w.alloc (.cells #[.bool bk, .int .u8 fl] 86) = w0 at *
    generalize w.heap.size = g at *
    have Hn := Lib.hid hn0
    have B := Lib.hid hb0
    clear hn0 hb0
    refine (F4.out _).mono ?_
    rintro e v ⟨rfl, hp⟩
    have hn2 := Hn.out.trans hp (fun _ _ h => h)
    have hb2 := (hp.block _ (Array.getElem?_eq_some_iff.1 B.out).1 id).trans B.out
    clear Hn B hp
    have Hn := Lib.hid hn2
    have B := Lib.hid hb2
    clear hn2 hb2
    try clear c0 c1
    have c0 : v.cell? ⟨g, 0, none⟩ = some (.bool bk) := by simp [World.cell?, B.out]
    have c1 : v.cell? ⟨g, 1, none⟩ = some (.int .u8 fl) := by simp [World.cell?, B.out]
    go_wp2_with fail
    go_ret
    exact ⟨rfl, Hn.out⟩
end Go.Proofs.YtaiimkcmgiceeaaDoor
