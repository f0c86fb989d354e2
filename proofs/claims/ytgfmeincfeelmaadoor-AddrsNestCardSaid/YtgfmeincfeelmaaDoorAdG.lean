/- Chapter 03: the document's PointText, PrefixText, Less. -/
import Derived.Test.YtgfmeincfeelmaaDoorAdF
namespace Go.Proofs.YtgfmeincfeelmaaDoor
set_option linter.unusedVariables false
set_option linter.unusedSimpArgs false
open Go.RowKit Go.Lib Go.Sort

set_option maxHeartbeats 1000000 in
theorem rt_ptext (a : Nat) (ha : a < 4294967296) (p : Nat) (hp : p < 65536) (w : World) :
    Calls Tryd.prog 21 #[.agg #[.int .u32 a, .int .u16 p]] w (Ret1 (str (withT 58 a p)) w) := by
  have hl1 := addrT_len ha
  have hl2 := dec_len 5 p (by omega) (by omega)
  have hadd1 : ∀ W, (Op.stringOp .add ⟨(addrT a).toArray⟩ ⟨#[58]⟩).run Tryd.prog W = .ok (str (addrT a ++ [58])) W := fun W => run_string_add_lists W (addrT a) [58] (by omega) (by simp)
  have hadd2 : ∀ W, (Op.stringOp .add ⟨(addrT a ++ [58]).toArray⟩ ⟨(decDigits p).toArray⟩).run Tryd.prog W = .ok (str (addrT a ++ [58] ++ decDigits p)) W := fun W => run_string_add_lists W (addrT a ++ [58]) (decDigits p) (by simp; omega) (by omega)
  have hwi : IntKind.u32.wrap (p : Int) = p := IntWalk.u32_in _ (by omega)
  have hT := fun W => rt_text a ha W
  have hD := fun W => digits_any p (by omega) W
  have HT := Lib.hid hT
  have HD := Lib.hid hD
  have Hl : withT 58 a p = addrT a ++ 58 :: decDigits p := rfl
  have HL := Lib.hid Hl
  clear hT hD ha Hl
  go_enter Tryd.func21, Tryd.ntmps21
  go_wp2_with fail
  go_quiet ((first | (go_at_call 20; exact Calls.quiet_of_same (HT.out _)) | (go_at_call 37; exact Calls.quiet_of_same (HD.out _))))
  go_wp2_with fail
  go_ret
  exact ⟨by rw [HL.out]; rfl, ((Fp.refl _ _).alloc _).drewN _⟩

set_option maxHeartbeats 1000000 in
theorem rt_less (a p b q : Nat) (w : World) :
    Calls Tryd.prog 27 #[.agg #[.int .u32 a, .int .u16 p], .agg #[.int .u32 b, .int .u16 q]] w (Ret1 (.bool (decide (a < b ∨ a = b ∧ p < q))) w) := by
  by_cases h : a < b
  · have e : decide (a < b ∨ a = b ∧ p < q) = true := by simp [h]
    have h1 : decide ((a : Int) < (b : Int)) = true := by simpa using h
    have h2 : decide (a < b) = true := by simpa using h
    rw [e]
    clear e
    go_enter Tryd.func27, Tryd.ntmps27
    go_wp2_with fail
    go_ret
    exact ⟨rfl, ((Fp.refl _ _).alloc _).alloc _⟩
  · have h1 : decide ((a : Int) < (b : Int)) = false := by simpa using h
    have h2 : decide (a < b) = false := by simpa using h
    by_cases hab : a = b
    · subst hab
      have e : decide (a < a ∨ a = a ∧ p < q) = decide (p < q) := by simp
      rw [e]
      clear e h
      go_enter Tryd.func27, Tryd.ntmps27
      go_wp2_with fail
      go_ret
      exact ⟨rfl, ((Fp.refl _ _).alloc _).alloc _⟩
    · have e : decide (a < b ∨ a = b ∧ p < q) = false := by simp [h, hab]
      rw [e]
      have h3 : ((a : Int) == (b : Int)) = false := by simp; omega
      clear e h hab
      go_enter Tryd.func27, Tryd.ntmps27
      go_wp2_with fail
      go_ret
      exact ⟨rfl, ((Fp.refl _ _).alloc _).alloc _⟩

set_option maxHeartbeats 1000000 in
theorem prefix_text_no (a : Nat) (ha : a < 4294967296) (bits : Int) (hm : mayB a bits = false) (w : World) :
    Calls Tryd.prog 18 #[.agg #[.int .u32 a, .int .i64 bits]] w (Ret1 (str []) w) := by
  have hmay := fun W => may_ok a ha bits W
  rw [hm] at hmay
  have Hmay := Lib.hid hmay
  clear hm hmay ha
  go_enter Tryd.func18, Tryd.ntmps18
  go_wp2_with fail
  refine (Hmay.out _).mono ?_
  rintro e w9 ⟨rfl, hp9⟩
  have Hp := Lib.hid (((Fp.refl _ w).alloc _).trans hp9 (fun _ _ h => h))
  clear hp9
  go_wp2_with fail
  go_ret
  exact ⟨rfl, Hp.out⟩

set_option maxHeartbeats 1000000 in
theorem rt_pftext_no (a : Nat) (ha : a < 4294967296) (bits : Int) (hm : mayB a bits = false) (w : World) :
    Calls Tryd.prog 22 #[.agg #[.int .u32 a, .int .i64 bits]] w (Ret1 (str []) w) := by
  have hmay := fun W => rt_may a ha bits W
  rw [hm] at hmay
  have Hmay := Lib.hid hmay
  clear hm hmay ha
  go_enter Tryd.func22, Tryd.ntmps22
  go_wp2_with fail
  refine (Hmay.out _).mono ?_
  rintro e w9 ⟨rfl, hp9⟩
  have Hp := Lib.hid (((Fp.refl _ w).alloc _).trans hp9 (fun _ _ h => h))
  clear hp9
  go_wp2_with fail
  go_ret
  exact ⟨rfl, Hp.out⟩

set_option maxHeartbeats 1000000 in
theorem rt_pftext (a : Nat) (ha : a < 4294967296) (p : Nat) (hm : mayB a p = true) (w : World) :
    Calls Tryd.prog 22 #[.agg #[.int .u32 a, .int .i64 p]] w (Ret1 (str (withT 47 a p)) w) := by
  have hp : p ≤ 32 := by
    unfold mayB at hm
    have := (of_decide_eq_true hm).2.1
    omega
  have hmay := fun W => rt_may a ha p W
  rw [hm] at hmay
  have Hmay := Lib.hid hmay
  clear hm hmay
  have hl1 := addrT_len ha
  have hl2 := dec_len 5 p (by omega) (by omega)
  have hadd1 : ∀ W, (Op.stringOp .add ⟨(addrT a).toArray⟩ ⟨#[47]⟩).run Tryd.prog W = .ok (str (addrT a ++ [47])) W := fun W => run_string_add_lists W (addrT a) [47] (by omega) (by simp)
  have hadd2 : ∀ W, (Op.stringOp .add ⟨(addrT a ++ [47]).toArray⟩ ⟨(decDigits p).toArray⟩).run Tryd.prog W = .ok (str (addrT a ++ [47] ++ decDigits p)) W := fun W => run_string_add_lists W (addrT a ++ [47]) (decDigits p) (by simp; omega) (by omega)
  have hwi : IntKind.u32.wrap (p : Int) = p := IntWalk.u32_in _ (by omega)
  have hT := fun W => rt_text a ha W
  have hD := fun W => digits_any p (by omega) W
  have HT := Lib.hid hT
  have HD := Lib.hid hD
  have Hl : withT 47 a p = addrT a ++ 47 :: decDigits p := rfl
  have HL := Lib.hid Hl
  clear hT hD ha Hl
  go_enter Tryd.func22, Tryd.ntmps22
  go_wp2_with fail
  refine (Hmay.out _).mono ?_
  rintro e w9 ⟨rfl, hp9⟩
  have Hp := Lib.hid (((Fp.refl _ w).alloc _).trans hp9 (fun _ _ h => h))
  have hb9 := (hp9.block _ (by simp) id).trans (heap_alloc_new w _)
  have k0 : w9.cell? ⟨w.heap.size, 0, none⟩ = some (.int .u32 a) := by simp [World.cell?, hb9]
  have k1 : w9.cell? ⟨w.heap.size, 1, none⟩ = some (.int .i64 p) := by simp [World.cell?, hb9]
  clear hp9 hb9
  go_wp2_with fail
  go_quiet ((first | (go_at_call 20; exact Calls.quiet_of_same (HT.out _)) | (go_at_call 37; exact Calls.quiet_of_same (HD.out _))))
  go_wp2_with fail
  go_ret
  exact ⟨by rw [HL.out]; rfl, Hp.out.drewN _⟩
end Go.Proofs.YtgfmeincfeelmaaDoor
