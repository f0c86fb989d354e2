/- Chapter 03: mask, May, Has, Less. -/
import Derived.Test.YtgfmeincfeelmaaDoorAdT
import Derived.Test.YtgfmeincfeelmaaDoorAdB
import Derived.Deep.RegionHeld3
import Derived.Test.YtgfmeincfeelmaaDoorTake
namespace Go.Proofs.YtgfmeincfeelmaaDoor
set_option linter.unusedVariables false
set_option linter.unusedSimpArgs false
open Go.RowKit Go.Lib Go.Sort

theorem mask_ok (b : Nat) (hb : b ≤ 32) (w : World) : Calls Tryd.prog 34 #[.int .i64 b] w fun e w' => e = .returned (.int .u32 ((2 ^ 32 - 2 ^ (32 - b) : Nat) : Int)) ∧ w' = w := by
  have hp : 2 ^ (32 - b) ≤ 2 ^ 32 := Nat.pow_le_pow_right (by omega) (by omega)
  have hp1 : 1 ≤ 2 ^ (32 - b) := Nat.one_le_two_pow
  go_enter Tryd.func34, Tryd.ntmps34
  go_wp2_with fail
  go_ret
  refine ⟨?_, rfl⟩
  rw [IntKind.wrap_u64, IntKind.wrap_u64, show (2 : Int) ^ (32 - b) = ((2 ^ (32 - b) : Nat) : Int) by simp]
  have e32 : (2 : Nat) ^ 32 = 4294967296 := by decide
  rw [e32] at hp ⊢
  generalize 2 ^ (32 - b) = q at *
  have e : (4294967296 - (q : Int) % 18446744073709551616) % 18446744073709551616 % 4294967296 = ((4294967296 - q : Nat) : Int) := by omega
  rw [e]
  rfl

/-- Whether a prefix may be. -/
def mayB (ip : Nat) (bits : Int) : Bool := decide (0 ≤ bits ∧ bits ≤ 32 ∧ ip % 2 ^ (32 - bits.toNat) = 0)
/-- Whether it has an address. -/
def hasB (ip : Nat) (bits : Int) (a : Nat) : Bool := mayB ip bits && decide (a / 2 ^ (32 - bits.toNat) = ip / 2 ^ (32 - bits.toNat))

set_option maxHeartbeats 1000000 in
theorem may_ok (ip : Nat) (hip : ip < 4294967296) (bits : Int) (w : World) : Calls Tryd.prog 23 #[.agg #[.int .u32 ip, .int .i64 bits]] w (Ret1 (.bool (mayB ip bits)) w) := by
  by_cases h0 : 0 ≤ bits
  · by_cases h1 : bits ≤ 32
    · obtain ⟨b, rfl⟩ : ∃ b : Nat, bits = b := ⟨bits.toNat, by omega⟩
      have hb : b ≤ 32 := by omega
      have h0' : decide ((0 : Int) ≤ (b : Int)) = true := by simp
      have h1' : decide ((b : Int) ≤ 32) = true := by simp; omega
      have hpk : 2 ^ 32 - 2 ^ (32 - b) < 4294967296 := by
        have : 1 ≤ 2 ^ (32 - b) := Nat.one_le_two_pow
        have e32 : (2 : Nat) ^ 32 = 4294967296 := by decide
        omega
      have hand := u32_andNot_nat ip (2 ^ 32 - 2 ^ (32 - b)) hip hpk
      rw [and_low (by omega)] at hand
      have hm : mayB ip b = decide (ip % 2 ^ (32 - b) = 0) := by
        unfold mayB
        rw [decide_eq_decide]
        exact ⟨fun h => by simpa using h.2.2, fun h => ⟨by omega, by omega, by simpa using h⟩⟩
      rw [hm]
      have hmask := mask_ok b hb
      generalize 2 ^ 32 - 2 ^ (32 - b) = mk at *
      generalize ip % 2 ^ (32 - b) = r at *
      have Hmask := Lib.hid hmask
      have hrz : ((r : Int) == 0) = decide (r = 0) := by rw [Bool.eq_iff_iff]; simp
      clear hmask hm h0 h1
      go_enter Tryd.func23, Tryd.ntmps23
      go_wp2_with fail
      go_quiet ((go_at_call 34; exact Calls.quiet_of_same (Hmask.out _)))
      go_wp2_with fail
      go_ret
      exact ⟨rfl, ((Fp.refl _ _).alloc _).drewN _⟩
    · have h0' : decide ((0 : Int) ≤ bits) = true := by simpa using h0
      have h1' : decide (bits ≤ 32) = false := by simpa using h1
      have hm : mayB ip bits = false := by unfold mayB; simp [h1]
      rw [hm]
      clear hm h0 h1
      go_enter Tryd.func23, Tryd.ntmps23
      go_wp2_with fail
      go_quiet (fail)
      go_wp2_with fail
      go_ret
      exact ⟨rfl, ((Fp.refl _ _).alloc _).drewN _⟩
  · have h0' : decide ((0 : Int) ≤ bits) = false := by simpa using h0
    have hm : mayB ip bits = false := by unfold mayB; simp [h0]
    rw [hm]
    clear hm h0
    go_enter Tryd.func23, Tryd.ntmps23
    go_wp2_with fail
    go_quiet (fail)
    go_wp2_with fail
    go_ret
    exact ⟨rfl, ((Fp.refl _ _).alloc _).drewN _⟩

set_option maxHeartbeats 1000000 in
theorem has_ok (ip : Nat) (hip : ip < 4294967296) (bits : Int) (a : Nat) (ha : a < 4294967296) (w : World) : Calls Tryd.prog 16 #[.agg #[.int .u32 ip, .int .i64 bits], .int .u32 a] w (Ret1 (.bool (hasB ip bits a)) w) := by
  have hmay := fun W => may_ok ip hip bits W
  have Hmay := Lib.hid hmay
  clear hmay
  rcases hm : mayB ip bits with _ | _
  · have hh : hasB ip bits a = false := by unfold hasB; rw [hm]; rfl
    rw [hh]
    rw [hm] at Hmay
    clear hm hh hip ha
    go_enter Tryd.func16, Tryd.ntmps16
    go_wp2_with fail
    have hc0 : (w.alloc (.cells #[.int .u32 ip, .int .i64 bits] 29)).cell? ⟨w.heap.size, 0, none⟩ = some (.int .u32 ip) := by simp
    have hc1 : (w.alloc (.cells #[.int .u32 ip, .int .i64 bits] 29)).cell? ⟨w.heap.size, 1, none⟩ = some (.int .i64 bits) := by simp
    have hn0 : NoW w (w.alloc (.cells #[.int .u32 ip, .int .i64 bits] 29)) := (Fp.refl _ _).alloc _
    generalize w.alloc (.cells #[.int .u32 ip, .int .i64 bits] 29) = w0 at *
    generalize w.heap.size = g at *
    have h0 := hc0
    have h1 := hc1
    have d0 : w0.drew.cell? ⟨g, 0, none⟩ = some (.int .u32 ip) := hc0
    have d1 := (show w0.drew.cell? ⟨g, 1, none⟩ = _ from hc1)
    have Hn0 := Lib.hid hn0
    clear hn0 hc0 hc1
    have lg : g < w0.heap.size := cell_lt h0
    have H0 := Lib.hid h0
    have H1 := Lib.hid h1
    clear h0 h1 d0 d1
    refine wp_region_held_drew (S := fun wx => NoW w0 wx) (by kernel_rfl) (Fp.drew (Fp.refl _ _)) (fun hHeld => ?_)
    (refine take_at 0 (some 5) rfl rfl (by kernel_rfl) (by kernel_rfl) (by kernel_rfl) (fun _ _ _ h => h) (v := ?_) (by kernel_rfl) ?_ (by assumption) ?_; rotate_left; (focus (intro wS hSw; have c0 := (hSw.cell (p := ⟨g, 0, none⟩) lg id).trans H0.out; have c1 := (hSw.cell (p := ⟨g, 1, none⟩) lg id).trans H1.out; go_simp; try with_reducible rfl)); (try simp only [Act.put, List.setIfInBounds_toArray, List.set_cons_zero, List.set_cons_succ]))
    refine wpAnyH_ready (rs := [1]) (by kernel_rfl) (by simp) ?_
    refine AllReadyH.cons rfl (fun K hK => ?_) AllReadyH.nil
    go_simp
    go_at_call 23
    refine (Hmay.out _).mono ?_
    rintro e w1 ⟨rfl, hp1⟩
    have hn1 : NoW w0 w1 := Fp.trans hHeld hp1 (fun _ _ h => h)
    clear hp1 hHeld
    refine hK.out _ _ hn1 (fun hHeld => ?_)
    clear hK K
    try simp only [Act.put, List.setIfInBounds_toArray, List.set_cons_zero, List.set_cons_succ]
    (refine take_at 2 (some 7) rfl rfl (by kernel_rfl) (by kernel_rfl) (by kernel_rfl) (fun _ _ _ h => h) (v := ?_) (by kernel_rfl) ?_ (by assumption) ?_; rotate_left; (focus (intro wS hSw; skip; go_simp; try with_reducible rfl)); (try simp only [Act.put, List.setIfInBounds_toArray, List.set_cons_zero, List.set_cons_succ]))
    (refine drop_at 3 (some 8) rfl rfl (by kernel_rfl) (by kernel_rfl) (by kernel_rfl) (fun _ _ _ h => h) (by kernel_rfl) (by assumption) ?_; (try simp only [Act.put, List.setIfInBounds_toArray, List.set_cons_zero, List.set_cons_succ]))
    (refine drop_at 4 (some 9) rfl rfl (by kernel_rfl) (by kernel_rfl) (by kernel_rfl) (fun _ _ _ h => h) (by kernel_rfl) (by assumption) ?_; (try simp only [Act.put, List.setIfInBounds_toArray, List.set_cons_zero, List.set_cons_succ]))
    (refine drop_at 5 (some 10) rfl rfl (by kernel_rfl) (by kernel_rfl) (by kernel_rfl) (fun _ _ _ h => h) (by kernel_rfl) (by assumption) ?_; (try simp only [Act.put, List.setIfInBounds_toArray, List.set_cons_zero, List.set_cons_succ]))
    (refine drop_at 6 (some 11) rfl rfl (by kernel_rfl) (by kernel_rfl) (by kernel_rfl) (fun _ _ _ h => h) (by kernel_rfl) (by assumption) ?_; (try simp only [Act.put, List.setIfInBounds_toArray, List.set_cons_zero, List.set_cons_succ]))
    (refine drop_at 7 (some 12) rfl rfl (by kernel_rfl) (by kernel_rfl) (by kernel_rfl) (fun _ _ _ h => h) (by kernel_rfl) (by assumption) ?_; (try simp only [Act.put, List.setIfInBounds_toArray, List.set_cons_zero, List.set_cons_succ]))
    (refine drop_at 8 (some 13) rfl rfl (by kernel_rfl) (by kernel_rfl) (by kernel_rfl) (fun _ _ _ h => h) (by kernel_rfl) (by assumption) ?_; (try simp only [Act.put, List.setIfInBounds_toArray, List.set_cons_zero, List.set_cons_succ]))
    (refine drop_at 9 (some 14) rfl rfl (by kernel_rfl) (by kernel_rfl) (by kernel_rfl) (fun _ _ _ h => h) (by kernel_rfl) (by assumption) ?_; (try simp only [Act.put, List.setIfInBounds_toArray, List.set_cons_zero, List.set_cons_succ]))
    (refine drop_at 10 (some 15) rfl rfl (by kernel_rfl) (by kernel_rfl) (by kernel_rfl) (fun _ _ _ h => h) (by kernel_rfl) (by assumption) ?_; (try simp only [Act.put, List.setIfInBounds_toArray, List.set_cons_zero, List.set_cons_succ]))
    (refine drop_at 11 (some 16) rfl rfl (by kernel_rfl) (by kernel_rfl) (by kernel_rfl) (fun _ _ _ h => h) (by kernel_rfl) (by assumption) ?_; (try simp only [Act.put, List.setIfInBounds_toArray, List.set_cons_zero, List.set_cons_succ]))
    (refine take_at 12 (some 17) rfl rfl (by kernel_rfl) (by kernel_rfl) (by kernel_rfl) (fun _ _ _ h => h) (v := ?_) (by kernel_rfl) ?_ (by assumption) ?_; rotate_left; (focus (intro wS hSw; skip; go_simp; try with_reducible rfl)); (try simp only [Act.put, List.setIfInBounds_toArray, List.set_cons_zero, List.set_cons_succ]))
    (refine take_at 13 (some 4) rfl rfl (by kernel_rfl) (by kernel_rfl) (by kernel_rfl) (fun _ _ _ h => h) (v := ?_) (by kernel_rfl) ?_ (by assumption) ?_; rotate_left; (focus (intro wS hSw; skip; go_simp; try with_reducible rfl)); (try simp only [Act.put, List.setIfInBounds_toArray, List.set_cons_zero, List.set_cons_succ]))
    refine wpAnyH_done (by kernel_rfl) ?_ _
    go_wp2_with fail
    go_ret
    exact ⟨rfl, Hn0.out.trans hn1 (fun _ _ h => h)⟩
  · have hb : 0 ≤ bits ∧ bits ≤ 32 := by
      unfold mayB at hm
      have := of_decide_eq_true hm
      exact ⟨this.1, this.2.1⟩
    obtain ⟨b, rfl⟩ : ∃ b : Nat, bits = b := ⟨bits.toNat, by omega⟩
    have hb32 : b ≤ 32 := by omega
    have hh : hasB ip b a = decide (a / 2 ^ (32 - b) = ip / 2 ^ (32 - b)) := by unfold hasB; rw [hm]; simp
    rw [hh]
    rw [hm] at Hmay
    have e32 : (2 : Nat) ^ 32 = 4294967296 := by decide
    have hx := u32_xor_nat a ip ha hip
    have hxl : a ^^^ ip < 4294967296 := xor_lt ha hip
    have hpk : 2 ^ 32 - 2 ^ (32 - b) < 4294967296 := by
      have : 1 ≤ 2 ^ (32 - b) := Nat.one_le_two_pow
      omega
    have hand := u32_and_nat (a ^^^ ip) (2 ^ 32 - 2 ^ (32 - b)) hxl hpk
    have hz := mask_zero (a := a) (b := ip) ha hip (show 32 - b ≤ 32 by omega)
    have hz2 : ((((a ^^^ ip) &&& (2 ^ 32 - 2 ^ (32 - b)) : Nat) : Int) == 0) = decide (a / 2 ^ (32 - b) = ip / 2 ^ (32 - b)) := by
      rw [Bool.eq_iff_iff, beq_iff_eq, decide_eq_true_eq, ← hz]; omega
    have hmask := fun W => mask_ok b hb32 W
    generalize 2 ^ 32 - 2 ^ (32 - b) = mk at *
    generalize (a ^^^ ip) &&& mk = z at *
    generalize a ^^^ ip = x at *
    generalize hdd : decide (a / 2 ^ (32 - b) = ip / 2 ^ (32 - b)) = dd at *
    have Hmask := Lib.hid hmask
    clear hmask hm hh hz hdd hb hip ha hxl hpk e32
    go_enter Tryd.func16, Tryd.ntmps16
    go_wp2_with fail
    have hc0 : (w.alloc (.cells #[.int .u32 ip, .int .i64 b] 29)).cell? ⟨w.heap.size, 0, none⟩ = some (.int .u32 ip) := by simp
    have hc1 : (w.alloc (.cells #[.int .u32 ip, .int .i64 b] 29)).cell? ⟨w.heap.size, 1, none⟩ = some (.int .i64 b) := by simp
    have hn0 : NoW w (w.alloc (.cells #[.int .u32 ip, .int .i64 b] 29)) := (Fp.refl _ _).alloc _
    generalize w.alloc (.cells #[.int .u32 ip, .int .i64 b] 29) = w0 at *
    generalize w.heap.size = g at *
    have h0 := hc0
    have h1 := hc1
    have d0 : w0.drew.cell? ⟨g, 0, none⟩ = some (.int .u32 ip) := hc0
    have d1 := (show w0.drew.cell? ⟨g, 1, none⟩ = _ from hc1)
    have Hn0 := Lib.hid hn0
    clear hn0 hc0 hc1
    have lg : g < w0.heap.size := cell_lt h0
    have hkk : ∀ wx, NoW w0 wx → wx.cell? ⟨g, 0, none⟩ = some (.int .u32 ip) ∧ wx.cell? ⟨g, 1, none⟩ = some (.int .i64 b) :=
      fun wx hn => ⟨(hn.cell (p := ⟨g, 0, none⟩) lg id).trans h0, (hn.cell (p := ⟨g, 1, none⟩) lg id).trans h1⟩
    have Hkk := Lib.hid hkk
    clear hkk h0 h1
    go_region_held3 (fun wx => wx.cell? ⟨g, 0, none⟩ = some (.int .u32 ip) ∧ wx.cell? ⟨g, 1, none⟩ = some (.int .i64 b)) (first | exact Hkk.out _ (Fp.drew (Fp.refl _ _)) | exact Hkk.out _ hn1 | exact Hkk.out _ (hn1))
      (first | (go_at_call 23; refine (Hmay.out _).mono ?_; rintro e w1 ⟨rfl, hp1⟩; have hn1 : NoW w0 w1 := (Fp.drew (Fp.refl _ _)).trans hp1 (fun _ _ h => h); clear hp1) | (go_at_call 34; refine (Hmask.out _).mono ?_; rintro e w2 ⟨rfl, rfl⟩))
    go_wp2_with fail
    go_ret
    exact ⟨rfl, Hn0.out.trans hn1 (fun _ _ h => h)⟩

set_option maxHeartbeats 1000000 in
theorem less_ok (a p b q : Nat) (w : World) :
    Calls Tryd.prog 26 #[.agg #[.int .u32 a, .int .u16 p], .agg #[.int .u32 b, .int .u16 q]] w (Ret1 (.bool (decide (a < b ∨ a = b ∧ p < q))) w) := by
  by_cases h : a = b
  · subst h
    have e : decide (a < a ∨ a = a ∧ p < q) = decide (p < q) := by simp
    rw [e]
    clear e
    go_enter Tryd.func26, Tryd.ntmps26
    go_wp2_with fail
    go_ret
    exact ⟨rfl, ((Fp.refl _ _).alloc _).alloc _⟩
  · have e : decide (a < b ∨ a = b ∧ p < q) = decide (a < b) := by simp [h]
    rw [e]
    have h2 : ((a : Int) == (b : Int)) = false := by simp; omega
    clear e h
    go_enter Tryd.func26, Tryd.ntmps26
    go_wp2_with fail
    go_ret
    exact ⟨rfl, ((Fp.refl _ _).alloc _).alloc _⟩
end Go.Proofs.YtgfmeincfeelmaaDoor
