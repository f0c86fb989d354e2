/- Chapter 03: the document's May, Has. -/
import Derived.Test.YtgfmeincfeelmaaDoorAdE
namespace Go.Proofs.YtgfmeincfeelmaaDoor
set_option linter.unusedVariables false
set_option linter.unusedSimpArgs false
open Go.RowKit Go.Lib Go.Sort

set_option maxHeartbeats 1000000 in
theorem rt_may (ip : Nat) (hip : ip < 4294967296) (bits : Int) (w : World) : Calls Tryd.prog 24 #[.agg #[.int .u32 ip, .int .i64 bits]] w (Ret1 (.bool (mayB ip bits)) w) := by
  by_cases h0 : 0 ≤ bits
  · by_cases h1 : bits ≤ 32
    · obtain ⟨b, rfl⟩ : ∃ b : Nat, bits = b := ⟨bits.toNat, by omega⟩
      have hb : b ≤ 32 := by omega
      have h0' : decide ((0 : Int) ≤ (b : Int)) = true := by simp
      have h1' : decide ((b : Int) ≤ 32) = true := by simp; omega
      have hm : mayB ip b = decide (ip % 2 ^ (32 - b) = 0) := by
        unfold mayB
        rw [decide_eq_decide]
        exact ⟨fun h => by simpa using h.2.2, fun h => ⟨by omega, by omega, by simpa using h⟩⟩
      rw [hm]
      have hsize := fun W => rt_size b hb W
      have hq1 : 1 ≤ 2 ^ (32 - b) := Nat.one_le_two_pow
      generalize 2 ^ (32 - b) = q at *
      have hq0 : ((q : Int) == 0) = false := by simp; omega
      have hq0' : ¬ ((q : Int) = 0) := by omega
      have hwi : IntKind.u64.wrap (ip : Int) = ip := by rw [IntKind.wrap_u64]; omega
      have htm : (ip : Int).tmod (q : Int) = ((ip % q : Nat) : Int) := by rw [Int.tmod_eq_emod_of_nonneg (by omega)]; simp
      have hwr : IntKind.u64.wrap ((ip % q : Nat) : Int) = ((ip % q : Nat) : Int) := by
        have := Nat.mod_lt ip (show q > 0 by omega)
        have := Nat.mod_le ip q
        rw [IntKind.wrap_u64]; omega
      generalize ip % q = r at *
      have hrz : ((r : Int) == 0) = decide (r = 0) := by rw [Bool.eq_iff_iff]; simp
      have Hsize := Lib.hid hsize
      clear hsize hm h0 h1 hq1 hip
      go_enter Tryd.func24, Tryd.ntmps24
      go_wp2_with fail
      go_quiet ((go_at_call 38; exact Calls.quiet_of_same (Hsize.out _)))
      go_wp2_with fail
      go_ret
      exact ⟨rfl, ((Fp.refl _ _).alloc _).drewN _⟩
    · have h0' : decide ((0 : Int) ≤ bits) = true := by simpa using h0
      have h1' : decide (bits ≤ 32) = false := by simpa using h1
      have hm : mayB ip bits = false := by unfold mayB; simp [h1]
      rw [hm]
      clear hm h0 h1
      go_enter Tryd.func24, Tryd.ntmps24
      go_wp2_with fail
      go_quiet (fail)
      go_wp2_with fail
      go_ret
      exact ⟨rfl, ((Fp.refl _ _).alloc _).drewN _⟩
  · have h0' : decide ((0 : Int) ≤ bits) = false := by simpa using h0
    have hm : mayB ip bits = false := by unfold mayB; simp [h0]
    rw [hm]
    clear hm h0
    go_enter Tryd.func24, Tryd.ntmps24
    go_wp2_with fail
    go_quiet (fail)
    go_wp2_with fail
    go_ret
    exact ⟨rfl, ((Fp.refl _ _).alloc _).drewN _⟩

set_option maxHeartbeats 1000000 in
theorem rt_has (ip : Nat) (hip : ip < 4294967296) (bits : Int) (a : Nat) (ha : a < 4294967296) (w : World) : Calls Tryd.prog 25 #[.agg #[.int .u32 ip, .int .i64 bits], .int .u32 a] w (Ret1 (.bool (hasB ip bits a)) w) := by
  have hmay := fun W => rt_may ip hip bits W
  have Hmay := Lib.hid hmay
  clear hmay
  rcases hm : mayB ip bits with _ | _
  · have hh : hasB ip bits a = false := by unfold hasB; rw [hm]; rfl
    rw [hh]
    rw [hm] at Hmay
    clear hm hh hip ha
    go_enter Tryd.func25, Tryd.ntmps25
    go_wp2_with fail
    have hc0 : (w.alloc (.cells #[.int .u32 ip, .int .i64 bits] 29)).cell? ⟨w.heap.size, 0, none⟩ = some (.int .u32 ip) := by simp
    have hc1 : (w.alloc (.cells #[.int .u32 ip, .int .i64 bits] 29)).cell? ⟨w.heap.size, 1, none⟩ = some (.int .i64 bits) := by simp
    have hn0 : NoW w (w.alloc (.cells #[.int .u32 ip, .int .i64 bits] 29)) := (Fp.refl _ _).alloc _
    generalize w.alloc (.cells #[.int .u32 ip, .int .i64 bits] 29) = w0 at *
    generalize w.heap.size = g at *
    have h0 := hc0
    have h1 := hc1
    have d0 : w0.drew.cell? ⟨g, 0, none⟩ = some (.int .u32 ip) := hc0
    have d1 := (show w0.drew.cell? ⟨g, 1, none⟩ = _ from hc1)
    have Hn0 := Lib.hid hn0
    clear hn0 hc0 hc1
    have lg : g < w0.heap.size := cell_lt h0
    have H0 := Lib.hid h0
    have H1 := Lib.hid h1
    clear h0 h1 d0 d1
    refine wp_region_held_drew (S := fun wx => NoW w0 wx) (by kernel_rfl) (Fp.drew (Fp.refl _ _)) (fun hHeld => ?_)
    (refine take_at 0 (some 5) rfl rfl (by kernel_rfl) (by kernel_rfl) (by kernel_rfl) (fun _ _ _ h => h) (v := ?_) (by kernel_rfl) ?_ (by assumption) ?_; rotate_left; (focus (intro wS hSw; have c0 := (hSw.cell (p := ⟨g, 0, none⟩) lg id).trans H0.out; have c1 := (hSw.cell (p := ⟨g, 1, none⟩) lg id).trans H1.out; go_simp; try with_reducible rfl)); (try simp only [Act.put, List.setIfInBounds_toArray, List.set_cons_zero, List.set_cons_succ]))
    refine wpAnyH_ready (rs := [1]) (by kernel_rfl) (by simp) ?_
    refine AllReadyH.cons rfl (fun K hK => ?_) AllReadyH.nil
    go_simp
    go_at_call 24
    refine (Hmay.out _).mono ?_
    rintro e w1 ⟨rfl, hp1⟩
    have hn1 : NoW w0 w1 := Fp.trans hHeld hp1 (fun _ _ h => h)
    clear hp1 hHeld
    refine hK.out _ _ hn1 (fun hHeld => ?_)
    clear hK K
    try simp only [Act.put, List.setIfInBounds_toArray, List.set_cons_zero, List.set_cons_succ]
    (refine take_at 2 (some 7) rfl rfl (by kernel_rfl) (by kernel_rfl) (by kernel_rfl) (fun _ _ _ h => h) (v := ?_) (by kernel_rfl) ?_ (by assumption) ?_; rotate_left; (focus (intro wS hSw; skip; go_simp; try with_reducible rfl)); (try simp only [Act.put, List.setIfInBounds_toArray, List.set_cons_zero, List.set_cons_succ]))
    (refine drop_at 3 (some 8) rfl rfl (by kernel_rfl) (by kernel_rfl) (by kernel_rfl) (fun _ _ _ h => h) (by kernel_rfl) (by assumption) ?_; (try simp only [Act.put, List.setIfInBounds_toArray, List.set_cons_zero, List.set_cons_succ]))
    (refine drop_at 4 (some 9) rfl rfl (by kernel_rfl) (by kernel_rfl) (by kernel_rfl) (fun _ _ _ h => h) (by kernel_rfl) (by assumption) ?_; (try simp only [Act.put, List.setIfInBounds_toArray, List.set_cons_zero, List.set_cons_succ]))
    (refine drop_at 5 (some 10) rfl rfl (by kernel_rfl) (by kernel_rfl) (by kernel_rfl) (fun _ _ _ h => h) (by kernel_rfl) (by assumption) ?_; (try simp only [Act.put, List.setIfInBounds_toArray, List.set_cons_zero, List.set_cons_succ]))
    (refine drop_at 6 (some 11) rfl rfl (by kernel_rfl) (by kernel_rfl) (by kernel_rfl) (fun _ _ _ h => h) (by kernel_rfl) (by assumption) ?_; (try simp only [Act.put, List.setIfInBounds_toArray, List.set_cons_zero, List.set_cons_succ]))
    (refine drop_at 7 (some 12) rfl rfl (by kernel_rfl) (by kernel_rfl) (by kernel_rfl) (fun _ _ _ h => h) (by kernel_rfl) (by assumption) ?_; (try simp only [Act.put, List.setIfInBounds_toArray, List.set_cons_zero, List.set_cons_succ]))
    (refine drop_at 8 (some 13) rfl rfl (by kernel_rfl) (by kernel_rfl) (by kernel_rfl) (fun _ _ _ h => h) (by kernel_rfl) (by assumption) ?_; (try simp only [Act.put, List.setIfInBounds_toArray, List.set_cons_zero, List.set_cons_succ]))
    (refine drop_at 9 (some 14) rfl rfl (by kernel_rfl) (by kernel_rfl) (by kernel_rfl) (fun _ _ _ h => h) (by kernel_rfl) (by assumption) ?_; (try simp only [Act.put, List.setIfInBounds_toArray, List.set_cons_zero, List.set_cons_succ]))
    (refine drop_at 10 (some 15) rfl rfl (by kernel_rfl) (by kernel_rfl) (by kernel_rfl) (fun _ _ _ h => h) (by kernel_rfl) (by assumption) ?_; (try simp only [Act.put, List.setIfInBounds_toArray, List.set_cons_zero, List.set_cons_succ]))
    (refine drop_at 11 (some 16) rfl rfl (by kernel_rfl) (by kernel_rfl) (by kernel_rfl) (fun _ _ _ h => h) (by kernel_rfl) (by assumption) ?_; (try simp only [Act.put, List.setIfInBounds_toArray, List.set_cons_zero, List.set_cons_succ]))
    (refine drop_at 12 (some 17) rfl rfl (by kernel_rfl) (by kernel_rfl) (by kernel_rfl) (fun _ _ _ h => h) (by kernel_rfl) (by assumption) ?_; (try simp only [Act.put, List.setIfInBounds_toArray, List.set_cons_zero, List.set_cons_succ]))
    (refine drop_at 13 (some 18) rfl rfl (by kernel_rfl) (by kernel_rfl) (by kernel_rfl) (fun _ _ _ h => h) (by kernel_rfl) (by assumption) ?_; (try simp only [Act.put, List.setIfInBounds_toArray, List.set_cons_zero, List.set_cons_succ]))
    (refine drop_at 14 (some 19) rfl rfl (by kernel_rfl) (by kernel_rfl) (by kernel_rfl) (fun _ _ _ h => h) (by kernel_rfl) (by assumption) ?_; (try simp only [Act.put, List.setIfInBounds_toArray, List.set_cons_zero, List.set_cons_succ]))
    (refine drop_at 15 (some 20) rfl rfl (by kernel_rfl) (by kernel_rfl) (by kernel_rfl) (fun _ _ _ h => h) (by kernel_rfl) (by assumption) ?_; (try simp only [Act.put, List.setIfInBounds_toArray, List.set_cons_zero, List.set_cons_succ]))
    (refine drop_at 16 (some 21) rfl rfl (by kernel_rfl) (by kernel_rfl) (by kernel_rfl) (fun _ _ _ h => h) (by kernel_rfl) (by assumption) ?_; (try simp only [Act.put, List.setIfInBounds_toArray, List.set_cons_zero, List.set_cons_succ]))
    (refine take_at 17 (some 22) rfl rfl (by kernel_rfl) (by kernel_rfl) (by kernel_rfl) (fun _ _ _ h => h) (v := ?_) (by kernel_rfl) ?_ (by assumption) ?_; rotate_left; (focus (intro wS hSw; skip; go_simp; try with_reducible rfl)); (try simp only [Act.put, List.setIfInBounds_toArray, List.set_cons_zero, List.set_cons_succ]))
    (refine take_at 18 (some 4) rfl rfl (by kernel_rfl) (by kernel_rfl) (by kernel_rfl) (fun _ _ _ h => h) (v := ?_) (by kernel_rfl) ?_ (by assumption) ?_; rotate_left; (focus (intro wS hSw; skip; go_simp; try with_reducible rfl)); (try simp only [Act.put, List.setIfInBounds_toArray, List.set_cons_zero, List.set_cons_succ]))
    refine wpAnyH_done (by kernel_rfl) ?_ _
    go_wp2_with fail
    go_ret
    exact ⟨rfl, Hn0.out.trans hn1 (fun _ _ h => h)⟩
  · have hb : 0 ≤ bits ∧ bits ≤ 32 := by
      unfold mayB at hm
      have := of_decide_eq_true hm
      exact ⟨this.1, this.2.1⟩
    obtain ⟨b, rfl⟩ : ∃ b : Nat, bits = b := ⟨bits.toNat, by omega⟩
    have hb32 : b ≤ 32 := by omega
    have hh : hasB ip b a = decide (a / 2 ^ (32 - b) = ip / 2 ^ (32 - b)) := by unfold hasB; rw [hm]; simp
    rw [hh]
    rw [hm] at Hmay
    have hsize := fun W => rt_size b hb32 W
    have hq1 : 1 ≤ 2 ^ (32 - b) := Nat.one_le_two_pow
    generalize hdd : decide (a / 2 ^ (32 - b) = ip / 2 ^ (32 - b)) = dd at *
    generalize 2 ^ (32 - b) = q at *
    have hq0 : ((q : Int) == 0) = false := by simp; omega
    have hq0' : ¬ ((q : Int) = 0) := by omega
    have hwi : IntKind.u64.wrap (ip : Int) = ip := by rw [IntKind.wrap_u64]; omega
    have hwa : IntKind.u64.wrap (a : Int) = a := by rw [IntKind.wrap_u64]; omega
    have htm : (ip : Int).tdiv (q : Int) = ((ip / q : Nat) : Int) := by rw [Int.tdiv_eq_ediv_of_nonneg (by omega)]; simp
    have htm2 : (a : Int).tdiv (q : Int) = ((a / q : Nat) : Int) := by rw [Int.tdiv_eq_ediv_of_nonneg (by omega)]; simp
    have hl1 : ip / q ≤ ip := Nat.div_le_self _ _
    have hl2 : a / q ≤ a := Nat.div_le_self _ _
    have hz2 : ((((a / q : Nat) : Int)) == ((ip / q : Nat) : Int)) = dd := by rw [← hdd, Bool.eq_iff_iff, beq_iff_eq, decide_eq_true_eq]; omega
    have hq00 : ¬ q = 0 := by omega
    have hq01 : (q == 0) = false := by simpa using hq00
    generalize ip / q = u at *
    generalize a / q = v at *
    have hwr : IntKind.u64.wrap (u : Int) = u := by
      have hu : u < 4294967296 := by omega
      clear hwi hwa
      rw [IntKind.wrap_u64]; omega
    have hwr2 : IntKind.u64.wrap (v : Int) = v := by
      have hv : v < 4294967296 := by omega
      clear hwi hwa hwr
      rw [IntKind.wrap_u64]; omega
    have Hsize := Lib.hid hsize
    clear hsize hm hh hdd hb hip ha hq1 hl1 hl2
    go_enter Tryd.func25, Tryd.ntmps25
    go_wp2_with fail
    have hc0 : (w.alloc (.cells #[.int .u32 ip, .int .i64 b] 29)).cell? ⟨w.heap.size, 0, none⟩ = some (.int .u32 ip) := by simp
    have hc1 : (w.alloc (.cells #[.int .u32 ip, .int .i64 b] 29)).cell? ⟨w.heap.size, 1, none⟩ = some (.int .i64 b) := by simp
    have hn0 : NoW w (w.alloc (.cells #[.int .u32 ip, .int .i64 b] 29)) := (Fp.refl _ _).alloc _
    generalize w.alloc (.cells #[.int .u32 ip, .int .i64 b] 29) = w0 at *
    generalize w.heap.size = g at *
    have h0 := hc0
    have h1 := hc1
    have d0 : w0.drew.cell? ⟨g, 0, none⟩ = some (.int .u32 ip) := hc0
    have d1 := (show w0.drew.cell? ⟨g, 1, none⟩ = _ from hc1)
    have Hn0 := Lib.hid hn0
    clear hn0 hc0 hc1
    have lg : g < w0.heap.size := cell_lt h0
    have hkk : ∀ wx, NoW w0 wx → wx.cell? ⟨g, 0, none⟩ = some (.int .u32 ip) ∧ wx.cell? ⟨g, 1, none⟩ = some (.int .i64 b) :=
      fun wx hn => ⟨(hn.cell (p := ⟨g, 0, none⟩) lg id).trans h0, (hn.cell (p := ⟨g, 1, none⟩) lg id).trans h1⟩
    have Hkk := Lib.hid hkk
    clear hkk h0 h1
    go_region_held3 (fun wx => wx.cell? ⟨g, 0, none⟩ = some (.int .u32 ip) ∧ wx.cell? ⟨g, 1, none⟩ = some (.int .i64 b)) (first | exact Hkk.out _ (Fp.drew (Fp.refl _ _)) | exact Hkk.out _ hn1 | exact Hkk.out _ (hn1))
      (first | (go_at_call 24; refine (Hmay.out _).mono ?_; rintro e w1 ⟨rfl, hp1⟩; have hn1 : NoW w0 w1 := (Fp.drew (Fp.refl _ _)).trans hp1 (fun _ _ h => h); clear hp1) | (go_at_call 38; refine (Hsize.out _).mono ?_; rintro e w2 ⟨rfl, rfl⟩))
    go_wp2_with fail
    go_ret
    exact ⟨rfl, Hn0.out.trans hn1 (fun _ _ h => h)⟩

end Go.Proofs.YtgfmeincfeelmaaDoor
