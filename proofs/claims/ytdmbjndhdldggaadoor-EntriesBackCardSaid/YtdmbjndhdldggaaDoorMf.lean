/- Texts of this proof, merged: EtI EtJ EnK Box EnO. -/
import Derived.Test.YtdmbjndhdldggaaDoorMe
import Derived.Test.YtdmbjndhdldggaaDoorMb
import Derived.Test.YtdmbjndhdldggaaDoorMa
import Derived.Deep.RegionHeld3
import Derived.Test.YtdmbjndhdldggaaDoorMc
import Derived.Test.YtdmbjndhdldggaaDoorMd
namespace Go.Proofs.YtdmbjndhdldggaaDoor
set_option linter.unusedVariables false
set_option linter.unusedSimpArgs false
open Go.RowKit Go.Lib Go.Sort
set_option maxHeartbeats 1000000 in
theorem or_ok (g : Nat) (z : Nat → Int) (w : World) (hc : ∀ j, j < 2 → w.cell? ⟨g, j, none⟩ = some (.int .i64 (z j))) :
    Calls Tryd.prog 51 #[.slice (some ⟨g, 0, none⟩) 2 2] w fun e w' => e = .returned (.int .i64 (if z 0 ≠ 0 then z 0 else z 1)) ∧ w' = w := by
  have Hc := Lib.hid hc
  clear hc
  obtain ⟨res, hres⟩ : ∃ res, res = (if z 0 ≠ 0 then z 0 else z 1) := ⟨_, rfl⟩
  rw [← hres]
  have Hres := Lib.hid hres
  clear hres
  go_enter Tryd.func51, Tryd.ntmps51
  go_wp2_with fail
  go_loopg [8] 3 (fun gg iv wx => ∃ (k : Nat), k ≤ 2 ∧ gg = 3 - k ∧ iv = .int .i64 (k : Int) ∧ wx = w ∧ ∀ j, j < k → z j = 0)
  case atStart => exact ⟨0, by omega, by omega, rfl, rfl, fun j hj => by omega⟩
  case round =>
    obtain ⟨k, hk, hg, rfl, rfl, hz⟩ := hrel
    have Hg := Lib.hid hg
    have Hz := Lib.hid hz
    clear hg hz
    by_cases hlt : k < 2
    · have c0 := Hc.out k hlt
      obtain ⟨zk, hzk⟩ : ∃ zk, zk = z k := ⟨_, rfl⟩
      rw [← hzk] at c0
      have Hzk := Lib.hid hzk
      clear hzk
      by_cases h0 : zk = 0
      · subst h0
        go_wp2_with fail
        go_roundg (2 - k)
        case measure => have := Hg.out; omega
        case rel => exact ⟨k + 1, by omega, by omega, by go_num, rfl, fun j hj => by
            by_cases e : j = k
            · rw [e]; exact Hzk.out.symm
            · exact Hz.out j (by omega)⟩
      · have h1 : (zk != 0) = true := by simpa using h0
        have hr : res = zk := by
          rw [Hres.out, Hzk.out]
          have hk2 : k = 0 ∨ k = 1 := by omega
          rcases hk2 with rfl | rfl
          · rw [if_pos (by rw [← Hzk.out]; exact h0)]
          · rw [if_neg (by have := Hz.out 0 (by omega); simp [this])]
        have HR := Lib.hid hr
        clear h0 hr
        go_wp2_with fail
        go_ret
        exact ⟨by rw [HR.out]; rfl, rfl⟩
    · obtain rfl : k = 2 := by omega
      have hr : res = 0 := by
        rw [Hres.out, Hz.out 0 (by omega), Hz.out 1 (by omega)]; rfl
      have HR := Lib.hid hr
      clear hr
      go_wp2_with fail
      go_ret
      exact ⟨by rw [HR.out]; rfl, rfl⟩

/-- Are the holds the same? -/
def eqAt (oa op ia ip oa2 op2 ia2 ip2 : Nat → Nat) (i : Nat) : Prop := oa i = oa2 i ∧ op i = op2 i ∧ ia i = ia2 i ∧ ip i = ip2 i
instance (oa op ia ip oa2 op2 ia2 ip2 : Nat → Nat) (i : Nat) : Decidable (eqAt oa op ia ip oa2 op2 ia2 ip2 i) := by unfold eqAt; infer_instance
def eqHolds (n n2 : Nat) (oa op ia ip oa2 op2 ia2 ip2 : Nat → Nat) : Bool := decide (n = n2) && (List.range n).all fun i => decide (eqAt oa op ia ip oa2 op2 ia2 ip2 i)
theorem eqHolds_no {n : Nat} {oa op ia ip oa2 op2 ia2 ip2 : Nat → Nat} {k : Nat} (hk : k < n) (h : ¬ eqAt oa op ia ip oa2 op2 ia2 ip2 k) : eqHolds n n oa op ia ip oa2 op2 ia2 ip2 = false := by
  rw [eqHolds, Bool.and_eq_false_iff]
  refine .inr ?_
  rw [List.all_eq_false]
  exact ⟨k, List.mem_range.2 hk, by simpa using h⟩
theorem eqHolds_yes {n : Nat} {oa op ia ip oa2 op2 ia2 ip2 : Nat → Nat} (h : ∀ k, k < n → eqAt oa op ia ip oa2 op2 ia2 ip2 k) : eqHolds n n oa op ia ip oa2 op2 ia2 ip2 = true := by
  rw [eqHolds, Bool.and_eq_true]
  refine ⟨by simp, ?_⟩
  rw [List.all_eq_true]
  intro k hk
  exact decide_eq_true (h k (List.mem_range.1 hk))

theorem hold_neq (a p b q a2 p2 b2 q2 : Nat) (W : World) : (binOp .neq 74 (.agg #[.int .u32 a, .int .u16 p, .int .u32 b, .int .u16 q]) (.agg #[.int .u32 a2, .int .u16 p2, .int .u32 b2, .int .u16 q2])).run Tryd.prog W = .ok (.bool (!decide (a = a2 ∧ p = p2 ∧ b = b2 ∧ q = q2))) W := by
  have beq : ∀ x y : Nat, x ≠ y → ((x : Int) == (y : Int)) = false := fun x y h => beq_eq_false_iff_ne.2 (by omega)
  by_cases h2 : a = a2
  · subst h2
    by_cases h3 : p = p2
    · subst h3
      by_cases h4 : b = b2
      · subst h4
        by_cases h5 : q = q2
        · subst h5; simp only [and_self, decide_true, Bool.not_true]; go_simp
        · have e := beq _ _ h5
          rw [decide_eq_false (by simp [h5])]; go_simp
      · have e := beq _ _ h4
        rw [decide_eq_false (by simp [h4])]; go_simp
    · have e := beq _ _ h3
      rw [decide_eq_false (by simp [h3])]; go_simp
  · have e := beq _ _ h2
    rw [decide_eq_false (by simp [h2])]; go_simp

theorem rhold_neq (a p b q a2 p2 b2 q2 : Nat) (W : World) : (binOp .neq 82 (.agg #[.int .u32 a, .int .u16 p, .int .u32 b, .int .u16 q]) (.agg #[.int .u32 a2, .int .u16 p2, .int .u32 b2, .int .u16 q2])).run Tryd.prog W = .ok (.bool (!decide (a = a2 ∧ p = p2 ∧ b = b2 ∧ q = q2))) W := by
  have beq : ∀ x y : Nat, x ≠ y → ((x : Int) == (y : Int)) = false := fun x y h => beq_eq_false_iff_ne.2 (by omega)
  by_cases h2 : a = a2
  · subst h2
    by_cases h3 : p = p2
    · subst h3
      by_cases h4 : b = b2
      · subst h4
        by_cases h5 : q = q2
        · subst h5; simp only [and_self, decide_true, Bool.not_true]; go_simp
        · have e := beq _ _ h5
          rw [decide_eq_false (by simp [h5])]; go_simp
      · have e := beq _ _ h4
        rw [decide_eq_false (by simp [h4])]; go_simp
    · have e := beq _ _ h3
      rw [decide_eq_false (by simp [h3])]; go_simp
  · have e := beq _ _ h2
    rw [decide_eq_false (by simp [h2])]; go_simp

set_option maxHeartbeats 2000000 in
theorem equal_ok (ad ad2 : Option Addr) (n c n2 c2 : Nat) (oa op ia ip oa2 op2 ia2 ip2 : Nat → Nat) (hn : n ≤ 100) (w : World) (hh1 : HoldsIn w ad n (holdsV oa op ia ip n)) (hh2 : HoldsIn w ad2 n2 (holdsV oa2 op2 ia2 ip2 n2)) :
    Calls Tryd.prog 53 #[.slice ad n c, .slice ad2 n2 c2] w (Ret1 (.bool (eqHolds n n2 oa op ia ip oa2 op2 ia2 ip2)) w) := by
  by_cases hnn : n = n2
  · subst hnn
    have Hh1 := Lib.hid hh1
    have Hh2 := Lib.hid hh2
    clear hh1 hh2
    go_enter Tryd.func53, Tryd.ntmps53
    go_wp2_with fail
    go_loopg [13] (n + 1) (fun gg iv wx => ∃ (k : Nat), k ≤ n ∧ gg = n + 1 - k ∧ iv = .int .i64 (k : Int) ∧ NoW w wx ∧ ∀ j, j < k → eqAt oa op ia ip oa2 op2 ia2 ip2 j)
    case atStart => exact ⟨0, by omega, by omega, rfl, Fp.refl _ _, fun j hj => by omega⟩
    case round =>
      obtain ⟨k, hk, hg, rfl, hf, hno⟩ := hrel
      have Hg := Lib.hid hg
      have Hf := Lib.hid hf
      have Hno := Lib.hid hno
      clear hg hf hno
      by_cases hlt : k < n
      · obtain ⟨hb1, ho1, rfl, hh1⟩ := Hh1.out (by omega)
        obtain ⟨hb2, ho2, rfl, hh2⟩ := Hh2.out (by omega)
        have hhr1 := hh1.low Hf.out
        have hhr2 := hh2.low Hf.out
        have h1_0 : wr.cell? ⟨hb1, ho1 + k * 4, none⟩ = some (.int .u32 (oa k)) := hhr1.cell (k * 4 + 0) _ (holdsV_get oa op ia ip n k 0 hlt (by omega))
        have h1_1 : wr.cell? ⟨hb1, ho1 + k * 4 + 1, none⟩ = some (.int .u16 (op k)) := hhr1.cell (k * 4 + 1) _ (holdsV_get oa op ia ip n k 1 hlt (by omega))
        have h1_2 : wr.cell? ⟨hb1, ho1 + k * 4 + 2, none⟩ = some (.int .u32 (ia k)) := hhr1.cell (k * 4 + 2) _ (holdsV_get oa op ia ip n k 2 hlt (by omega))
        have h1_3 : wr.cell? ⟨hb1, ho1 + k * 4 + 3, none⟩ = some (.int .u16 (ip k)) := hhr1.cell (k * 4 + 3) _ (holdsV_get oa op ia ip n k 3 hlt (by omega))
        have h2_0 : wr.cell? ⟨hb2, ho2 + k * 4, none⟩ = some (.int .u32 (oa2 k)) := hhr2.cell (k * 4 + 0) _ (holdsV_get oa2 op2 ia2 ip2 n k 0 hlt (by omega))
        have h2_1 : wr.cell? ⟨hb2, ho2 + k * 4 + 1, none⟩ = some (.int .u16 (op2 k)) := hhr2.cell (k * 4 + 1) _ (holdsV_get oa2 op2 ia2 ip2 n k 1 hlt (by omega))
        have h2_2 : wr.cell? ⟨hb2, ho2 + k * 4 + 2, none⟩ = some (.int .u32 (ia2 k)) := hhr2.cell (k * 4 + 2) _ (holdsV_get oa2 op2 ia2 ip2 n k 2 hlt (by omega))
        have h2_3 : wr.cell? ⟨hb2, ho2 + k * 4 + 3, none⟩ = some (.int .u16 (ip2 k)) := hhr2.cell (k * 4 + 3) _ (holdsV_get oa2 op2 ia2 ip2 n k 3 hlt (by omega))
        have lhb1 : hb1 < wr.heap.size := hhr1.lt
        have lhb2 : hb2 < wr.heap.size := hhr2.lt
        clear hh1 hh2 hhr1 hhr2
        have hkk : decide ((k : Int) < (n : Int)) = true := decide_eq_true (by omega)
        have hneq := fun W => hold_neq (oa k) (op k) (ia k) (ip k) (oa2 k) (op2 k) (ia2 k) (ip2 k) W
        by_cases heq : eqAt oa op ia ip oa2 op2 ia2 ip2 k
        · rw [show decide (oa k = oa2 k ∧ op k = op2 k ∧ ia k = ia2 k ∧ ip k = ip2 k) = true from decide_eq_true heq] at hneq
          have Heq := Lib.hid heq
          clear heq
          go_wp2_with fail
          refine wp_region_held_drew (S := fun wx => NoW wr wx) (by kernel_rfl) (Fp.drew (Fp.refl _ _)) (fun hHeld => ?_)
          (refine take_at 0 (some 16) rfl rfl (by kernel_rfl) (by kernel_rfl) (by kernel_rfl) (fun _ _ _ h => h) (v := ?_) (by kernel_rfl) ?_ (by assumption) ?_; rotate_left; (focus (intro wS hSw; skip; go_simp; try with_reducible rfl)); (try simp only [Act.put, List.setIfInBounds_toArray, List.set_cons_zero, List.set_cons_succ]))
          (refine take_at 1 (some 17) rfl rfl (by kernel_rfl) (by kernel_rfl) (by kernel_rfl) (fun _ _ _ h => h) (v := ?_) (by kernel_rfl) ?_ (by assumption) ?_; rotate_left; (focus (intro wS hSw; skip; go_simp; try with_reducible rfl)); (try simp only [Act.put, List.setIfInBounds_toArray, List.set_cons_zero, List.set_cons_succ]))
          (refine take_at 2 (some 18) rfl rfl (by kernel_rfl) (by kernel_rfl) (by kernel_rfl) (fun _ _ _ h => h) (v := ?_) (by kernel_rfl) ?_ (by assumption) ?_; rotate_left; (focus (intro wS hSw; skip; go_simp; try with_reducible rfl)); (try simp only [Act.put, List.setIfInBounds_toArray, List.set_cons_zero, List.set_cons_succ]))
          (refine take_at 3 (some 19) rfl rfl (by kernel_rfl) (by kernel_rfl) (by kernel_rfl) (fun _ _ _ h => h) (v := ?_) (by kernel_rfl) ?_ (by assumption) ?_; rotate_left; (focus (intro wS hSw; (have q10 := (hSw.cell (p := ⟨hb1, ho1 + k * 4, none⟩) lhb1 id).trans h1_0); (have q11 := (hSw.cell (p := ⟨hb1, ho1 + k * 4 + 1, none⟩) lhb1 id).trans h1_1); (have q12 := (hSw.cell (p := ⟨hb1, ho1 + k * 4 + 2, none⟩) lhb1 id).trans h1_2); (have q13 := (hSw.cell (p := ⟨hb1, ho1 + k * 4 + 3, none⟩) lhb1 id).trans h1_3); go_simp; try with_reducible rfl)); (try simp only [Act.put, List.setIfInBounds_toArray, List.set_cons_zero, List.set_cons_succ]))
          (refine take_at 4 (some 20) rfl rfl (by kernel_rfl) (by kernel_rfl) (by kernel_rfl) (fun _ _ _ h => h) (v := ?_) (by kernel_rfl) ?_ (by assumption) ?_; rotate_left; (focus (intro wS hSw; skip; go_simp; try with_reducible rfl)); (try simp only [Act.put, List.setIfInBounds_toArray, List.set_cons_zero, List.set_cons_succ]))
          (refine take_at 5 (some 21) rfl rfl (by kernel_rfl) (by kernel_rfl) (by kernel_rfl) (fun _ _ _ h => h) (v := ?_) (by kernel_rfl) ?_ (by assumption) ?_; rotate_left; (focus (intro wS hSw; skip; go_simp; try with_reducible rfl)); (try simp only [Act.put, List.setIfInBounds_toArray, List.set_cons_zero, List.set_cons_succ]))
          (refine take_at 6 (some 22) rfl rfl (by kernel_rfl) (by kernel_rfl) (by kernel_rfl) (fun _ _ _ h => h) (v := ?_) (by kernel_rfl) ?_ (by assumption) ?_; rotate_left; (focus (intro wS hSw; skip; go_simp; try with_reducible rfl)); (try simp only [Act.put, List.setIfInBounds_toArray, List.set_cons_zero, List.set_cons_succ]))
          (refine take_at 7 (some 23) rfl rfl (by kernel_rfl) (by kernel_rfl) (by kernel_rfl) (fun _ _ _ h => h) (v := ?_) (by kernel_rfl) ?_ (by assumption) ?_; rotate_left; (focus (intro wS hSw; (have q20 := (hSw.cell (p := ⟨hb2, ho2 + k * 4, none⟩) lhb2 id).trans h2_0); (have q21 := (hSw.cell (p := ⟨hb2, ho2 + k * 4 + 1, none⟩) lhb2 id).trans h2_1); (have q22 := (hSw.cell (p := ⟨hb2, ho2 + k * 4 + 2, none⟩) lhb2 id).trans h2_2); (have q23 := (hSw.cell (p := ⟨hb2, ho2 + k * 4 + 3, none⟩) lhb2 id).trans h2_3); go_simp; try with_reducible rfl)); (try simp only [Act.put, List.setIfInBounds_toArray, List.set_cons_zero, List.set_cons_succ]))
          (refine take_at 8 (some 24) rfl rfl (by kernel_rfl) (by kernel_rfl) (by kernel_rfl) (fun _ _ _ h => h) (v := ?_) (by kernel_rfl) ?_ (by assumption) ?_; rotate_left; (focus (intro wS hSw; skip; go_simp; try with_reducible rfl)); (try simp only [Act.put, List.setIfInBounds_toArray, List.set_cons_zero, List.set_cons_succ]))
          refine wpAnyH_done (by kernel_rfl) ?_ _
          have Hf2 := Lib.hid (Hf.out.trans hHeld (fun _ _ h => h))
          clear hHeld h1_0 h1_1 h1_2 h1_3 h2_0 h2_1 h2_2 h2_3
          go_wp2_with fail
          go_roundg (n - k)
          case measure => have := Hg.out; omega
          case rel => exact ⟨k + 1, by omega, by omega, by go_num, Hf2.out, fun j hj => by
              by_cases e : j = k
              · rw [e]; exact Heq.out
              · exact Hno.out j (by omega)⟩
        · rw [show decide (oa k = oa2 k ∧ op k = op2 k ∧ ia k = ia2 k ∧ ip k = ip2 k) = false from decide_eq_false heq] at hneq
          have HE := Lib.hid (eqHolds_no hlt heq)
          clear heq
          go_wp2_with fail
          refine wp_region_held_drew (S := fun wx => NoW wr wx) (by kernel_rfl) (Fp.drew (Fp.refl _ _)) (fun hHeld => ?_)
          (refine take_at 0 (some 16) rfl rfl (by kernel_rfl) (by kernel_rfl) (by kernel_rfl) (fun _ _ _ h => h) (v := ?_) (by kernel_rfl) ?_ (by assumption) ?_; rotate_left; (focus (intro wS hSw; skip; go_simp; try with_reducible rfl)); (try simp only [Act.put, List.setIfInBounds_toArray, List.set_cons_zero, List.set_cons_succ]))
          (refine take_at 1 (some 17) rfl rfl (by kernel_rfl) (by kernel_rfl) (by kernel_rfl) (fun _ _ _ h => h) (v := ?_) (by kernel_rfl) ?_ (by assumption) ?_; rotate_left; (focus (intro wS hSw; skip; go_simp; try with_reducible rfl)); (try simp only [Act.put, List.setIfInBounds_toArray, List.set_cons_zero, List.set_cons_succ]))
          (refine take_at 2 (some 18) rfl rfl (by kernel_rfl) (by kernel_rfl) (by kernel_rfl) (fun _ _ _ h => h) (v := ?_) (by kernel_rfl) ?_ (by assumption) ?_; rotate_left; (focus (intro wS hSw; skip; go_simp; try with_reducible rfl)); (try simp only [Act.put, List.setIfInBounds_toArray, List.set_cons_zero, List.set_cons_succ]))
          (refine take_at 3 (some 19) rfl rfl (by kernel_rfl) (by kernel_rfl) (by kernel_rfl) (fun _ _ _ h => h) (v := ?_) (by kernel_rfl) ?_ (by assumption) ?_; rotate_left; (focus (intro wS hSw; (have q10 := (hSw.cell (p := ⟨hb1, ho1 + k * 4, none⟩) lhb1 id).trans h1_0); (have q11 := (hSw.cell (p := ⟨hb1, ho1 + k * 4 + 1, none⟩) lhb1 id).trans h1_1); (have q12 := (hSw.cell (p := ⟨hb1, ho1 + k * 4 + 2, none⟩) lhb1 id).trans h1_2); (have q13 := (hSw.cell (p := ⟨hb1, ho1 + k * 4 + 3, none⟩) lhb1 id).trans h1_3); go_simp; try with_reducible rfl)); (try simp only [Act.put, List.setIfInBounds_toArray, List.set_cons_zero, List.set_cons_succ]))
          (refine take_at 4 (some 20) rfl rfl (by kernel_rfl) (by kernel_rfl) (by kernel_rfl) (fun _ _ _ h => h) (v := ?_) (by kernel_rfl) ?_ (by assumption) ?_; rotate_left; (focus (intro wS hSw; skip; go_simp; try with_reducible rfl)); (try simp only [Act.put, List.setIfInBounds_toArray, List.set_cons_zero, List.set_cons_succ]))
          (refine take_at 5 (some 21) rfl rfl (by kernel_rfl) (by kernel_rfl) (by kernel_rfl) (fun _ _ _ h => h) (v := ?_) (by kernel_rfl) ?_ (by assumption) ?_; rotate_left; (focus (intro wS hSw; skip; go_simp; try with_reducible rfl)); (try simp only [Act.put, List.setIfInBounds_toArray, List.set_cons_zero, List.set_cons_succ]))
          (refine take_at 6 (some 22) rfl rfl (by kernel_rfl) (by kernel_rfl) (by kernel_rfl) (fun _ _ _ h => h) (v := ?_) (by kernel_rfl) ?_ (by assumption) ?_; rotate_left; (focus (intro wS hSw; skip; go_simp; try with_reducible rfl)); (try simp only [Act.put, List.setIfInBounds_toArray, List.set_cons_zero, List.set_cons_succ]))
          (refine take_at 7 (some 23) rfl rfl (by kernel_rfl) (by kernel_rfl) (by kernel_rfl) (fun _ _ _ h => h) (v := ?_) (by kernel_rfl) ?_ (by assumption) ?_; rotate_left; (focus (intro wS hSw; (have q20 := (hSw.cell (p := ⟨hb2, ho2 + k * 4, none⟩) lhb2 id).trans h2_0); (have q21 := (hSw.cell (p := ⟨hb2, ho2 + k * 4 + 1, none⟩) lhb2 id).trans h2_1); (have q22 := (hSw.cell (p := ⟨hb2, ho2 + k * 4 + 2, none⟩) lhb2 id).trans h2_2); (have q23 := (hSw.cell (p := ⟨hb2, ho2 + k * 4 + 3, none⟩) lhb2 id).trans h2_3); go_simp; try with_reducible rfl)); (try simp only [Act.put, List.setIfInBounds_toArray, List.set_cons_zero, List.set_cons_succ]))
          (refine take_at 8 (some 24) rfl rfl (by kernel_rfl) (by kernel_rfl) (by kernel_rfl) (fun _ _ _ h => h) (v := ?_) (by kernel_rfl) ?_ (by assumption) ?_; rotate_left; (focus (intro wS hSw; skip; go_simp; try with_reducible rfl)); (try simp only [Act.put, List.setIfInBounds_toArray, List.set_cons_zero, List.set_cons_succ]))
          refine wpAnyH_done (by kernel_rfl) ?_ _
          have Hf2 := Lib.hid (Hf.out.trans hHeld (fun _ _ h => h))
          clear hHeld
          go_wp2_with fail
          go_ret
          exact ⟨by rw [HE.out]; rfl, Hf2.out⟩

      · obtain rfl : k = n := by omega
        have HE := Lib.hid (eqHolds_yes Hno.out)
        go_wp2_with fail
        go_ret
        exact ⟨by rw [HE.out]; rfl, Hf.out⟩
  · have e : eqHolds n n2 oa op ia ip oa2 op2 ia2 ip2 = false := by simp [eqHolds, hnn]
    rw [e]
    have e2 : ((n : Int) != (n2 : Int)) = true := by simp; omega
    clear e hnn hh1 hh2
    go_enter Tryd.func53, Tryd.ntmps53
    go_wp2_with fail
    go_ret
    exact ⟨rfl, Fp.refl _ _⟩
end Go.Proofs.YtdmbjndhdldggaaDoor

namespace Go.Proofs.YtdmbjndhdldggaaDoor
set_option linter.unusedVariables false
set_option linter.unusedSimpArgs false
open Go.RowKit Go.Lib Go.Sort
/-- Are two entries the same? -/

theorem wrap_sub0 (x y : Int) (hx : -9223372036854775808 ≤ x ∧ x ≤ 9223372036854775807) (hy : -9223372036854775808 ≤ y ∧ y ≤ 9223372036854775807) : IntKind.i64.wrap (x - y) = 0 ↔ x = y := by
  constructor
  · intro h
    have h1 : (x - y) % 18446744073709551616 = 0 ∨ ¬ (x - y) % 18446744073709551616 = 0 := Classical.em _
    simp only [IntKind.wrap, IntKind.signed, IntKind.bits] at h
    simp at h
    omega
  · rintro rfl
    simp [IntKind.wrap, IntKind.signed, IntKind.bits]

set_option maxHeartbeats 8000000 in
set_option maxRecDepth 100000 in
theorem same_ok (r a p b q r2 a2 p2 b2 q2 r3 a3 p3 b3 q3 r4 a4 p4 b4 q4 : Nat) (st dl st2 dl2 : Int) (ad ad2 : Option Addr) (n c n2 c2 : Nat) (oa op ia ip oa2 op2 ia2 ip2 : Nat → Nat) (hst : -9223372036854775808 ≤ st ∧ st ≤ 9223372036854775807) (hst2 : -9223372036854775808 ≤ st2 ∧ st2 ≤ 9223372036854775807) (hn : n ≤ 100) (w : World) (hh1 : HoldsIn w ad n (holdsV oa op ia ip n)) (hh2 : HoldsIn w ad2 n2 (holdsV oa2 op2 ia2 ip2 n2)) :
    Calls Tryd.prog 29 #[.agg #[.int .u8 r, .int .u32 a, .int .u16 p, .int .u32 b, .int .u16 q, .int .u8 r2, .int .u32 a2, .int .u16 p2, .int .u32 b2, .int .u16 q2, .int .i64 st, .int .i64 dl, .slice ad n c], .agg #[.int .u8 r3, .int .u32 a3, .int .u16 p3, .int .u32 b3, .int .u16 q3, .int .u8 r4, .int .u32 a4, .int .u16 p4, .int .u32 b4, .int .u16 q4, .int .i64 st2, .int .i64 dl2, .slice ad2 n2 c2]] w (Ret1 (.bool (decide (r = r3 ∧ a = a3 ∧ p = p3 ∧ b = b3 ∧ q = q3) && decide (r2 = r4 ∧ a2 = a4 ∧ p2 = p4 ∧ b2 = b4 ∧ q2 = q4) && decide (st = st2 ∧ dl = dl2) && eqHolds n n2 oa op ia ip oa2 op2 ia2 ip2)) w) := by
  have e1 := fun W => tup_eq2 r3 a3 p3 b3 q3 r a p b q W
  have e1 := fun W => tup_eq2 r a p b q r3 a3 p3 b3 q3 W
  have e2 := fun W => tup_eq2 r2 a2 p2 b2 q2 r4 a4 p4 b4 q4 W
  have Kq := Lib.hid (fun W (h : NoW w W) => equal_ok ad ad2 n c n2 c2 oa op ia ip oa2 op2 ia2 ip2 hn W (hh1.low h) (hh2.low h))
  obtain ⟨d, hd⟩ : ∃ d, IntKind.i64.wrap (st - st2) = d := ⟨_, rfl⟩
  have hd0 : d = 0 ↔ st = st2 := by rw [← hd]; exact wrap_sub0 st st2 hst hst2
  have kc := fun W => (show Calls Tryd.prog 52 #[.int .i64 dl, .int .i64 dl2] W (Ret1 (.int .i64 (Lib.compareInt dl dl2)) W) from (Tryd.cmp_Compare_int dl dl2 W).mono fun e w' ⟨h1, h2⟩ => ⟨h1, by rw [h2]; exact Fp.refl _ _⟩)
  obtain ⟨cm, hcm⟩ : ∃ cm, Lib.compareInt dl dl2 = cm := ⟨_, rfl⟩
  have hcm0 : cm = 0 ↔ dl = dl2 := by rw [← hcm, Lib.compareInt]; split <;> (try split) <;> omega
  rw [hcm] at kc
  have hor : ((if d ≠ 0 then d else cm) == 0) = decide (st = st2 ∧ dl = dl2) := by
    by_cases h : d = 0
    · rw [if_neg (by simpa using h)]
      by_cases h' : cm = 0
      · rw [h', decide_eq_true ⟨hd0.1 h, hcm0.1 h'⟩]; rfl
      · rw [decide_eq_false (fun e => h' (hcm0.2 e.2))]; exact beq_eq_false_iff_ne.2 h'
    · rw [if_pos h, decide_eq_false (fun e => h (hd0.2 e.1))]; exact beq_eq_false_iff_ne.2 h
  have Kc := Lib.hid kc
  clear kc hcm0 hd0 hcm hst hst2 hh1 hh2
  generalize eqHolds n n2 oa op ia ip oa2 op2 ia2 ip2 = eh at *
  rcases h1 : decide (r = r3 ∧ a = a3 ∧ p = p3 ∧ b = b3 ∧ q = q3) with _ | _
  · rw [h1] at e1
    simp only [Bool.false_and]
    clear h1 hor
    go_enter Tryd.func29, Tryd.ntmps29
    go_wp2_with fail
    have hw0 : NoW w ((w.alloc (.cells #[.int .u8 r, .int .u32 a, .int .u16 p, .int .u32 b, .int .u16 q, .int .u8 r2, .int .u32 a2, .int .u16 p2, .int .u32 b2, .int .u16 q2, .int .i64 st, .int .i64 dl, .slice ad n c] 31)).alloc (.cells #[.int .u8 r3, .int .u32 a3, .int .u16 p3, .int .u32 b3, .int .u16 q3, .int .u8 r4, .int .u32 a4, .int .u16 p4, .int .u32 b4, .int .u16 q4, .int .i64 st2, .int .i64 dl2, .slice ad2 n2 c2] 31)) := ((Fp.refl _ _).alloc _).alloc _
    obtain ⟨hb0, hb1⟩ := box2 w (.cells #[.int .u8 r, .int .u32 a, .int .u16 p, .int .u32 b, .int .u16 q, .int .u8 r2, .int .u32 a2, .int .u16 p2, .int .u32 b2, .int .u16 q2, .int .i64 st, .int .i64 dl, .slice ad n c] 31) (.cells #[.int .u8 r3, .int .u32 a3, .int .u16 p3, .int .u32 b3, .int .u16 q3, .int .u8 r4, .int .u32 a4, .int .u16 p4, .int .u32 b4, .int .u16 q4, .int .i64 st2, .int .i64 dl2, .slice ad2 n2 c2] 31)
    generalize (w.alloc (.cells #[.int .u8 r, .int .u32 a, .int .u16 p, .int .u32 b, .int .u16 q, .int .u8 r2, .int .u32 a2, .int .u16 p2, .int .u32 b2, .int .u16 q2, .int .i64 st, .int .i64 dl, .slice ad n c] 31)).alloc (.cells #[.int .u8 r3, .int .u32 a3, .int .u16 p3, .int .u32 b3, .int .u16 q3, .int .u8 r4, .int .u32 a4, .int .u16 p4, .int .u32 b4, .int .u16 q4, .int .i64 st2, .int .i64 dl2, .slice ad2 n2 c2] 31) = w0 at *
    have B1 := Lib.hid hb0
    have B2 := Lib.hid hb1
    have Hw0 := Lib.hid hw0
    clear hb0 hb1 hw0
    generalize w.heap.size + 1 = g2 at *
    generalize w.heap.size = g1 at *
    have x1_0 : w0.cell? ⟨g1, 0, none⟩ = some (.int .u8 r) := by simp [World.cell?, B1.out]
    have x1_1 : w0.cell? ⟨g1, 1, none⟩ = some (.int .u32 a) := by simp [World.cell?, B1.out]
    have x1_2 : w0.cell? ⟨g1, 2, none⟩ = some (.int .u16 p) := by simp [World.cell?, B1.out]
    have x1_3 : w0.cell? ⟨g1, 3, none⟩ = some (.int .u32 b) := by simp [World.cell?, B1.out]
    have x1_4 : w0.cell? ⟨g1, 4, none⟩ = some (.int .u16 q) := by simp [World.cell?, B1.out]
    have x1_5 : w0.cell? ⟨g1, 5, none⟩ = some (.int .u8 r2) := by simp [World.cell?, B1.out]
    have x1_6 : w0.cell? ⟨g1, 6, none⟩ = some (.int .u32 a2) := by simp [World.cell?, B1.out]
    have x1_7 : w0.cell? ⟨g1, 7, none⟩ = some (.int .u16 p2) := by simp [World.cell?, B1.out]
    have x1_8 : w0.cell? ⟨g1, 8, none⟩ = some (.int .u32 b2) := by simp [World.cell?, B1.out]
    have x1_9 : w0.cell? ⟨g1, 9, none⟩ = some (.int .u16 q2) := by simp [World.cell?, B1.out]
    have x1_10 : w0.cell? ⟨g1, 10, none⟩ = some (.int .i64 st) := by simp [World.cell?, B1.out]
    have x1_11 : w0.cell? ⟨g1, 11, none⟩ = some (.int .i64 dl) := by simp [World.cell?, B1.out]
    have x1_12 : w0.cell? ⟨g1, 12, none⟩ = some (.slice ad n c) := by simp [World.cell?, B1.out]
    have lg1 : g1 < w0.heap.size := cell_lt x1_0
    have x2_0 : w0.cell? ⟨g2, 0, none⟩ = some (.int .u8 r3) := by simp [World.cell?, B2.out]
    have x2_1 : w0.cell? ⟨g2, 1, none⟩ = some (.int .u32 a3) := by simp [World.cell?, B2.out]
    have x2_2 : w0.cell? ⟨g2, 2, none⟩ = some (.int .u16 p3) := by simp [World.cell?, B2.out]
    have x2_3 : w0.cell? ⟨g2, 3, none⟩ = some (.int .u32 b3) := by simp [World.cell?, B2.out]
    have x2_4 : w0.cell? ⟨g2, 4, none⟩ = some (.int .u16 q3) := by simp [World.cell?, B2.out]
    have x2_5 : w0.cell? ⟨g2, 5, none⟩ = some (.int .u8 r4) := by simp [World.cell?, B2.out]
    have x2_6 : w0.cell? ⟨g2, 6, none⟩ = some (.int .u32 a4) := by simp [World.cell?, B2.out]
    have x2_7 : w0.cell? ⟨g2, 7, none⟩ = some (.int .u16 p4) := by simp [World.cell?, B2.out]
    have x2_8 : w0.cell? ⟨g2, 8, none⟩ = some (.int .u32 b4) := by simp [World.cell?, B2.out]
    have x2_9 : w0.cell? ⟨g2, 9, none⟩ = some (.int .u16 q4) := by simp [World.cell?, B2.out]
    have x2_10 : w0.cell? ⟨g2, 10, none⟩ = some (.int .i64 st2) := by simp [World.cell?, B2.out]
    have x2_11 : w0.cell? ⟨g2, 11, none⟩ = some (.int .i64 dl2) := by simp [World.cell?, B2.out]
    have x2_12 : w0.cell? ⟨g2, 12, none⟩ = some (.slice ad2 n2 c2) := by simp [World.cell?, B2.out]
    have lg2 : g2 < w0.heap.size := cell_lt x2_0
    refine wp_region_held_drew (S := fun wx => NoW w0 wx) (by kernel_rfl) (Fp.drew (Fp.refl _ _)) (fun hHeld => ?_)
    (refine take_at 0 (some 5) rfl rfl (by kernel_rfl) (by kernel_rfl) (by kernel_rfl) (fun _ _ _ h => h) (v := ?_) (by kernel_rfl) ?_ (by assumption) ?_; rotate_left; (focus (intro wS hSw; skip; go_simp; try with_reducible rfl)); (try simp only [Act.put, List.setIfInBounds_toArray, List.set_cons_zero, List.set_cons_succ]))
    (refine take_at 1 (some 6) rfl rfl (by kernel_rfl) (by kernel_rfl) (by kernel_rfl) (fun _ _ _ h => h) (v := ?_) (by kernel_rfl) ?_ (by assumption) ?_; rotate_left; (focus (intro wS hSw; (have q1_0 := (hSw.cell (p := ⟨g1, 0, none⟩) lg1 id).trans x1_0); (have q1_1 := (hSw.cell (p := ⟨g1, 1, none⟩) lg1 id).trans x1_1); (have q1_2 := (hSw.cell (p := ⟨g1, 2, none⟩) lg1 id).trans x1_2); (have q1_3 := (hSw.cell (p := ⟨g1, 3, none⟩) lg1 id).trans x1_3); (have q1_4 := (hSw.cell (p := ⟨g1, 4, none⟩) lg1 id).trans x1_4); go_simp; try with_reducible rfl)); (try simp only [Act.put, List.setIfInBounds_toArray, List.set_cons_zero, List.set_cons_succ]))
    (refine take_at 2 (some 7) rfl rfl (by kernel_rfl) (by kernel_rfl) (by kernel_rfl) (fun _ _ _ h => h) (v := ?_) (by kernel_rfl) ?_ (by assumption) ?_; rotate_left; (focus (intro wS hSw; skip; go_simp; try with_reducible rfl)); (try simp only [Act.put, List.setIfInBounds_toArray, List.set_cons_zero, List.set_cons_succ]))
    (refine take_at 3 (some 8) rfl rfl (by kernel_rfl) (by kernel_rfl) (by kernel_rfl) (fun _ _ _ h => h) (v := ?_) (by kernel_rfl) ?_ (by assumption) ?_; rotate_left; (focus (intro wS hSw; (have q2_0 := (hSw.cell (p := ⟨g2, 0, none⟩) lg2 id).trans x2_0); (have q2_1 := (hSw.cell (p := ⟨g2, 1, none⟩) lg2 id).trans x2_1); (have q2_2 := (hSw.cell (p := ⟨g2, 2, none⟩) lg2 id).trans x2_2); (have q2_3 := (hSw.cell (p := ⟨g2, 3, none⟩) lg2 id).trans x2_3); (have q2_4 := (hSw.cell (p := ⟨g2, 4, none⟩) lg2 id).trans x2_4); go_simp; try with_reducible rfl)); (try simp only [Act.put, List.setIfInBounds_toArray, List.set_cons_zero, List.set_cons_succ]))
    (refine take_at 4 (some 9) rfl rfl (by kernel_rfl) (by kernel_rfl) (by kernel_rfl) (fun _ _ _ h => h) (v := ?_) (by kernel_rfl) ?_ (by assumption) ?_; rotate_left; (focus (intro wS hSw; skip; go_simp; try with_reducible rfl)); (try simp only [Act.put, List.setIfInBounds_toArray, List.set_cons_zero, List.set_cons_succ]))
    (refine take_at 5 (some 10) rfl rfl (by kernel_rfl) (by kernel_rfl) (by kernel_rfl) (fun _ _ _ h => h) (v := ?_) (by kernel_rfl) ?_ (by assumption) ?_; rotate_left; (focus (intro wS hSw; skip; go_simp; try with_reducible rfl)); (try simp only [Act.put, List.setIfInBounds_toArray, List.set_cons_zero, List.set_cons_succ]))
    (refine drop_at 6 (some 11) rfl rfl (by kernel_rfl) (by kernel_rfl) (by kernel_rfl) (fun _ _ _ h => h) (by kernel_rfl) (by assumption) ?_; (try simp only [Act.put, List.setIfInBounds_toArray, List.set_cons_zero, List.set_cons_succ]))
    (refine drop_at 7 (some 12) rfl rfl (by kernel_rfl) (by kernel_rfl) (by kernel_rfl) (fun _ _ _ h => h) (by kernel_rfl) (by assumption) ?_; (try simp only [Act.put, List.setIfInBounds_toArray, List.set_cons_zero, List.set_cons_succ]))
    (refine drop_at 8 (some 13) rfl rfl (by kernel_rfl) (by kernel_rfl) (by kernel_rfl) (fun _ _ _ h => h) (by kernel_rfl) (by assumption) ?_; (try simp only [Act.put, List.setIfInBounds_toArray, List.set_cons_zero, List.set_cons_succ]))
    (refine drop_at 9 (some 14) rfl rfl (by kernel_rfl) (by kernel_rfl) (by kernel_rfl) (fun _ _ _ h => h) (by kernel_rfl) (by assumption) ?_; (try simp only [Act.put, List.setIfInBounds_toArray, List.set_cons_zero, List.set_cons_succ]))
    (refine drop_at 10 (some 15) rfl rfl (by kernel_rfl) (by kernel_rfl) (by kernel_rfl) (fun _ _ _ h => h) (by kernel_rfl) (by assumption) ?_; (try simp only [Act.put, List.setIfInBounds_toArray, List.set_cons_zero, List.set_cons_succ]))
    (refine take_at 11 (some 16) rfl rfl (by kernel_rfl) (by kernel_rfl) (by kernel_rfl) (fun _ _ _ h => h) (v := ?_) (by kernel_rfl) ?_ (by assumption) ?_; rotate_left; (focus (intro wS hSw; skip; go_simp; try with_reducible rfl)); (try simp only [Act.put, List.setIfInBounds_toArray, List.set_cons_zero, List.set_cons_succ]))
    (refine take_at 12 (some 17) rfl rfl (by kernel_rfl) (by kernel_rfl) (by kernel_rfl) (fun _ _ _ h => h) (v := ?_) (by kernel_rfl) ?_ (by assumption) ?_; rotate_left; (focus (intro wS hSw; skip; go_simp; try with_reducible rfl)); (try simp only [Act.put, List.setIfInBounds_toArray, List.set_cons_zero, List.set_cons_succ]))
    (refine drop_at 13 (some 18) rfl rfl (by kernel_rfl) (by kernel_rfl) (by kernel_rfl) (fun _ _ _ h => h) (by kernel_rfl) (by assumption) ?_; (try simp only [Act.put, List.setIfInBounds_toArray, List.set_cons_zero, List.set_cons_succ]))
    (refine drop_at 14 (some 19) rfl rfl (by kernel_rfl) (by kernel_rfl) (by kernel_rfl) (fun _ _ _ h => h) (by kernel_rfl) (by assumption) ?_; (try simp only [Act.put, List.setIfInBounds_toArray, List.set_cons_zero, List.set_cons_succ]))
    (refine drop_at 15 (some 20) rfl rfl (by kernel_rfl) (by kernel_rfl) (by kernel_rfl) (fun _ _ _ h => h) (by kernel_rfl) (by assumption) ?_; (try simp only [Act.put, List.setIfInBounds_toArray, List.set_cons_zero, List.set_cons_succ]))
    (refine drop_at 16 (some 21) rfl rfl (by kernel_rfl) (by kernel_rfl) (by kernel_rfl) (fun _ _ _ h => h) (by kernel_rfl) (by assumption) ?_; (try simp only [Act.put, List.setIfInBounds_toArray, List.set_cons_zero, List.set_cons_succ]))
    (refine drop_at 17 (some 22) rfl rfl (by kernel_rfl) (by kernel_rfl) (by kernel_rfl) (fun _ _ _ h => h) (by kernel_rfl) (by assumption) ?_; (try simp only [Act.put, List.setIfInBounds_toArray, List.set_cons_zero, List.set_cons_succ]))
    (refine drop_at 18 (some 23) rfl rfl (by kernel_rfl) (by kernel_rfl) (by kernel_rfl) (fun _ _ _ h => h) (by kernel_rfl) (by assumption) ?_; (try simp only [Act.put, List.setIfInBounds_toArray, List.set_cons_zero, List.set_cons_succ]))
    (refine drop_at 19 (some 24) rfl rfl (by kernel_rfl) (by kernel_rfl) (by kernel_rfl) (fun _ _ _ h => h) (by kernel_rfl) (by assumption) ?_; (try simp only [Act.put, List.setIfInBounds_toArray, List.set_cons_zero, List.set_cons_succ]))
    (refine drop_at 20 (some 25) rfl rfl (by kernel_rfl) (by kernel_rfl) (by kernel_rfl) (fun _ _ _ h => h) (by kernel_rfl) (by assumption) ?_; (try simp only [Act.put, List.setIfInBounds_toArray, List.set_cons_zero, List.set_cons_succ]))
    (refine drop_at 21 (some 26) rfl rfl (by kernel_rfl) (by kernel_rfl) (by kernel_rfl) (fun _ _ _ h => h) (by kernel_rfl) (by assumption) ?_; (try simp only [Act.put, List.setIfInBounds_toArray, List.set_cons_zero, List.set_cons_succ]))
    (refine drop_at 22 (some 27) rfl rfl (by kernel_rfl) (by kernel_rfl) (by kernel_rfl) (fun _ _ _ h => h) (by kernel_rfl) (by assumption) ?_; (try simp only [Act.put, List.setIfInBounds_toArray, List.set_cons_zero, List.set_cons_succ]))
    (refine drop_at 23 (some 28) rfl rfl (by kernel_rfl) (by kernel_rfl) (by kernel_rfl) (fun _ _ _ h => h) (by kernel_rfl) (by assumption) ?_; (try simp only [Act.put, List.setIfInBounds_toArray, List.set_cons_zero, List.set_cons_succ]))
    (refine drop_at 24 (some 29) rfl rfl (by kernel_rfl) (by kernel_rfl) (by kernel_rfl) (fun _ _ _ h => h) (by kernel_rfl) (by assumption) ?_; (try simp only [Act.put, List.setIfInBounds_toArray, List.set_cons_zero, List.set_cons_succ]))
    (refine drop_at 25 (some 30) rfl rfl (by kernel_rfl) (by kernel_rfl) (by kernel_rfl) (fun _ _ _ h => h) (by kernel_rfl) (by assumption) ?_; (try simp only [Act.put, List.setIfInBounds_toArray, List.set_cons_zero, List.set_cons_succ]))
    (refine take_at 26 (some 31) rfl rfl (by kernel_rfl) (by kernel_rfl) (by kernel_rfl) (fun _ _ _ h => h) (v := ?_) (by kernel_rfl) ?_ (by assumption) ?_; rotate_left; (focus (intro wS hSw; skip; go_simp; try with_reducible rfl)); (try simp only [Act.put, List.setIfInBounds_toArray, List.set_cons_zero, List.set_cons_succ]))
    (refine take_at 27 (some 32) rfl rfl (by kernel_rfl) (by kernel_rfl) (by kernel_rfl) (fun _ _ _ h => h) (v := ?_) (by kernel_rfl) ?_ (by assumption) ?_; rotate_left; (focus (intro wS hSw; skip; go_simp; try with_reducible rfl)); (try simp only [Act.put, List.setIfInBounds_toArray, List.set_cons_zero, List.set_cons_succ]))
    (refine drop_at 28 (some 33) rfl rfl (by kernel_rfl) (by kernel_rfl) (by kernel_rfl) (fun _ _ _ h => h) (by kernel_rfl) (by assumption) ?_; (try simp only [Act.put, List.setIfInBounds_toArray, List.set_cons_zero, List.set_cons_succ]))
    (refine drop_at 29 (some 34) rfl rfl (by kernel_rfl) (by kernel_rfl) (by kernel_rfl) (fun _ _ _ h => h) (by kernel_rfl) (by assumption) ?_; (try simp only [Act.put, List.setIfInBounds_toArray, List.set_cons_zero, List.set_cons_succ]))
    (refine drop_at 30 (some 35) rfl rfl (by kernel_rfl) (by kernel_rfl) (by kernel_rfl) (fun _ _ _ h => h) (by kernel_rfl) (by assumption) ?_; (try simp only [Act.put, List.setIfInBounds_toArray, List.set_cons_zero, List.set_cons_succ]))
    (refine drop_at 31 (some 36) rfl rfl (by kernel_rfl) (by kernel_rfl) (by kernel_rfl) (fun _ _ _ h => h) (by kernel_rfl) (by assumption) ?_; (try simp only [Act.put, List.setIfInBounds_toArray, List.set_cons_zero, List.set_cons_succ]))
    (refine drop_at 32 (some 37) rfl rfl (by kernel_rfl) (by kernel_rfl) (by kernel_rfl) (fun _ _ _ h => h) (by kernel_rfl) (by assumption) ?_; (try simp only [Act.put, List.setIfInBounds_toArray, List.set_cons_zero, List.set_cons_succ]))
    (refine take_at 33 (some 38) rfl rfl (by kernel_rfl) (by kernel_rfl) (by kernel_rfl) (fun _ _ _ h => h) (v := ?_) (by kernel_rfl) ?_ (by assumption) ?_; rotate_left; (focus (intro wS hSw; skip; go_simp; try with_reducible rfl)); (try simp only [Act.put, List.setIfInBounds_toArray, List.set_cons_zero, List.set_cons_succ]))
    (refine take_at 34 (some 4) rfl rfl (by kernel_rfl) (by kernel_rfl) (by kernel_rfl) (fun _ _ _ h => h) (v := ?_) (by kernel_rfl) ?_ (by assumption) ?_; rotate_left; (focus (intro wS hSw; skip; go_simp; try with_reducible rfl)); (try simp only [Act.put, List.setIfInBounds_toArray, List.set_cons_zero, List.set_cons_succ]))
    refine wpAnyH_done (by kernel_rfl) ?_ _
    have Hf2 := Lib.hid (Hw0.out.trans hHeld (fun _ _ h => h))
    go_wp2_with fail
    go_ret
    exact ⟨rfl, Hf2.out⟩
  · rw [h1] at e1
    rcases h2 : decide (r2 = r4 ∧ a2 = a4 ∧ p2 = p4 ∧ b2 = b4 ∧ q2 = q4) with _ | _
    · rw [h2] at e2
      simp only [Bool.true_and, Bool.false_and]
      clear h1 h2 hor
      go_enter Tryd.func29, Tryd.ntmps29
      go_wp2_with fail
      have hw0 : NoW w ((w.alloc (.cells #[.int .u8 r, .int .u32 a, .int .u16 p, .int .u32 b, .int .u16 q, .int .u8 r2, .int .u32 a2, .int .u16 p2, .int .u32 b2, .int .u16 q2, .int .i64 st, .int .i64 dl, .slice ad n c] 31)).alloc (.cells #[.int .u8 r3, .int .u32 a3, .int .u16 p3, .int .u32 b3, .int .u16 q3, .int .u8 r4, .int .u32 a4, .int .u16 p4, .int .u32 b4, .int .u16 q4, .int .i64 st2, .int .i64 dl2, .slice ad2 n2 c2] 31)) := ((Fp.refl _ _).alloc _).alloc _
      obtain ⟨hb0, hb1⟩ := box2 w (.cells #[.int .u8 r, .int .u32 a, .int .u16 p, .int .u32 b, .int .u16 q, .int .u8 r2, .int .u32 a2, .int .u16 p2, .int .u32 b2, .int .u16 q2, .int .i64 st, .int .i64 dl, .slice ad n c] 31) (.cells #[.int .u8 r3, .int .u32 a3, .int .u16 p3, .int .u32 b3, .int .u16 q3, .int .u8 r4, .int .u32 a4, .int .u16 p4, .int .u32 b4, .int .u16 q4, .int .i64 st2, .int .i64 dl2, .slice ad2 n2 c2] 31)
      generalize (w.alloc (.cells #[.int .u8 r, .int .u32 a, .int .u16 p, .int .u32 b, .int .u16 q, .int .u8 r2, .int .u32 a2, .int .u16 p2, .int .u32 b2, .int .u16 q2, .int .i64 st, .int .i64 dl, .slice ad n c] 31)).alloc (.cells #[.int .u8 r3, .int .u32 a3, .int .u16 p3, .int .u32 b3, .int .u16 q3, .int .u8 r4, .int .u32 a4, .int .u16 p4, .int .u32 b4, .int .u16 q4, .int .i64 st2, .int .i64 dl2, .slice ad2 n2 c2] 31) = w0 at *
      have B1 := Lib.hid hb0
      have B2 := Lib.hid hb1
      have Hw0 := Lib.hid hw0
      clear hb0 hb1 hw0
      generalize w.heap.size + 1 = g2 at *
      generalize w.heap.size = g1 at *
      have x1_0 : w0.cell? ⟨g1, 0, none⟩ = some (.int .u8 r) := by simp [World.cell?, B1.out]
      have x1_1 : w0.cell? ⟨g1, 1, none⟩ = some (.int .u32 a) := by simp [World.cell?, B1.out]
      have x1_2 : w0.cell? ⟨g1, 2, none⟩ = some (.int .u16 p) := by simp [World.cell?, B1.out]
      have x1_3 : w0.cell? ⟨g1, 3, none⟩ = some (.int .u32 b) := by simp [World.cell?, B1.out]
      have x1_4 : w0.cell? ⟨g1, 4, none⟩ = some (.int .u16 q) := by simp [World.cell?, B1.out]
      have x1_5 : w0.cell? ⟨g1, 5, none⟩ = some (.int .u8 r2) := by simp [World.cell?, B1.out]
      have x1_6 : w0.cell? ⟨g1, 6, none⟩ = some (.int .u32 a2) := by simp [World.cell?, B1.out]
      have x1_7 : w0.cell? ⟨g1, 7, none⟩ = some (.int .u16 p2) := by simp [World.cell?, B1.out]
      have x1_8 : w0.cell? ⟨g1, 8, none⟩ = some (.int .u32 b2) := by simp [World.cell?, B1.out]
      have x1_9 : w0.cell? ⟨g1, 9, none⟩ = some (.int .u16 q2) := by simp [World.cell?, B1.out]
      have x1_10 : w0.cell? ⟨g1, 10, none⟩ = some (.int .i64 st) := by simp [World.cell?, B1.out]
      have x1_11 : w0.cell? ⟨g1, 11, none⟩ = some (.int .i64 dl) := by simp [World.cell?, B1.out]
      have x1_12 : w0.cell? ⟨g1, 12, none⟩ = some (.slice ad n c) := by simp [World.cell?, B1.out]
      have lg1 : g1 < w0.heap.size := cell_lt x1_0
      have x2_0 : w0.cell? ⟨g2, 0, none⟩ = some (.int .u8 r3) := by simp [World.cell?, B2.out]
      have x2_1 : w0.cell? ⟨g2, 1, none⟩ = some (.int .u32 a3) := by simp [World.cell?, B2.out]
      have x2_2 : w0.cell? ⟨g2, 2, none⟩ = some (.int .u16 p3) := by simp [World.cell?, B2.out]
      have x2_3 : w0.cell? ⟨g2, 3, none⟩ = some (.int .u32 b3) := by simp [World.cell?, B2.out]
      have x2_4 : w0.cell? ⟨g2, 4, none⟩ = some (.int .u16 q3) := by simp [World.cell?, B2.out]
      have x2_5 : w0.cell? ⟨g2, 5, none⟩ = some (.int .u8 r4) := by simp [World.cell?, B2.out]
      have x2_6 : w0.cell? ⟨g2, 6, none⟩ = some (.int .u32 a4) := by simp [World.cell?, B2.out]
      have x2_7 : w0.cell? ⟨g2, 7, none⟩ = some (.int .u16 p4) := by simp [World.cell?, B2.out]
      have x2_8 : w0.cell? ⟨g2, 8, none⟩ = some (.int .u32 b4) := by simp [World.cell?, B2.out]
      have x2_9 : w0.cell? ⟨g2, 9, none⟩ = some (.int .u16 q4) := by simp [World.cell?, B2.out]
      have x2_10 : w0.cell? ⟨g2, 10, none⟩ = some (.int .i64 st2) := by simp [World.cell?, B2.out]
      have x2_11 : w0.cell? ⟨g2, 11, none⟩ = some (.int .i64 dl2) := by simp [World.cell?, B2.out]
      have x2_12 : w0.cell? ⟨g2, 12, none⟩ = some (.slice ad2 n2 c2) := by simp [World.cell?, B2.out]
      have lg2 : g2 < w0.heap.size := cell_lt x2_0
      refine wp_region_held_drew (S := fun wx => NoW w0 wx) (by kernel_rfl) (Fp.drew (Fp.refl _ _)) (fun hHeld => ?_)
      (refine take_at 0 (some 5) rfl rfl (by kernel_rfl) (by kernel_rfl) (by kernel_rfl) (fun _ _ _ h => h) (v := ?_) (by kernel_rfl) ?_ (by assumption) ?_; rotate_left; (focus (intro wS hSw; skip; go_simp; try with_reducible rfl)); (try simp only [Act.put, List.setIfInBounds_toArray, List.set_cons_zero, List.set_cons_succ]))
      (refine take_at 1 (some 6) rfl rfl (by kernel_rfl) (by kernel_rfl) (by kernel_rfl) (fun _ _ _ h => h) (v := ?_) (by kernel_rfl) ?_ (by assumption) ?_; rotate_left; (focus (intro wS hSw; (have q1_0 := (hSw.cell (p := ⟨g1, 0, none⟩) lg1 id).trans x1_0); (have q1_1 := (hSw.cell (p := ⟨g1, 1, none⟩) lg1 id).trans x1_1); (have q1_2 := (hSw.cell (p := ⟨g1, 2, none⟩) lg1 id).trans x1_2); (have q1_3 := (hSw.cell (p := ⟨g1, 3, none⟩) lg1 id).trans x1_3); (have q1_4 := (hSw.cell (p := ⟨g1, 4, none⟩) lg1 id).trans x1_4); go_simp; try with_reducible rfl)); (try simp only [Act.put, List.setIfInBounds_toArray, List.set_cons_zero, List.set_cons_succ]))
      (refine take_at 2 (some 7) rfl rfl (by kernel_rfl) (by kernel_rfl) (by kernel_rfl) (fun _ _ _ h => h) (v := ?_) (by kernel_rfl) ?_ (by assumption) ?_; rotate_left; (focus (intro wS hSw; skip; go_simp; try with_reducible rfl)); (try simp only [Act.put, List.setIfInBounds_toArray, List.set_cons_zero, List.set_cons_succ]))
      (refine take_at 3 (some 8) rfl rfl (by kernel_rfl) (by kernel_rfl) (by kernel_rfl) (fun _ _ _ h => h) (v := ?_) (by kernel_rfl) ?_ (by assumption) ?_; rotate_left; (focus (intro wS hSw; (have q2_0 := (hSw.cell (p := ⟨g2, 0, none⟩) lg2 id).trans x2_0); (have q2_1 := (hSw.cell (p := ⟨g2, 1, none⟩) lg2 id).trans x2_1); (have q2_2 := (hSw.cell (p := ⟨g2, 2, none⟩) lg2 id).trans x2_2); (have q2_3 := (hSw.cell (p := ⟨g2, 3, none⟩) lg2 id).trans x2_3); (have q2_4 := (hSw.cell (p := ⟨g2, 4, none⟩) lg2 id).trans x2_4); go_simp; try with_reducible rfl)); (try simp only [Act.put, List.setIfInBounds_toArray, List.set_cons_zero, List.set_cons_succ]))
      (refine take_at 4 (some 9) rfl rfl (by kernel_rfl) (by kernel_rfl) (by kernel_rfl) (fun _ _ _ h => h) (v := ?_) (by kernel_rfl) ?_ (by assumption) ?_; rotate_left; (focus (intro wS hSw; skip; go_simp; try with_reducible rfl)); (try simp only [Act.put, List.setIfInBounds_toArray, List.set_cons_zero, List.set_cons_succ]))
      (refine take_at 5 (some 10) rfl rfl (by kernel_rfl) (by kernel_rfl) (by kernel_rfl) (fun _ _ _ h => h) (v := ?_) (by kernel_rfl) ?_ (by assumption) ?_; rotate_left; (focus (intro wS hSw; skip; go_simp; try with_reducible rfl)); (try simp only [Act.put, List.setIfInBounds_toArray, List.set_cons_zero, List.set_cons_succ]))
      (refine take_at 6 (some 11) rfl rfl (by kernel_rfl) (by kernel_rfl) (by kernel_rfl) (fun _ _ _ h => h) (v := ?_) (by kernel_rfl) ?_ (by assumption) ?_; rotate_left; (focus (intro wS hSw; skip; go_simp; try with_reducible rfl)); (try simp only [Act.put, List.setIfInBounds_toArray, List.set_cons_zero, List.set_cons_succ]))
      (refine take_at 7 (some 12) rfl rfl (by kernel_rfl) (by kernel_rfl) (by kernel_rfl) (fun _ _ _ h => h) (v := ?_) (by kernel_rfl) ?_ (by assumption) ?_; rotate_left; (focus (intro wS hSw; (have q1_5 := (hSw.cell (p := ⟨g1, 5, none⟩) lg1 id).trans x1_5); (have q1_6 := (hSw.cell (p := ⟨g1, 6, none⟩) lg1 id).trans x1_6); (have q1_7 := (hSw.cell (p := ⟨g1, 7, none⟩) lg1 id).trans x1_7); (have q1_8 := (hSw.cell (p := ⟨g1, 8, none⟩) lg1 id).trans x1_8); (have q1_9 := (hSw.cell (p := ⟨g1, 9, none⟩) lg1 id).trans x1_9); go_simp; try with_reducible rfl)); (try simp only [Act.put, List.setIfInBounds_toArray, List.set_cons_zero, List.set_cons_succ]))
      (refine take_at 8 (some 13) rfl rfl (by kernel_rfl) (by kernel_rfl) (by kernel_rfl) (fun _ _ _ h => h) (v := ?_) (by kernel_rfl) ?_ (by assumption) ?_; rotate_left; (focus (intro wS hSw; skip; go_simp; try with_reducible rfl)); (try simp only [Act.put, List.setIfInBounds_toArray, List.set_cons_zero, List.set_cons_succ]))
      (refine take_at 9 (some 14) rfl rfl (by kernel_rfl) (by kernel_rfl) (by kernel_rfl) (fun _ _ _ h => h) (v := ?_) (by kernel_rfl) ?_ (by assumption) ?_; rotate_left; (focus (intro wS hSw; (have q2_5 := (hSw.cell (p := ⟨g2, 5, none⟩) lg2 id).trans x2_5); (have q2_6 := (hSw.cell (p := ⟨g2, 6, none⟩) lg2 id).trans x2_6); (have q2_7 := (hSw.cell (p := ⟨g2, 7, none⟩) lg2 id).trans x2_7); (have q2_8 := (hSw.cell (p := ⟨g2, 8, none⟩) lg2 id).trans x2_8); (have q2_9 := (hSw.cell (p := ⟨g2, 9, none⟩) lg2 id).trans x2_9); go_simp; try with_reducible rfl)); (try simp only [Act.put, List.setIfInBounds_toArray, List.set_cons_zero, List.set_cons_succ]))
      (refine take_at 10 (some 15) rfl rfl (by kernel_rfl) (by kernel_rfl) (by kernel_rfl) (fun _ _ _ h => h) (v := ?_) (by kernel_rfl) ?_ (by assumption) ?_; rotate_left; (focus (intro wS hSw; skip; go_simp; try with_reducible rfl)); (try simp only [Act.put, List.setIfInBounds_toArray, List.set_cons_zero, List.set_cons_succ]))
      (refine take_at 11 (some 16) rfl rfl (by kernel_rfl) (by kernel_rfl) (by kernel_rfl) (fun _ _ _ h => h) (v := ?_) (by kernel_rfl) ?_ (by assumption) ?_; rotate_left; (focus (intro wS hSw; skip; go_simp; try with_reducible rfl)); (try simp only [Act.put, List.setIfInBounds_toArray, List.set_cons_zero, List.set_cons_succ]))
      (refine take_at 12 (some 17) rfl rfl (by kernel_rfl) (by kernel_rfl) (by kernel_rfl) (fun _ _ _ h => h) (v := ?_) (by kernel_rfl) ?_ (by assumption) ?_; rotate_left; (focus (intro wS hSw; skip; go_simp; try with_reducible rfl)); (try simp only [Act.put, List.setIfInBounds_toArray, List.set_cons_zero, List.set_cons_succ]))
      (refine drop_at 13 (some 18) rfl rfl (by kernel_rfl) (by kernel_rfl) (by kernel_rfl) (fun _ _ _ h => h) (by kernel_rfl) (by assumption) ?_; (try simp only [Act.put, List.setIfInBounds_toArray, List.set_cons_zero, List.set_cons_succ]))
      (refine drop_at 14 (some 19) rfl rfl (by kernel_rfl) (by kernel_rfl) (by kernel_rfl) (fun _ _ _ h => h) (by kernel_rfl) (by assumption) ?_; (try simp only [Act.put, List.setIfInBounds_toArray, List.set_cons_zero, List.set_cons_succ]))
      (refine drop_at 15 (some 20) rfl rfl (by kernel_rfl) (by kernel_rfl) (by kernel_rfl) (fun _ _ _ h => h) (by kernel_rfl) (by assumption) ?_; (try simp only [Act.put, List.setIfInBounds_toArray, List.set_cons_zero, List.set_cons_succ]))
      (refine drop_at 16 (some 21) rfl rfl (by kernel_rfl) (by kernel_rfl) (by kernel_rfl) (fun _ _ _ h => h) (by kernel_rfl) (by assumption) ?_; (try simp only [Act.put, List.setIfInBounds_toArray, List.set_cons_zero, List.set_cons_succ]))
      (refine drop_at 17 (some 22) rfl rfl (by kernel_rfl) (by kernel_rfl) (by kernel_rfl) (fun _ _ _ h => h) (by kernel_rfl) (by assumption) ?_; (try simp only [Act.put, List.setIfInBounds_toArray, List.set_cons_zero, List.set_cons_succ]))
      (refine drop_at 18 (some 23) rfl rfl (by kernel_rfl) (by kernel_rfl) (by kernel_rfl) (fun _ _ _ h => h) (by kernel_rfl) (by assumption) ?_; (try simp only [Act.put, List.setIfInBounds_toArray, List.set_cons_zero, List.set_cons_succ]))
      (refine drop_at 19 (some 24) rfl rfl (by kernel_rfl) (by kernel_rfl) (by kernel_rfl) (fun _ _ _ h => h) (by kernel_rfl) (by assumption) ?_; (try simp only [Act.put, List.setIfInBounds_toArray, List.set_cons_zero, List.set_cons_succ]))
      (refine drop_at 20 (some 25) rfl rfl (by kernel_rfl) (by kernel_rfl) (by kernel_rfl) (fun _ _ _ h => h) (by kernel_rfl) (by assumption) ?_; (try simp only [Act.put, List.setIfInBounds_toArray, List.set_cons_zero, List.set_cons_succ]))
      (refine drop_at 21 (some 26) rfl rfl (by kernel_rfl) (by kernel_rfl) (by kernel_rfl) (fun _ _ _ h => h) (by kernel_rfl) (by assumption) ?_; (try simp only [Act.put, List.setIfInBounds_toArray, List.set_cons_zero, List.set_cons_succ]))
      (refine drop_at 22 (some 27) rfl rfl (by kernel_rfl) (by kernel_rfl) (by kernel_rfl) (fun _ _ _ h => h) (by kernel_rfl) (by assumption) ?_; (try simp only [Act.put, List.setIfInBounds_toArray, List.set_cons_zero, List.set_cons_succ]))
      (refine drop_at 23 (some 28) rfl rfl (by kernel_rfl) (by kernel_rfl) (by kernel_rfl) (fun _ _ _ h => h) (by kernel_rfl) (by assumption) ?_; (try simp only [Act.put, List.setIfInBounds_toArray, List.set_cons_zero, List.set_cons_succ]))
      (refine drop_at 24 (some 29) rfl rfl (by kernel_rfl) (by kernel_rfl) (by kernel_rfl) (fun _ _ _ h => h) (by kernel_rfl) (by assumption) ?_; (try simp only [Act.put, List.setIfInBounds_toArray, List.set_cons_zero, List.set_cons_succ]))
      (refine drop_at 25 (some 30) rfl rfl (by kernel_rfl) (by kernel_rfl) (by kernel_rfl) (fun _ _ _ h => h) (by kernel_rfl) (by assumption) ?_; (try simp only [Act.put, List.setIfInBounds_toArray, List.set_cons_zero, List.set_cons_succ]))
      (refine take_at 26 (some 31) rfl rfl (by kernel_rfl) (by kernel_rfl) (by kernel_rfl) (fun _ _ _ h => h) (v := ?_) (by kernel_rfl) ?_ (by assumption) ?_; rotate_left; (focus (intro wS hSw; skip; go_simp; try with_reducible rfl)); (try simp only [Act.put, List.setIfInBounds_toArray, List.set_cons_zero, List.set_cons_succ]))
      (refine take_at 27 (some 32) rfl rfl (by kernel_rfl) (by kernel_rfl) (by kernel_rfl) (fun _ _ _ h => h) (v := ?_) (by kernel_rfl) ?_ (by assumption) ?_; rotate_left; (focus (intro wS hSw; skip; go_simp; try with_reducible rfl)); (try simp only [Act.put, List.setIfInBounds_toArray, List.set_cons_zero, List.set_cons_succ]))
      (refine drop_at 28 (some 33) rfl rfl (by kernel_rfl) (by kernel_rfl) (by kernel_rfl) (fun _ _ _ h => h) (by kernel_rfl) (by assumption) ?_; (try simp only [Act.put, List.setIfInBounds_toArray, List.set_cons_zero, List.set_cons_succ]))
      (refine drop_at 29 (some 34) rfl rfl (by kernel_rfl) (by kernel_rfl) (by kernel_rfl) (fun _ _ _ h => h) (by kernel_rfl) (by assumption) ?_; (try simp only [Act.put, List.setIfInBounds_toArray, List.set_cons_zero, List.set_cons_succ]))
      (refine drop_at 30 (some 35) rfl rfl (by kernel_rfl) (by kernel_rfl) (by kernel_rfl) (fun _ _ _ h => h) (by kernel_rfl) (by assumption) ?_; (try simp only [Act.put, List.setIfInBounds_toArray, List.set_cons_zero, List.set_cons_succ]))
      (refine drop_at 31 (some 36) rfl rfl (by kernel_rfl) (by kernel_rfl) (by kernel_rfl) (fun _ _ _ h => h) (by kernel_rfl) (by assumption) ?_; (try simp only [Act.put, List.setIfInBounds_toArray, List.set_cons_zero, List.set_cons_succ]))
      (refine drop_at 32 (some 37) rfl rfl (by kernel_rfl) (by kernel_rfl) (by kernel_rfl) (fun _ _ _ h => h) (by kernel_rfl) (by assumption) ?_; (try simp only [Act.put, List.setIfInBounds_toArray, List.set_cons_zero, List.set_cons_succ]))
      (refine take_at 33 (some 38) rfl rfl (by kernel_rfl) (by kernel_rfl) (by kernel_rfl) (fun _ _ _ h => h) (v := ?_) (by kernel_rfl) ?_ (by assumption) ?_; rotate_left; (focus (intro wS hSw; skip; go_simp; try with_reducible rfl)); (try simp only [Act.put, List.setIfInBounds_toArray, List.set_cons_zero, List.set_cons_succ]))
      (refine take_at 34 (some 4) rfl rfl (by kernel_rfl) (by kernel_rfl) (by kernel_rfl) (fun _ _ _ h => h) (v := ?_) (by kernel_rfl) ?_ (by assumption) ?_; rotate_left; (focus (intro wS hSw; skip; go_simp; try with_reducible rfl)); (try simp only [Act.put, List.setIfInBounds_toArray, List.set_cons_zero, List.set_cons_succ]))
      refine wpAnyH_done (by kernel_rfl) ?_ _
      have Hf2 := Lib.hid (Hw0.out.trans hHeld (fun _ _ h => h))
      go_wp2_with fail
      go_ret
      exact ⟨rfl, Hf2.out⟩
    · rw [h2] at e2
      rcases h3 : decide (st = st2 ∧ dl = dl2) with _ | _
      · rw [h3] at hor
        simp only [Bool.true_and, Bool.false_and]
        have Hor := Lib.hid hor
        clear h1 h2 h3 hor
        go_enter Tryd.func29, Tryd.ntmps29
        go_wp2_with fail
        have hw0 : NoW w ((w.alloc (.cells #[.int .u8 r, .int .u32 a, .int .u16 p, .int .u32 b, .int .u16 q, .int .u8 r2, .int .u32 a2, .int .u16 p2, .int .u32 b2, .int .u16 q2, .int .i64 st, .int .i64 dl, .slice ad n c] 31)).alloc (.cells #[.int .u8 r3, .int .u32 a3, .int .u16 p3, .int .u32 b3, .int .u16 q3, .int .u8 r4, .int .u32 a4, .int .u16 p4, .int .u32 b4, .int .u16 q4, .int .i64 st2, .int .i64 dl2, .slice ad2 n2 c2] 31)) := ((Fp.refl _ _).alloc _).alloc _
        obtain ⟨hb0, hb1⟩ := box2 w (.cells #[.int .u8 r, .int .u32 a, .int .u16 p, .int .u32 b, .int .u16 q, .int .u8 r2, .int .u32 a2, .int .u16 p2, .int .u32 b2, .int .u16 q2, .int .i64 st, .int .i64 dl, .slice ad n c] 31) (.cells #[.int .u8 r3, .int .u32 a3, .int .u16 p3, .int .u32 b3, .int .u16 q3, .int .u8 r4, .int .u32 a4, .int .u16 p4, .int .u32 b4, .int .u16 q4, .int .i64 st2, .int .i64 dl2, .slice ad2 n2 c2] 31)
        generalize (w.alloc (.cells #[.int .u8 r, .int .u32 a, .int .u16 p, .int .u32 b, .int .u16 q, .int .u8 r2, .int .u32 a2, .int .u16 p2, .int .u32 b2, .int .u16 q2, .int .i64 st, .int .i64 dl, .slice ad n c] 31)).alloc (.cells #[.int .u8 r3, .int .u32 a3, .int .u16 p3, .int .u32 b3, .int .u16 q3, .int .u8 r4, .int .u32 a4, .int .u16 p4, .int .u32 b4, .int .u16 q4, .int .i64 st2, .int .i64 dl2, .slice ad2 n2 c2] 31) = w0 at *
        have B1 := Lib.hid hb0
        have B2 := Lib.hid hb1
        have Hw0 := Lib.hid hw0
        clear hb0 hb1 hw0
        generalize w.heap.size + 1 = g2 at *
        generalize w.heap.size = g1 at *
        have x1_0 : w0.cell? ⟨g1, 0, none⟩ = some (.int .u8 r) := by simp [World.cell?, B1.out]
        have x1_1 : w0.cell? ⟨g1, 1, none⟩ = some (.int .u32 a) := by simp [World.cell?, B1.out]
        have x1_2 : w0.cell? ⟨g1, 2, none⟩ = some (.int .u16 p) := by simp [World.cell?, B1.out]
        have x1_3 : w0.cell? ⟨g1, 3, none⟩ = some (.int .u32 b) := by simp [World.cell?, B1.out]
        have x1_4 : w0.cell? ⟨g1, 4, none⟩ = some (.int .u16 q) := by simp [World.cell?, B1.out]
        have x1_5 : w0.cell? ⟨g1, 5, none⟩ = some (.int .u8 r2) := by simp [World.cell?, B1.out]
        have x1_6 : w0.cell? ⟨g1, 6, none⟩ = some (.int .u32 a2) := by simp [World.cell?, B1.out]
        have x1_7 : w0.cell? ⟨g1, 7, none⟩ = some (.int .u16 p2) := by simp [World.cell?, B1.out]
        have x1_8 : w0.cell? ⟨g1, 8, none⟩ = some (.int .u32 b2) := by simp [World.cell?, B1.out]
        have x1_9 : w0.cell? ⟨g1, 9, none⟩ = some (.int .u16 q2) := by simp [World.cell?, B1.out]
        have x1_10 : w0.cell? ⟨g1, 10, none⟩ = some (.int .i64 st) := by simp [World.cell?, B1.out]
        have x1_11 : w0.cell? ⟨g1, 11, none⟩ = some (.int .i64 dl) := by simp [World.cell?, B1.out]
        have x1_12 : w0.cell? ⟨g1, 12, none⟩ = some (.slice ad n c) := by simp [World.cell?, B1.out]
        have lg1 : g1 < w0.heap.size := cell_lt x1_0
        have x2_0 : w0.cell? ⟨g2, 0, none⟩ = some (.int .u8 r3) := by simp [World.cell?, B2.out]
        have x2_1 : w0.cell? ⟨g2, 1, none⟩ = some (.int .u32 a3) := by simp [World.cell?, B2.out]
        have x2_2 : w0.cell? ⟨g2, 2, none⟩ = some (.int .u16 p3) := by simp [World.cell?, B2.out]
        have x2_3 : w0.cell? ⟨g2, 3, none⟩ = some (.int .u32 b3) := by simp [World.cell?, B2.out]
        have x2_4 : w0.cell? ⟨g2, 4, none⟩ = some (.int .u16 q3) := by simp [World.cell?, B2.out]
        have x2_5 : w0.cell? ⟨g2, 5, none⟩ = some (.int .u8 r4) := by simp [World.cell?, B2.out]
        have x2_6 : w0.cell? ⟨g2, 6, none⟩ = some (.int .u32 a4) := by simp [World.cell?, B2.out]
        have x2_7 : w0.cell? ⟨g2, 7, none⟩ = some (.int .u16 p4) := by simp [World.cell?, B2.out]
        have x2_8 : w0.cell? ⟨g2, 8, none⟩ = some (.int .u32 b4) := by simp [World.cell?, B2.out]
        have x2_9 : w0.cell? ⟨g2, 9, none⟩ = some (.int .u16 q4) := by simp [World.cell?, B2.out]
        have x2_10 : w0.cell? ⟨g2, 10, none⟩ = some (.int .i64 st2) := by simp [World.cell?, B2.out]
        have x2_11 : w0.cell? ⟨g2, 11, none⟩ = some (.int .i64 dl2) := by simp [World.cell?, B2.out]
        have x2_12 : w0.cell? ⟨g2, 12, none⟩ = some (.slice ad2 n2 c2) := by simp [World.cell?, B2.out]
        have lg2 : g2 < w0.heap.size := cell_lt x2_0
        refine wp_region_held_drew (S := fun wx => NoW w0 wx) (by kernel_rfl) (Fp.drew (Fp.refl _ _)) (fun hHeld => ?_)
        (refine take_at 0 (some 5) rfl rfl (by kernel_rfl) (by kernel_rfl) (by kernel_rfl) (fun _ _ _ h => h) (v := ?_) (by kernel_rfl) ?_ (by assumption) ?_; rotate_left; (focus (intro wS hSw; skip; go_simp; try with_reducible rfl)); (try simp only [Act.put, List.setIfInBounds_toArray, List.set_cons_zero, List.set_cons_succ]))
        (refine take_at 1 (some 6) rfl rfl (by kernel_rfl) (by kernel_rfl) (by kernel_rfl) (fun _ _ _ h => h) (v := ?_) (by kernel_rfl) ?_ (by assumption) ?_; rotate_left; (focus (intro wS hSw; (have q1_0 := (hSw.cell (p := ⟨g1, 0, none⟩) lg1 id).trans x1_0); (have q1_1 := (hSw.cell (p := ⟨g1, 1, none⟩) lg1 id).trans x1_1); (have q1_2 := (hSw.cell (p := ⟨g1, 2, none⟩) lg1 id).trans x1_2); (have q1_3 := (hSw.cell (p := ⟨g1, 3, none⟩) lg1 id).trans x1_3); (have q1_4 := (hSw.cell (p := ⟨g1, 4, none⟩) lg1 id).trans x1_4); go_simp; try with_reducible rfl)); (try simp only [Act.put, List.setIfInBounds_toArray, List.set_cons_zero, List.set_cons_succ]))
        (refine take_at 2 (some 7) rfl rfl (by kernel_rfl) (by kernel_rfl) (by kernel_rfl) (fun _ _ _ h => h) (v := ?_) (by kernel_rfl) ?_ (by assumption) ?_; rotate_left; (focus (intro wS hSw; skip; go_simp; try with_reducible rfl)); (try simp only [Act.put, List.setIfInBounds_toArray, List.set_cons_zero, List.set_cons_succ]))
        (refine take_at 3 (some 8) rfl rfl (by kernel_rfl) (by kernel_rfl) (by kernel_rfl) (fun _ _ _ h => h) (v := ?_) (by kernel_rfl) ?_ (by assumption) ?_; rotate_left; (focus (intro wS hSw; (have q2_0 := (hSw.cell (p := ⟨g2, 0, none⟩) lg2 id).trans x2_0); (have q2_1 := (hSw.cell (p := ⟨g2, 1, none⟩) lg2 id).trans x2_1); (have q2_2 := (hSw.cell (p := ⟨g2, 2, none⟩) lg2 id).trans x2_2); (have q2_3 := (hSw.cell (p := ⟨g2, 3, none⟩) lg2 id).trans x2_3); (have q2_4 := (hSw.cell (p := ⟨g2, 4, none⟩) lg2 id).trans x2_4); go_simp; try with_reducible rfl)); (try simp only [Act.put, List.setIfInBounds_toArray, List.set_cons_zero, List.set_cons_succ]))
        (refine take_at 4 (some 9) rfl rfl (by kernel_rfl) (by kernel_rfl) (by kernel_rfl) (fun _ _ _ h => h) (v := ?_) (by kernel_rfl) ?_ (by assumption) ?_; rotate_left; (focus (intro wS hSw; skip; go_simp; try with_reducible rfl)); (try simp only [Act.put, List.setIfInBounds_toArray, List.set_cons_zero, List.set_cons_succ]))
        (refine take_at 5 (some 10) rfl rfl (by kernel_rfl) (by kernel_rfl) (by kernel_rfl) (fun _ _ _ h => h) (v := ?_) (by kernel_rfl) ?_ (by assumption) ?_; rotate_left; (focus (intro wS hSw; skip; go_simp; try with_reducible rfl)); (try simp only [Act.put, List.setIfInBounds_toArray, List.set_cons_zero, List.set_cons_succ]))
        (refine take_at 6 (some 11) rfl rfl (by kernel_rfl) (by kernel_rfl) (by kernel_rfl) (fun _ _ _ h => h) (v := ?_) (by kernel_rfl) ?_ (by assumption) ?_; rotate_left; (focus (intro wS hSw; skip; go_simp; try with_reducible rfl)); (try simp only [Act.put, List.setIfInBounds_toArray, List.set_cons_zero, List.set_cons_succ]))
        (refine take_at 7 (some 12) rfl rfl (by kernel_rfl) (by kernel_rfl) (by kernel_rfl) (fun _ _ _ h => h) (v := ?_) (by kernel_rfl) ?_ (by assumption) ?_; rotate_left; (focus (intro wS hSw; (have q1_5 := (hSw.cell (p := ⟨g1, 5, none⟩) lg1 id).trans x1_5); (have q1_6 := (hSw.cell (p := ⟨g1, 6, none⟩) lg1 id).trans x1_6); (have q1_7 := (hSw.cell (p := ⟨g1, 7, none⟩) lg1 id).trans x1_7); (have q1_8 := (hSw.cell (p := ⟨g1, 8, none⟩) lg1 id).trans x1_8); (have q1_9 := (hSw.cell (p := ⟨g1, 9, none⟩) lg1 id).trans x1_9); go_simp; try with_reducible rfl)); (try simp only [Act.put, List.setIfInBounds_toArray, List.set_cons_zero, List.set_cons_succ]))
        (refine take_at 8 (some 13) rfl rfl (by kernel_rfl) (by kernel_rfl) (by kernel_rfl) (fun _ _ _ h => h) (v := ?_) (by kernel_rfl) ?_ (by assumption) ?_; rotate_left; (focus (intro wS hSw; skip; go_simp; try with_reducible rfl)); (try simp only [Act.put, List.setIfInBounds_toArray, List.set_cons_zero, List.set_cons_succ]))
        (refine take_at 9 (some 14) rfl rfl (by kernel_rfl) (by kernel_rfl) (by kernel_rfl) (fun _ _ _ h => h) (v := ?_) (by kernel_rfl) ?_ (by assumption) ?_; rotate_left; (focus (intro wS hSw; (have q2_5 := (hSw.cell (p := ⟨g2, 5, none⟩) lg2 id).trans x2_5); (have q2_6 := (hSw.cell (p := ⟨g2, 6, none⟩) lg2 id).trans x2_6); (have q2_7 := (hSw.cell (p := ⟨g2, 7, none⟩) lg2 id).trans x2_7); (have q2_8 := (hSw.cell (p := ⟨g2, 8, none⟩) lg2 id).trans x2_8); (have q2_9 := (hSw.cell (p := ⟨g2, 9, none⟩) lg2 id).trans x2_9); go_simp; try with_reducible rfl)); (try simp only [Act.put, List.setIfInBounds_toArray, List.set_cons_zero, List.set_cons_succ]))
        (refine take_at 10 (some 15) rfl rfl (by kernel_rfl) (by kernel_rfl) (by kernel_rfl) (fun _ _ _ h => h) (v := ?_) (by kernel_rfl) ?_ (by assumption) ?_; rotate_left; (focus (intro wS hSw; skip; go_simp; try with_reducible rfl)); (try simp only [Act.put, List.setIfInBounds_toArray, List.set_cons_zero, List.set_cons_succ]))
        (refine take_at 11 (some 16) rfl rfl (by kernel_rfl) (by kernel_rfl) (by kernel_rfl) (fun _ _ _ h => h) (v := ?_) (by kernel_rfl) ?_ (by assumption) ?_; rotate_left; (focus (intro wS hSw; skip; go_simp; try with_reducible rfl)); (try simp only [Act.put, List.setIfInBounds_toArray, List.set_cons_zero, List.set_cons_succ]))
        (refine take_at 12 (some 17) rfl rfl (by kernel_rfl) (by kernel_rfl) (by kernel_rfl) (fun _ _ _ h => h) (v := ?_) (by kernel_rfl) ?_ (by assumption) ?_; rotate_left; (focus (intro wS hSw; skip; go_simp; try with_reducible rfl)); (try simp only [Act.put, List.setIfInBounds_toArray, List.set_cons_zero, List.set_cons_succ]))
        (refine take_at 13 (some 18) rfl rfl (by kernel_rfl) (by kernel_rfl) (by kernel_rfl) (fun _ _ _ h => h) (v := ?_) (by kernel_rfl) ?_ (by assumption) ?_; rotate_left; (focus (intro wS hSw; skip; go_simp; try with_reducible rfl)); (try simp only [Act.put, List.setIfInBounds_toArray, List.set_cons_zero, List.set_cons_succ]))
        (refine take_at 14 (some 19) rfl rfl (by kernel_rfl) (by kernel_rfl) (by kernel_rfl) (fun _ _ _ h => h) (v := ?_) (by kernel_rfl) ?_ (by assumption) ?_; rotate_left; (focus (intro wS hSw; (have q1_10 := (hSw.cell (p := ⟨g1, 10, none⟩) lg1 id).trans x1_10); go_simp; try with_reducible rfl)); (try simp only [Act.put, List.setIfInBounds_toArray, List.set_cons_zero, List.set_cons_succ]))
        (refine take_at 15 (some 20) rfl rfl (by kernel_rfl) (by kernel_rfl) (by kernel_rfl) (fun _ _ _ h => h) (v := ?_) (by kernel_rfl) ?_ (by assumption) ?_; rotate_left; (focus (intro wS hSw; skip; go_simp; try with_reducible rfl)); (try simp only [Act.put, List.setIfInBounds_toArray, List.set_cons_zero, List.set_cons_succ]))
        (refine take_at 16 (some 21) rfl rfl (by kernel_rfl) (by kernel_rfl) (by kernel_rfl) (fun _ _ _ h => h) (v := ?_) (by kernel_rfl) ?_ (by assumption) ?_; rotate_left; (focus (intro wS hSw; (have q2_10 := (hSw.cell (p := ⟨g2, 10, none⟩) lg2 id).trans x2_10); go_simp; try with_reducible rfl)); (try simp only [Act.put, List.setIfInBounds_toArray, List.set_cons_zero, List.set_cons_succ]))
        (refine take_at 17 (some 22) rfl rfl (by kernel_rfl) (by kernel_rfl) (by kernel_rfl) (fun _ _ _ h => h) (v := ?_) (by kernel_rfl) ?_ (by assumption) ?_; rotate_left; (focus (intro wS hSw; skip; go_simp; try with_reducible rfl)); (try simp only [Act.put, List.setIfInBounds_toArray, List.set_cons_zero, List.set_cons_succ]))
        (refine take_at 18 (some 23) rfl rfl (by kernel_rfl) (by kernel_rfl) (by kernel_rfl) (fun _ _ _ h => h) (v := ?_) (by kernel_rfl) ?_ (by assumption) ?_; rotate_left; (focus (intro wS hSw; skip; go_simp; try with_reducible rfl)); (try simp only [Act.put, List.setIfInBounds_toArray, List.set_cons_zero, List.set_cons_succ]))
        (refine take_at 19 (some 24) rfl rfl (by kernel_rfl) (by kernel_rfl) (by kernel_rfl) (fun _ _ _ h => h) (v := ?_) (by kernel_rfl) ?_ (by assumption) ?_; rotate_left; (focus (intro wS hSw; (have q1_11 := (hSw.cell (p := ⟨g1, 11, none⟩) lg1 id).trans x1_11); go_simp; try with_reducible rfl)); (try simp only [Act.put, List.setIfInBounds_toArray, List.set_cons_zero, List.set_cons_succ]))
        (refine take_at 20 (some 25) rfl rfl (by kernel_rfl) (by kernel_rfl) (by kernel_rfl) (fun _ _ _ h => h) (v := ?_) (by kernel_rfl) ?_ (by assumption) ?_; rotate_left; (focus (intro wS hSw; skip; go_simp; try with_reducible rfl)); (try simp only [Act.put, List.setIfInBounds_toArray, List.set_cons_zero, List.set_cons_succ]))
        (refine take_at 21 (some 26) rfl rfl (by kernel_rfl) (by kernel_rfl) (by kernel_rfl) (fun _ _ _ h => h) (v := ?_) (by kernel_rfl) ?_ (by assumption) ?_; rotate_left; (focus (intro wS hSw; (have q2_11 := (hSw.cell (p := ⟨g2, 11, none⟩) lg2 id).trans x2_11); go_simp; try with_reducible rfl)); (try simp only [Act.put, List.setIfInBounds_toArray, List.set_cons_zero, List.set_cons_succ]))
        refine wpAnyH_ready (rs := [22]) (by kernel_rfl) (by simp) ?_
        refine AllReadyH.cons rfl (fun K hK => ?_) AllReadyH.nil
        go_simp
        go_at_call 52
        refine (Kc.out _).mono ?_
        rintro e u1 ⟨rfl, hp⟩
        have hn1 : NoW w0 u1 := Fp.trans hHeld hp (fun _ _ h => h)
        skip
        clear hp hHeld
        refine hK.out _ _ hn1 (fun hHeld => ?_)
        clear hK K
        try simp only [Act.put, List.setIfInBounds_toArray, List.set_cons_zero, List.set_cons_succ]
        refine wpAnyH_ready (rs := [23]) (by kernel_rfl) (by simp) ?_
        refine AllReadyH.cons rfl (fun K hK => ?_) AllReadyH.nil
        go_simp
        have hub := heap_alloc_new u1 (.cells #[.int .i64 d, .int .i64 cm] 3)
        refine hK.out _ _ (hHeld.alloc _) (fun hHeld2 => ?_)
        clear hK K hHeld
        try simp only [Act.put, List.setIfInBounds_toArray, List.set_cons_zero, List.set_cons_succ]
        have hHeld := hHeld2
        clear hHeld2
        generalize u1.alloc (.cells #[.int .i64 d, .int .i64 cm] 3) = uz at *
        generalize u1.heap.size = gu at *
        have Ko := Lib.hid (fun (W : World) (h : W.heap[gu]? = some (.cells #[.int .i64 d, .int .i64 cm] 3)) => (show Calls Tryd.prog 51 #[.slice (some ⟨gu, 0, none⟩) 2 2] W (Ret1 (.int .i64 (if d ≠ 0 then d else cm)) W) from (or_ok gu (fun j => if j = 0 then d else cm) W (fun j hj => by have hj2 : j = 0 ∨ j = 1 := (by omega); rcases hj2 with rfl | rfl <;> simp [World.cell?, h])).mono fun e w' ⟨h1, h2⟩ => ⟨h1, by rw [h2]; exact Fp.refl _ _⟩))
        have hor := Hor.out
        generalize (if d ≠ 0 then d else cm) = orv at *
        refine wpAnyH_ready (rs := [24]) (by kernel_rfl) (by simp) ?_
        refine AllReadyH.cons rfl (fun K hK => ?_) AllReadyH.nil
        go_simp
        go_at_call 51
        refine (Ko.out _ hub).mono ?_
        rintro e u2 ⟨rfl, hp⟩
        have hn2 : NoW w0 u2 := Fp.trans hHeld hp (fun _ _ h => h)
        skip
        clear hp hHeld hn1
        refine hK.out _ _ hn2 (fun hHeld => ?_)
        clear hK K
        try simp only [Act.put, List.setIfInBounds_toArray, List.set_cons_zero, List.set_cons_succ]
        clear hub Ko
        (refine take_at 25 (some 30) rfl rfl (by kernel_rfl) (by kernel_rfl) (by kernel_rfl) (fun _ _ _ h => h) (v := ?_) (by kernel_rfl) ?_ (by assumption) ?_; rotate_left; (focus (intro wS hSw; skip; go_simp; try with_reducible rfl)); (try simp only [Act.put, List.setIfInBounds_toArray, List.set_cons_zero, List.set_cons_succ]))
        (refine take_at 26 (some 31) rfl rfl (by kernel_rfl) (by kernel_rfl) (by kernel_rfl) (fun _ _ _ h => h) (v := ?_) (by kernel_rfl) ?_ (by assumption) ?_; rotate_left; (focus (intro wS hSw; skip; go_simp; try with_reducible rfl)); (try simp only [Act.put, List.setIfInBounds_toArray, List.set_cons_zero, List.set_cons_succ]))
        (refine take_at 27 (some 32) rfl rfl (by kernel_rfl) (by kernel_rfl) (by kernel_rfl) (fun _ _ _ h => h) (v := ?_) (by kernel_rfl) ?_ (by assumption) ?_; rotate_left; (focus (intro wS hSw; skip; go_simp; try with_reducible rfl)); (try simp only [Act.put, List.setIfInBounds_toArray, List.set_cons_zero, List.set_cons_succ]))
        (refine drop_at 28 (some 33) rfl rfl (by kernel_rfl) (by kernel_rfl) (by kernel_rfl) (fun _ _ _ h => h) (by kernel_rfl) (by assumption) ?_; (try simp only [Act.put, List.setIfInBounds_toArray, List.set_cons_zero, List.set_cons_succ]))
        (refine drop_at 29 (some 34) rfl rfl (by kernel_rfl) (by kernel_rfl) (by kernel_rfl) (fun _ _ _ h => h) (by kernel_rfl) (by assumption) ?_; (try simp only [Act.put, List.setIfInBounds_toArray, List.set_cons_zero, List.set_cons_succ]))
        (refine drop_at 30 (some 35) rfl rfl (by kernel_rfl) (by kernel_rfl) (by kernel_rfl) (fun _ _ _ h => h) (by kernel_rfl) (by assumption) ?_; (try simp only [Act.put, List.setIfInBounds_toArray, List.set_cons_zero, List.set_cons_succ]))
        (refine drop_at 31 (some 36) rfl rfl (by kernel_rfl) (by kernel_rfl) (by kernel_rfl) (fun _ _ _ h => h) (by kernel_rfl) (by assumption) ?_; (try simp only [Act.put, List.setIfInBounds_toArray, List.set_cons_zero, List.set_cons_succ]))
        (refine drop_at 32 (some 37) rfl rfl (by kernel_rfl) (by kernel_rfl) (by kernel_rfl) (fun _ _ _ h => h) (by kernel_rfl) (by assumption) ?_; (try simp only [Act.put, List.setIfInBounds_toArray, List.set_cons_zero, List.set_cons_succ]))
        (refine take_at 33 (some 38) rfl rfl (by kernel_rfl) (by kernel_rfl) (by kernel_rfl) (fun _ _ _ h => h) (v := ?_) (by kernel_rfl) ?_ (by assumption) ?_; rotate_left; (focus (intro wS hSw; skip; go_simp; try with_reducible rfl)); (try simp only [Act.put, List.setIfInBounds_toArray, List.set_cons_zero, List.set_cons_succ]))
        (refine take_at 34 (some 4) rfl rfl (by kernel_rfl) (by kernel_rfl) (by kernel_rfl) (fun _ _ _ h => h) (v := ?_) (by kernel_rfl) ?_ (by assumption) ?_; rotate_left; (focus (intro wS hSw; skip; go_simp; try with_reducible rfl)); (try simp only [Act.put, List.setIfInBounds_toArray, List.set_cons_zero, List.set_cons_succ]))
        refine wpAnyH_done (by kernel_rfl) ?_ _
        have Hf2 := Lib.hid (Hw0.out.trans hHeld (fun _ _ h => h))
        go_wp2_with fail
        go_ret
        exact ⟨rfl, Hf2.out⟩
      · rw [h3] at hor
        simp only [Bool.true_and]
        have Hor := Lib.hid hor
        clear h1 h2 h3 hor
        go_enter Tryd.func29, Tryd.ntmps29
        go_wp2_with fail
        have hw0 : NoW w ((w.alloc (.cells #[.int .u8 r, .int .u32 a, .int .u16 p, .int .u32 b, .int .u16 q, .int .u8 r2, .int .u32 a2, .int .u16 p2, .int .u32 b2, .int .u16 q2, .int .i64 st, .int .i64 dl, .slice ad n c] 31)).alloc (.cells #[.int .u8 r3, .int .u32 a3, .int .u16 p3, .int .u32 b3, .int .u16 q3, .int .u8 r4, .int .u32 a4, .int .u16 p4, .int .u32 b4, .int .u16 q4, .int .i64 st2, .int .i64 dl2, .slice ad2 n2 c2] 31)) := ((Fp.refl _ _).alloc _).alloc _
        obtain ⟨hb0, hb1⟩ := box2 w (.cells #[.int .u8 r, .int .u32 a, .int .u16 p, .int .u32 b, .int .u16 q, .int .u8 r2, .int .u32 a2, .int .u16 p2, .int .u32 b2, .int .u16 q2, .int .i64 st, .int .i64 dl, .slice ad n c] 31) (.cells #[.int .u8 r3, .int .u32 a3, .int .u16 p3, .int .u32 b3, .int .u16 q3, .int .u8 r4, .int .u32 a4, .int .u16 p4, .int .u32 b4, .int .u16 q4, .int .i64 st2, .int .i64 dl2, .slice ad2 n2 c2] 31)
        generalize (w.alloc (.cells #[.int .u8 r, .int .u32 a, .int .u16 p, .int .u32 b, .int .u16 q, .int .u8 r2, .int .u32 a2, .int .u16 p2, .int .u32 b2, .int .u16 q2, .int .i64 st, .int .i64 dl, .slice ad n c] 31)).alloc (.cells #[.int .u8 r3, .int .u32 a3, .int .u16 p3, .int .u32 b3, .int .u16 q3, .int .u8 r4, .int .u32 a4, .int .u16 p4, .int .u32 b4, .int .u16 q4, .int .i64 st2, .int .i64 dl2, .slice ad2 n2 c2] 31) = w0 at *
        have B1 := Lib.hid hb0
        have B2 := Lib.hid hb1
        have Hw0 := Lib.hid hw0
        clear hb0 hb1 hw0
        generalize w.heap.size + 1 = g2 at *
        generalize w.heap.size = g1 at *
        have x1_0 : w0.cell? ⟨g1, 0, none⟩ = some (.int .u8 r) := by simp [World.cell?, B1.out]
        have x1_1 : w0.cell? ⟨g1, 1, none⟩ = some (.int .u32 a) := by simp [World.cell?, B1.out]
        have x1_2 : w0.cell? ⟨g1, 2, none⟩ = some (.int .u16 p) := by simp [World.cell?, B1.out]
        have x1_3 : w0.cell? ⟨g1, 3, none⟩ = some (.int .u32 b) := by simp [World.cell?, B1.out]
        have x1_4 : w0.cell? ⟨g1, 4, none⟩ = some (.int .u16 q) := by simp [World.cell?, B1.out]
        have x1_5 : w0.cell? ⟨g1, 5, none⟩ = some (.int .u8 r2) := by simp [World.cell?, B1.out]
        have x1_6 : w0.cell? ⟨g1, 6, none⟩ = some (.int .u32 a2) := by simp [World.cell?, B1.out]
        have x1_7 : w0.cell? ⟨g1, 7, none⟩ = some (.int .u16 p2) := by simp [World.cell?, B1.out]
        have x1_8 : w0.cell? ⟨g1, 8, none⟩ = some (.int .u32 b2) := by simp [World.cell?, B1.out]
        have x1_9 : w0.cell? ⟨g1, 9, none⟩ = some (.int .u16 q2) := by simp [World.cell?, B1.out]
        have x1_10 : w0.cell? ⟨g1, 10, none⟩ = some (.int .i64 st) := by simp [World.cell?, B1.out]
        have x1_11 : w0.cell? ⟨g1, 11, none⟩ = some (.int .i64 dl) := by simp [World.cell?, B1.out]
        have x1_12 : w0.cell? ⟨g1, 12, none⟩ = some (.slice ad n c) := by simp [World.cell?, B1.out]
        have lg1 : g1 < w0.heap.size := cell_lt x1_0
        have x2_0 : w0.cell? ⟨g2, 0, none⟩ = some (.int .u8 r3) := by simp [World.cell?, B2.out]
        have x2_1 : w0.cell? ⟨g2, 1, none⟩ = some (.int .u32 a3) := by simp [World.cell?, B2.out]
        have x2_2 : w0.cell? ⟨g2, 2, none⟩ = some (.int .u16 p3) := by simp [World.cell?, B2.out]
        have x2_3 : w0.cell? ⟨g2, 3, none⟩ = some (.int .u32 b3) := by simp [World.cell?, B2.out]
        have x2_4 : w0.cell? ⟨g2, 4, none⟩ = some (.int .u16 q3) := by simp [World.cell?, B2.out]
        have x2_5 : w0.cell? ⟨g2, 5, none⟩ = some (.int .u8 r4) := by simp [World.cell?, B2.out]
        have x2_6 : w0.cell? ⟨g2, 6, none⟩ = some (.int .u32 a4) := by simp [World.cell?, B2.out]
        have x2_7 : w0.cell? ⟨g2, 7, none⟩ = some (.int .u16 p4) := by simp [World.cell?, B2.out]
        have x2_8 : w0.cell? ⟨g2, 8, none⟩ = some (.int .u32 b4) := by simp [World.cell?, B2.out]
        have x2_9 : w0.cell? ⟨g2, 9, none⟩ = some (.int .u16 q4) := by simp [World.cell?, B2.out]
        have x2_10 : w0.cell? ⟨g2, 10, none⟩ = some (.int .i64 st2) := by simp [World.cell?, B2.out]
        have x2_11 : w0.cell? ⟨g2, 11, none⟩ = some (.int .i64 dl2) := by simp [World.cell?, B2.out]
        have x2_12 : w0.cell? ⟨g2, 12, none⟩ = some (.slice ad2 n2 c2) := by simp [World.cell?, B2.out]
        have lg2 : g2 < w0.heap.size := cell_lt x2_0
        refine wp_region_held_drew (S := fun wx => NoW w0 wx) (by kernel_rfl) (Fp.drew (Fp.refl _ _)) (fun hHeld => ?_)
        (refine take_at 0 (some 5) rfl rfl (by kernel_rfl) (by kernel_rfl) (by kernel_rfl) (fun _ _ _ h => h) (v := ?_) (by kernel_rfl) ?_ (by assumption) ?_; rotate_left; (focus (intro wS hSw; skip; go_simp; try with_reducible rfl)); (try simp only [Act.put, List.setIfInBounds_toArray, List.set_cons_zero, List.set_cons_succ]))
        (refine take_at 1 (some 6) rfl rfl (by kernel_rfl) (by kernel_rfl) (by kernel_rfl) (fun _ _ _ h => h) (v := ?_) (by kernel_rfl) ?_ (by assumption) ?_; rotate_left; (focus (intro wS hSw; (have q1_0 := (hSw.cell (p := ⟨g1, 0, none⟩) lg1 id).trans x1_0); (have q1_1 := (hSw.cell (p := ⟨g1, 1, none⟩) lg1 id).trans x1_1); (have q1_2 := (hSw.cell (p := ⟨g1, 2, none⟩) lg1 id).trans x1_2); (have q1_3 := (hSw.cell (p := ⟨g1, 3, none⟩) lg1 id).trans x1_3); (have q1_4 := (hSw.cell (p := ⟨g1, 4, none⟩) lg1 id).trans x1_4); go_simp; try with_reducible rfl)); (try simp only [Act.put, List.setIfInBounds_toArray, List.set_cons_zero, List.set_cons_succ]))
        (refine take_at 2 (some 7) rfl rfl (by kernel_rfl) (by kernel_rfl) (by kernel_rfl) (fun _ _ _ h => h) (v := ?_) (by kernel_rfl) ?_ (by assumption) ?_; rotate_left; (focus (intro wS hSw; skip; go_simp; try with_reducible rfl)); (try simp only [Act.put, List.setIfInBounds_toArray, List.set_cons_zero, List.set_cons_succ]))
        (refine take_at 3 (some 8) rfl rfl (by kernel_rfl) (by kernel_rfl) (by kernel_rfl) (fun _ _ _ h => h) (v := ?_) (by kernel_rfl) ?_ (by assumption) ?_; rotate_left; (focus (intro wS hSw; (have q2_0 := (hSw.cell (p := ⟨g2, 0, none⟩) lg2 id).trans x2_0); (have q2_1 := (hSw.cell (p := ⟨g2, 1, none⟩) lg2 id).trans x2_1); (have q2_2 := (hSw.cell (p := ⟨g2, 2, none⟩) lg2 id).trans x2_2); (have q2_3 := (hSw.cell (p := ⟨g2, 3, none⟩) lg2 id).trans x2_3); (have q2_4 := (hSw.cell (p := ⟨g2, 4, none⟩) lg2 id).trans x2_4); go_simp; try with_reducible rfl)); (try simp only [Act.put, List.setIfInBounds_toArray, List.set_cons_zero, List.set_cons_succ]))
        (refine take_at 4 (some 9) rfl rfl (by kernel_rfl) (by kernel_rfl) (by kernel_rfl) (fun _ _ _ h => h) (v := ?_) (by kernel_rfl) ?_ (by assumption) ?_; rotate_left; (focus (intro wS hSw; skip; go_simp; try with_reducible rfl)); (try simp only [Act.put, List.setIfInBounds_toArray, List.set_cons_zero, List.set_cons_succ]))
        (refine take_at 5 (some 10) rfl rfl (by kernel_rfl) (by kernel_rfl) (by kernel_rfl) (fun _ _ _ h => h) (v := ?_) (by kernel_rfl) ?_ (by assumption) ?_; rotate_left; (focus (intro wS hSw; skip; go_simp; try with_reducible rfl)); (try simp only [Act.put, List.setIfInBounds_toArray, List.set_cons_zero, List.set_cons_succ]))
        (refine take_at 6 (some 11) rfl rfl (by kernel_rfl) (by kernel_rfl) (by kernel_rfl) (fun _ _ _ h => h) (v := ?_) (by kernel_rfl) ?_ (by assumption) ?_; rotate_left; (focus (intro wS hSw; skip; go_simp; try with_reducible rfl)); (try simp only [Act.put, List.setIfInBounds_toArray, List.set_cons_zero, List.set_cons_succ]))
        (refine take_at 7 (some 12) rfl rfl (by kernel_rfl) (by kernel_rfl) (by kernel_rfl) (fun _ _ _ h => h) (v := ?_) (by kernel_rfl) ?_ (by assumption) ?_; rotate_left; (focus (intro wS hSw; (have q1_5 := (hSw.cell (p := ⟨g1, 5, none⟩) lg1 id).trans x1_5); (have q1_6 := (hSw.cell (p := ⟨g1, 6, none⟩) lg1 id).trans x1_6); (have q1_7 := (hSw.cell (p := ⟨g1, 7, none⟩) lg1 id).trans x1_7); (have q1_8 := (hSw.cell (p := ⟨g1, 8, none⟩) lg1 id).trans x1_8); (have q1_9 := (hSw.cell (p := ⟨g1, 9, none⟩) lg1 id).trans x1_9); go_simp; try with_reducible rfl)); (try simp only [Act.put, List.setIfInBounds_toArray, List.set_cons_zero, List.set_cons_succ]))
        (refine take_at 8 (some 13) rfl rfl (by kernel_rfl) (by kernel_rfl) (by kernel_rfl) (fun _ _ _ h => h) (v := ?_) (by kernel_rfl) ?_ (by assumption) ?_; rotate_left; (focus (intro wS hSw; skip; go_simp; try with_reducible rfl)); (try simp only [Act.put, List.setIfInBounds_toArray, List.set_cons_zero, List.set_cons_succ]))
        (refine take_at 9 (some 14) rfl rfl (by kernel_rfl) (by kernel_rfl) (by kernel_rfl) (fun _ _ _ h => h) (v := ?_) (by kernel_rfl) ?_ (by assumption) ?_; rotate_left; (focus (intro wS hSw; (have q2_5 := (hSw.cell (p := ⟨g2, 5, none⟩) lg2 id).trans x2_5); (have q2_6 := (hSw.cell (p := ⟨g2, 6, none⟩) lg2 id).trans x2_6); (have q2_7 := (hSw.cell (p := ⟨g2, 7, none⟩) lg2 id).trans x2_7); (have q2_8 := (hSw.cell (p := ⟨g2, 8, none⟩) lg2 id).trans x2_8); (have q2_9 := (hSw.cell (p := ⟨g2, 9, none⟩) lg2 id).trans x2_9); go_simp; try with_reducible rfl)); (try simp only [Act.put, List.setIfInBounds_toArray, List.set_cons_zero, List.set_cons_succ]))
        (refine take_at 10 (some 15) rfl rfl (by kernel_rfl) (by kernel_rfl) (by kernel_rfl) (fun _ _ _ h => h) (v := ?_) (by kernel_rfl) ?_ (by assumption) ?_; rotate_left; (focus (intro wS hSw; skip; go_simp; try with_reducible rfl)); (try simp only [Act.put, List.setIfInBounds_toArray, List.set_cons_zero, List.set_cons_succ]))
        (refine take_at 11 (some 16) rfl rfl (by kernel_rfl) (by kernel_rfl) (by kernel_rfl) (fun _ _ _ h => h) (v := ?_) (by kernel_rfl) ?_ (by assumption) ?_; rotate_left; (focus (intro wS hSw; skip; go_simp; try with_reducible rfl)); (try simp only [Act.put, List.setIfInBounds_toArray, List.set_cons_zero, List.set_cons_succ]))
        (refine take_at 12 (some 17) rfl rfl (by kernel_rfl) (by kernel_rfl) (by kernel_rfl) (fun _ _ _ h => h) (v := ?_) (by kernel_rfl) ?_ (by assumption) ?_; rotate_left; (focus (intro wS hSw; skip; go_simp; try with_reducible rfl)); (try simp only [Act.put, List.setIfInBounds_toArray, List.set_cons_zero, List.set_cons_succ]))
        (refine take_at 13 (some 18) rfl rfl (by kernel_rfl) (by kernel_rfl) (by kernel_rfl) (fun _ _ _ h => h) (v := ?_) (by kernel_rfl) ?_ (by assumption) ?_; rotate_left; (focus (intro wS hSw; skip; go_simp; try with_reducible rfl)); (try simp only [Act.put, List.setIfInBounds_toArray, List.set_cons_zero, List.set_cons_succ]))
        (refine take_at 14 (some 19) rfl rfl (by kernel_rfl) (by kernel_rfl) (by kernel_rfl) (fun _ _ _ h => h) (v := ?_) (by kernel_rfl) ?_ (by assumption) ?_; rotate_left; (focus (intro wS hSw; (have q1_10 := (hSw.cell (p := ⟨g1, 10, none⟩) lg1 id).trans x1_10); go_simp; try with_reducible rfl)); (try simp only [Act.put, List.setIfInBounds_toArray, List.set_cons_zero, List.set_cons_succ]))
        (refine take_at 15 (some 20) rfl rfl (by kernel_rfl) (by kernel_rfl) (by kernel_rfl) (fun _ _ _ h => h) (v := ?_) (by kernel_rfl) ?_ (by assumption) ?_; rotate_left; (focus (intro wS hSw; skip; go_simp; try with_reducible rfl)); (try simp only [Act.put, List.setIfInBounds_toArray, List.set_cons_zero, List.set_cons_succ]))
        (refine take_at 16 (some 21) rfl rfl (by kernel_rfl) (by kernel_rfl) (by kernel_rfl) (fun _ _ _ h => h) (v := ?_) (by kernel_rfl) ?_ (by assumption) ?_; rotate_left; (focus (intro wS hSw; (have q2_10 := (hSw.cell (p := ⟨g2, 10, none⟩) lg2 id).trans x2_10); go_simp; try with_reducible rfl)); (try simp only [Act.put, List.setIfInBounds_toArray, List.set_cons_zero, List.set_cons_succ]))
        (refine take_at 17 (some 22) rfl rfl (by kernel_rfl) (by kernel_rfl) (by kernel_rfl) (fun _ _ _ h => h) (v := ?_) (by kernel_rfl) ?_ (by assumption) ?_; rotate_left; (focus (intro wS hSw; skip; go_simp; try with_reducible rfl)); (try simp only [Act.put, List.setIfInBounds_toArray, List.set_cons_zero, List.set_cons_succ]))
        (refine take_at 18 (some 23) rfl rfl (by kernel_rfl) (by kernel_rfl) (by kernel_rfl) (fun _ _ _ h => h) (v := ?_) (by kernel_rfl) ?_ (by assumption) ?_; rotate_left; (focus (intro wS hSw; skip; go_simp; try with_reducible rfl)); (try simp only [Act.put, List.setIfInBounds_toArray, List.set_cons_zero, List.set_cons_succ]))
        (refine take_at 19 (some 24) rfl rfl (by kernel_rfl) (by kernel_rfl) (by kernel_rfl) (fun _ _ _ h => h) (v := ?_) (by kernel_rfl) ?_ (by assumption) ?_; rotate_left; (focus (intro wS hSw; (have q1_11 := (hSw.cell (p := ⟨g1, 11, none⟩) lg1 id).trans x1_11); go_simp; try with_reducible rfl)); (try simp only [Act.put, List.setIfInBounds_toArray, List.set_cons_zero, List.set_cons_succ]))
        (refine take_at 20 (some 25) rfl rfl (by kernel_rfl) (by kernel_rfl) (by kernel_rfl) (fun _ _ _ h => h) (v := ?_) (by kernel_rfl) ?_ (by assumption) ?_; rotate_left; (focus (intro wS hSw; skip; go_simp; try with_reducible rfl)); (try simp only [Act.put, List.setIfInBounds_toArray, List.set_cons_zero, List.set_cons_succ]))
        (refine take_at 21 (some 26) rfl rfl (by kernel_rfl) (by kernel_rfl) (by kernel_rfl) (fun _ _ _ h => h) (v := ?_) (by kernel_rfl) ?_ (by assumption) ?_; rotate_left; (focus (intro wS hSw; (have q2_11 := (hSw.cell (p := ⟨g2, 11, none⟩) lg2 id).trans x2_11); go_simp; try with_reducible rfl)); (try simp only [Act.put, List.setIfInBounds_toArray, List.set_cons_zero, List.set_cons_succ]))
        refine wpAnyH_ready (rs := [22]) (by kernel_rfl) (by simp) ?_
        refine AllReadyH.cons rfl (fun K hK => ?_) AllReadyH.nil
        go_simp
        go_at_call 52
        refine (Kc.out _).mono ?_
        rintro e u1 ⟨rfl, hp⟩
        have hn1 : NoW w0 u1 := Fp.trans hHeld hp (fun _ _ h => h)
        skip
        clear hp hHeld
        refine hK.out _ _ hn1 (fun hHeld => ?_)
        clear hK K
        try simp only [Act.put, List.setIfInBounds_toArray, List.set_cons_zero, List.set_cons_succ]
        refine wpAnyH_ready (rs := [23]) (by kernel_rfl) (by simp) ?_
        refine AllReadyH.cons rfl (fun K hK => ?_) AllReadyH.nil
        go_simp
        have hub := heap_alloc_new u1 (.cells #[.int .i64 d, .int .i64 cm] 3)
        refine hK.out _ _ (hHeld.alloc _) (fun hHeld2 => ?_)
        clear hK K hHeld
        try simp only [Act.put, List.setIfInBounds_toArray, List.set_cons_zero, List.set_cons_succ]
        have hHeld := hHeld2
        clear hHeld2
        generalize u1.alloc (.cells #[.int .i64 d, .int .i64 cm] 3) = uz at *
        generalize u1.heap.size = gu at *
        have Ko := Lib.hid (fun (W : World) (h : W.heap[gu]? = some (.cells #[.int .i64 d, .int .i64 cm] 3)) => (show Calls Tryd.prog 51 #[.slice (some ⟨gu, 0, none⟩) 2 2] W (Ret1 (.int .i64 (if d ≠ 0 then d else cm)) W) from (or_ok gu (fun j => if j = 0 then d else cm) W (fun j hj => by have hj2 : j = 0 ∨ j = 1 := (by omega); rcases hj2 with rfl | rfl <;> simp [World.cell?, h])).mono fun e w' ⟨h1, h2⟩ => ⟨h1, by rw [h2]; exact Fp.refl _ _⟩))
        have hor := Hor.out
        generalize (if d ≠ 0 then d else cm) = orv at *
        refine wpAnyH_ready (rs := [24]) (by kernel_rfl) (by simp) ?_
        refine AllReadyH.cons rfl (fun K hK => ?_) AllReadyH.nil
        go_simp
        go_at_call 51
        refine (Ko.out _ hub).mono ?_
        rintro e u2 ⟨rfl, hp⟩
        have hn2 : NoW w0 u2 := Fp.trans hHeld hp (fun _ _ h => h)
        skip
        clear hp hHeld hn1
        refine hK.out _ _ hn2 (fun hHeld => ?_)
        clear hK K
        try simp only [Act.put, List.setIfInBounds_toArray, List.set_cons_zero, List.set_cons_succ]
        clear hub Ko
        (refine take_at 25 (some 30) rfl rfl (by kernel_rfl) (by kernel_rfl) (by kernel_rfl) (fun _ _ _ h => h) (v := ?_) (by kernel_rfl) ?_ (by assumption) ?_; rotate_left; (focus (intro wS hSw; skip; go_simp; try with_reducible rfl)); (try simp only [Act.put, List.setIfInBounds_toArray, List.set_cons_zero, List.set_cons_succ]))
        (refine take_at 26 (some 31) rfl rfl (by kernel_rfl) (by kernel_rfl) (by kernel_rfl) (fun _ _ _ h => h) (v := ?_) (by kernel_rfl) ?_ (by assumption) ?_; rotate_left; (focus (intro wS hSw; skip; go_simp; try with_reducible rfl)); (try simp only [Act.put, List.setIfInBounds_toArray, List.set_cons_zero, List.set_cons_succ]))
        (refine take_at 27 (some 32) rfl rfl (by kernel_rfl) (by kernel_rfl) (by kernel_rfl) (fun _ _ _ h => h) (v := ?_) (by kernel_rfl) ?_ (by assumption) ?_; rotate_left; (focus (intro wS hSw; skip; go_simp; try with_reducible rfl)); (try simp only [Act.put, List.setIfInBounds_toArray, List.set_cons_zero, List.set_cons_succ]))
        (refine take_at 28 (some 33) rfl rfl (by kernel_rfl) (by kernel_rfl) (by kernel_rfl) (fun _ _ _ h => h) (v := ?_) (by kernel_rfl) ?_ (by assumption) ?_; rotate_left; (focus (intro wS hSw; skip; go_simp; try with_reducible rfl)); (try simp only [Act.put, List.setIfInBounds_toArray, List.set_cons_zero, List.set_cons_succ]))
        (refine take_at 29 (some 34) rfl rfl (by kernel_rfl) (by kernel_rfl) (by kernel_rfl) (fun _ _ _ h => h) (v := ?_) (by kernel_rfl) ?_ (by assumption) ?_; rotate_left; (focus (intro wS hSw; (have q1_12 := (hSw.cell (p := ⟨g1, 12, none⟩) lg1 id).trans x1_12); go_simp; try with_reducible rfl)); (try simp only [Act.put, List.setIfInBounds_toArray, List.set_cons_zero, List.set_cons_succ]))
        (refine take_at 30 (some 35) rfl rfl (by kernel_rfl) (by kernel_rfl) (by kernel_rfl) (fun _ _ _ h => h) (v := ?_) (by kernel_rfl) ?_ (by assumption) ?_; rotate_left; (focus (intro wS hSw; skip; go_simp; try with_reducible rfl)); (try simp only [Act.put, List.setIfInBounds_toArray, List.set_cons_zero, List.set_cons_succ]))
        (refine take_at 31 (some 36) rfl rfl (by kernel_rfl) (by kernel_rfl) (by kernel_rfl) (fun _ _ _ h => h) (v := ?_) (by kernel_rfl) ?_ (by assumption) ?_; rotate_left; (focus (intro wS hSw; (have q2_12 := (hSw.cell (p := ⟨g2, 12, none⟩) lg2 id).trans x2_12); go_simp; try with_reducible rfl)); (try simp only [Act.put, List.setIfInBounds_toArray, List.set_cons_zero, List.set_cons_succ]))
        refine wpAnyH_ready (rs := [32]) (by kernel_rfl) (by simp) ?_
        refine AllReadyH.cons rfl (fun K hK => ?_) AllReadyH.nil
        go_simp
        go_at_call 53
        refine (Kq.out _ (Hw0.out.trans hHeld (fun _ _ h => h))).mono ?_
        rintro e u3 ⟨rfl, hp⟩
        have hn3 : NoW w0 u3 := Fp.trans hHeld hp (fun _ _ h => h)
        skip
        clear hp hHeld hn2
        refine hK.out _ _ hn3 (fun hHeld => ?_)
        clear hK K
        try simp only [Act.put, List.setIfInBounds_toArray, List.set_cons_zero, List.set_cons_succ]
        (refine take_at 33 (some 38) rfl rfl (by kernel_rfl) (by kernel_rfl) (by kernel_rfl) (fun _ _ _ h => h) (v := ?_) (by kernel_rfl) ?_ (by assumption) ?_; rotate_left; (focus (intro wS hSw; skip; go_simp; try with_reducible rfl)); (try simp only [Act.put, List.setIfInBounds_toArray, List.set_cons_zero, List.set_cons_succ]))
        (refine take_at 34 (some 4) rfl rfl (by kernel_rfl) (by kernel_rfl) (by kernel_rfl) (fun _ _ _ h => h) (v := ?_) (by kernel_rfl) ?_ (by assumption) ?_; rotate_left; (focus (intro wS hSw; skip; go_simp; try with_reducible rfl)); (try simp only [Act.put, List.setIfInBounds_toArray, List.set_cons_zero, List.set_cons_succ]))
        refine wpAnyH_done (by kernel_rfl) ?_ _
        have Hf2 := Lib.hid (Hw0.out.trans hHeld (fun _ _ h => h))
        go_wp2_with fail
        go_ret
        exact ⟨rfl, Hf2.out⟩

end Go.Proofs.YtdmbjndhdldggaaDoor

namespace Go.Proofs.YtdmbjndhdldggaaDoor
set_option linter.unusedVariables false
set_option linter.unusedSimpArgs false
open Go.RowKit Go.Lib Go.Sort
set_option maxHeartbeats 1000000 in
theorem flow18 (w : World) : Calls Tryd.prog 39 #[] w fun e w' => ∃ b, e = .returned (.agg #[.int .u8 17, .int .u32 167772161, .int .u16 4000, .int .u32 134744072, .int .u16 53, .int .u8 17, .int .u32 134744072, .int .u16 53, .int .u32 151587081, .int .u16 1006, .int .i64 1, .int .i64 120, .slice (some ⟨b, 0, none⟩) 1 1]) ∧ w.heap.size ≤ b ∧
    Holds w' b 0 1 [.int .u32 151587081, .int .u16 1006, .int .u32 167772161, .int .u16 4000] ∧ NoW w w' := by
  go_enter Tryd.func39, Tryd.ntmps39
  go_wp2_with fail
  have hb := heap_alloc_new ((((w.alloc (.cells #[.int .u8 17, .int .u32 167772161, .int .u16 4000, .int .u32 134744072, .int .u16 53, .int .u8 17, .int .u32 134744072, .int .u16 53, .int .u32 151587081, .int .u16 1006, .int .i64 1, .int .i64 120, .slice (some ⟨w.heap.size + 1 + 1 + 1 + 1, 0, none⟩) 1 1] 31)).alloc (.cells #[.int .u32 167772161, .int .u16 4000] 26)).alloc (.cells #[.int .u32 151587081, .int .u16 1006] 26)).alloc (.cells #[.int .u32 134744072, .int .u16 53] 26)) (.cells #[.int .u32 151587081, .int .u16 1006, .int .u32 167772161, .int .u16 4000] 74)
  rw [show ((((w.alloc (.cells #[.int .u8 17, .int .u32 167772161, .int .u16 4000, .int .u32 134744072, .int .u16 53, .int .u8 17, .int .u32 134744072, .int .u16 53, .int .u32 151587081, .int .u16 1006, .int .i64 1, .int .i64 120, .slice (some ⟨w.heap.size + 1 + 1 + 1 + 1, 0, none⟩) 1 1] 31)).alloc (.cells #[.int .u32 167772161, .int .u16 4000] 26)).alloc (.cells #[.int .u32 151587081, .int .u16 1006] 26)).alloc (.cells #[.int .u32 134744072, .int .u16 53] 26)).heap.size = w.heap.size + 1 + 1 + 1 + 1 by simp] at hb
  refine bodyPost_ret (v := .agg #[.int .u8 17, .int .u32 167772161, .int .u16 4000, .int .u32 134744072, .int .u16 53, .int .u8 17, .int .u32 134744072, .int .u16 53, .int .u32 151587081, .int .u16 1006, .int .i64 1, .int .i64 120, .slice (some ⟨w.heap.size + 1 + 1 + 1 + 1, 0, none⟩) 1 1]) (by simp only [results, Tryd.results39]; go_simp) rfl ⟨w.heap.size + 1 + 1 + 1 + 1, rfl, by omega, ⟨rfl, ?_, ?_, ?_⟩, ?_⟩
  · intro j x hj
    match j, hj with
    | 0, hj => (simp at hj; simp only [World.cell?, hb]; simp [← hj])
    | 1, hj => (simp at hj; simp only [World.cell?, hb]; simp [← hj])
    | 2, hj => (simp at hj; simp only [World.cell?, hb]; simp [← hj])
    | 3, hj => (simp at hj; simp only [World.cell?, hb]; simp [← hj])
    | j + 4, hj => simp at hj
  · intro x hx
    simp at hx
    rcases hx with rfl | rfl | rfl | rfl <;> rfl
  · simp
  · exact (((((Fp.refl _ _).alloc _).alloc _).alloc _).alloc _).alloc _
end Go.Proofs.YtdmbjndhdldggaaDoor

namespace Go.Proofs.YtdmbjndhdldggaaDoor
set_option linter.unusedVariables false
set_option linter.unusedSimpArgs false
open Go.RowKit
def up (f : Fin 3 → Bool) (j : Fin 3) : Fin 3 → Bool := fun k => if k = j then true else f k
def lst (c a s : Fin 3 → Bool) : Array Bool := #[true, c 0, true, c 1, true, c 2, a 0, a 1, a 2, s 0, s 1, s 2]
theorem fin3 {p : Fin 3 → Prop} (h0 : p 0) (h1 : p 1) (h2 : p 2) (j : Fin 3) : p j := by
  match j with
  | 0 => exact h0
  | 1 => exact h1
  | 2 => exact h2
theorem lst_c (c a s : Fin 3 → Bool) : ∀ j : Fin 3, (lst c a s).setIfInBounds (2 * j.val + 1) true = lst (up c j) a s := fin3 rfl rfl rfl
theorem lst_a (c a s : Fin 3 → Bool) : ∀ j : Fin 3, (lst c a s).setIfInBounds (6 + j.val) true = lst c (up a j) s := fin3 rfl rfl rfl
theorem lst_s (c a s : Fin 3 → Bool) : ∀ j : Fin 3, (lst c a s).setIfInBounds (9 + j.val) true = lst c a (up s j) := fin3 rfl rfl rfl
theorem up_self (f : Fin 3 → Bool) (j : Fin 3) : up f j j = true := by simp [up]
theorem up_other (f : Fin 3 → Bool) {j k : Fin 3} (h : k ≠ j) : up f j k = f k := by simp [up, h]
def nof (f : Fin 3 → Bool) : Nat := (if f 0 then 0 else 1) + (if f 1 then 0 else 1) + (if f 2 then 0 else 1)
theorem nof_up (f : Fin 3 → Bool) : ∀ j : Fin 3, f j = false → nof (up f j) < nof f := by
  refine fin3 ?_ ?_ ?_ <;> intro h <;> simp [nof, up, h] <;> omega
theorem nof_zero {f : Fin 3 → Bool} (h : nof f = 0) : ∀ j : Fin 3, f j = true := by
  unfold nof at h
  refine fin3 ?_ ?_ ?_
  · rcases h0 : f 0 <;> simp_all
  · rcases h0 : f 1 <;> simp_all
  · rcases h0 : f 2 <;> simp_all
def allB (p : Bool → Bool) : Bool := p true && p false
theorem allB_spec {p : Bool → Bool} (h : allB p = true) (b : Bool) : p b = true := by
  simp only [allB, Bool.and_eq_true] at h
  cases b; exact h.2; exact h.1
def okI (c a s : Fin 3 → Bool) (i : Nat) : Bool := (i == 1 && !c 0) || (i == 3 && !c 1) || (i == 5 && !c 2) || (i == 6 && !a 0) || (i == 7 && !a 1) || (i == 8 && !a 2) || (i == 9 && !s 0 && c 0 && a 0) || (i == 10 && !s 1 && c 1 && a 1) || (i == 11 && !s 2 && c 2 && a 2)
def full (c a s : Fin 3 → Bool) : Bool := c 0 && c 1 && c 2 && a 0 && a 1 && a 2 && s 0 && s 1 && s 2
def tri (x y z : Bool) : Fin 3 → Bool := fun j => match j with | 0 => x | 1 => y | 2 => z
def chk (rs : List Nat) (c a s : Fin 3 → Bool) : Bool := rs.all (okI c a s) && (!rs.isEmpty || full c a s) && (!full c a s || rs.isEmpty)
def chkAll (r : Array Bool → List Nat) : Bool := allB fun c0 => allB fun c1 => allB fun c2 => allB fun a0 => allB fun a1 => allB fun a2 => allB fun s0 => allB fun s1 => allB fun s2 => chk (r (lst (tri c0 c1 c2) (tri a0 a1 a2) (tri s0 s1 s2))) (tri c0 c1 c2) (tri a0 a1 a2) (tri s0 s1 s2)
theorem tri_eta (f : Fin 3 → Bool) : f = tri (f 0) (f 1) (f 2) := by
  funext j
  exact fin3 (p := fun j => f j = tri (f 0) (f 1) (f 2) j) rfl rfl rfl j
theorem chkAll_spec {r : Array Bool → List Nat} (h : chkAll r = true) (c a s : Fin 3 → Bool) : chk (r (lst c a s)) c a s = true := by
  rw [tri_eta c, tri_eta a, tri_eta s]
  exact allB_spec (allB_spec (allB_spec (allB_spec (allB_spec (allB_spec (allB_spec (allB_spec (allB_spec h (c 0)) (c 1)) (c 2)) (a 0)) (a 1)) (a 2)) (s 0)) (s 1)) (s 2)

theorem okI_cases {c a s : Fin 3 → Bool} {i : Nat} (h : okI c a s i = true) : (∃ j : Fin 3, i = 2 * j.val + 1 ∧ c j = false) ∨ (∃ j : Fin 3, i = 6 + j.val ∧ a j = false) ∨ (∃ j : Fin 3, i = 9 + j.val ∧ s j = false ∧ c j = true ∧ a j = true) := by
  simp only [okI, Bool.or_eq_true, Bool.and_eq_true, beq_iff_eq, Bool.not_eq_true'] at h
  rcases h with ((((((((h | h) | h) | h) | h) | h) | h) | h) | h)
  · exact .inl ⟨0, h⟩
  · exact .inl ⟨1, h⟩
  · exact .inl ⟨2, h⟩
  · exact .inr (.inl ⟨0, h⟩)
  · exact .inr (.inl ⟨1, h⟩)
  · exact .inr (.inl ⟨2, h⟩)
  · exact .inr (.inr ⟨0, h.1.1.1, h.1.1.2, h.1.2, h.2⟩)
  · exact .inr (.inr ⟨1, h.1.1.1, h.1.1.2, h.1.2, h.2⟩)
  · exact .inr (.inr ⟨2, h.1.1.1, h.1.1.2, h.1.2, h.2⟩)

/-- What is known on the way. -/
structure Mid (v : World) (a0 : Act) (d b : Fin 3 → Nat) (V : Fin 3 → Array Value) (Z : Array Value) (T : TypeId) (c al s : Fin 3 → Bool) (a : Act) (w : World) : Prop where
  low : NoW v w
  size : a.tmps.size = a0.tmps.size
  defers : a.defers = a0.defers
  keep : ∀ k, (∀ j, k ≠ d j) → (∀ j, k ≠ b j) → a.tmps[k]? = a0.tmps[k]?
  res : ∀ j, c j = true → a.tmps[d j]? = some (.agg (V j))
  imp : ∀ j, s j = true → al j = true
  box : ∃ g : Fin 3 → Nat, (∀ j, al j = true → a.tmps[b j]? = some (.pointer (some ⟨g j, 0, none⟩)) ∧ v.heap.size ≤ g j ∧ w.heap[g j]? = some (.cells (if s j then V j else Z) T (0, 0))) ∧ ∀ i j, i ≠ j → al i = true → al j = true → g i ≠ g j

section
variable {v : World} {a0 : Act} {d b : Fin 3 → Nat} {V : Fin 3 → Array Value} {Z : Array Value} {T : TypeId} {c al s : Fin 3 → Bool} {a : Act} {w : World}
theorem put_same {t : Array Value} {i : Nat} (x : Value) (h : i < t.size) : (t.setIfInBounds i x)[i]? = some x := by simp [h]
theorem put_far {t : Array Value} {i k : Nat} (x : Value) (h : k ≠ i) : (t.setIfInBounds i x)[k]? = t[k]? := by
  rw [Array.getElem?_setIfInBounds, if_neg (fun e => h e.symm)]

theorem Mid.call (m : Mid v a0 d b V Z T c al s a w) (hd : ∀ i j, d i = d j → i = j) (hdb : ∀ i j, d i ≠ b j) (hdz : ∀ j, d j < a0.tmps.size) (j : Fin 3) {w' : World} (hn : NoW w w') :
    Mid v a0 d b V Z T (up c j) al s (a.put (some (d j)) (.agg (V j))) w' := by
  obtain ⟨g, hg, hne⟩ := m.box
  refine ⟨m.low.trans hn (fun _ _ h => h), by simpa [Act.put] using m.size, m.defers, fun k h1 h2 => (put_far _ (h1 j)).trans (m.keep k h1 h2), fun i hi => ?_, m.imp, g, fun i hi => ?_, hne⟩
  · by_cases e : i = j
    · subst e; exact put_same _ (by rw [m.size]; exact hdz i)
    · rw [up_other c e] at hi
      exact (put_far _ (fun h => e (hd i j h))).trans (m.res i hi)
  · obtain ⟨h1, h2, h3⟩ := hg i hi
    exact ⟨(put_far _ (fun h => hdb j i h.symm)).trans h1, h2, (hn.block _ (Array.getElem?_eq_some_iff.1 h3).1 id).trans h3⟩

theorem Mid.make (m : Mid v a0 d b V Z T c al s a w) (hb : ∀ i j, b i = b j → i = j) (hdb : ∀ i j, d i ≠ b j) (hbz : ∀ j, b j < a0.tmps.size) (j : Fin 3) (hj : al j = false) :
    Mid v a0 d b V Z T c (up al j) s (a.put (some (b j)) (.pointer (some ⟨w.heap.size, 0, none⟩))) (w.alloc (.cells Z T)) := by
  obtain ⟨g, hg, hne⟩ := m.box
  have hn : NoW w (w.alloc (.cells Z T)) := (Fp.refl _ _).alloc _
  have hlt : ∀ i, al i = true → g i < w.heap.size := fun i hi => (Array.getElem?_eq_some_iff.1 (hg i hi).2.2).1
  refine ⟨m.low.trans hn (fun _ _ h => h), by simpa [Act.put] using m.size, m.defers, fun k h1 h2 => (put_far _ (h2 j)).trans (m.keep k h1 h2), fun i hi => (put_far _ (hdb i j)).trans (m.res i hi), fun i hi => ?_, fun k => if k = j then w.heap.size else g k, fun i hi => ?_, fun i k hik hi hk => ?_⟩
  · by_cases e : i = j
    · subst e; exact up_self _ _
    · rw [up_other al e]; exact m.imp i hi
  · by_cases e : i = j
    · subst e
      have hs : s i = false := by
        rcases h : s i
        · rfl
        · rw [m.imp i h] at hj; cases hj
      simp only [if_true, hs]
      exact ⟨put_same _ (by rw [m.size]; exact hbz i), m.low.size, heap_alloc_new _ _⟩
    · rw [up_other al e] at hi
      obtain ⟨h1, h2, h3⟩ := hg i hi
      simp only [if_neg e]
      exact ⟨(put_far _ (fun h => e (hb i j h))).trans h1, h2, (hn.block _ (Array.getElem?_eq_some_iff.1 h3).1 id).trans h3⟩
  · by_cases e : i = j
    · have e2 : k ≠ j := fun e2 => hik (e.trans e2.symm)
      rw [up_other al e2] at hk
      simp only [if_pos e, if_neg e2]
      have := hlt k hk; omega
    · rw [up_other al e] at hi
      by_cases e2 : k = j
      · simp only [if_neg e, if_pos e2]
        have := hlt i hi; omega
      · rw [up_other al e2] at hk
        simp only [if_neg e, if_neg e2]
        exact hne i k hik hi hk

theorem Mid.keepIn (m : Mid v a0 d b V Z T c al s a w) (j : Fin 3) (hj : al j = true) {w' : World} (h : ∀ g, a.tmps[b j]? = some (.pointer (some ⟨g, 0, none⟩)) → w'.heap[g]? = some (.cells (V j) T (0, 0)) ∧ Fp (fun k => k = g) w w') :
    Mid v a0 d b V Z T c al (up s j) a w' := by
  obtain ⟨g, hg, hne⟩ := m.box
  obtain ⟨h1, h2, h3⟩ := hg j hj
  obtain ⟨k1, k2⟩ := h _ h1
  refine ⟨m.low.trans k2 (fun i hi e => by have e' : i = g j := e; omega), m.size, m.defers, m.keep, m.res, fun i hi => ?_, g, fun i hi => ?_, hne⟩
  · by_cases e : i = j
    · subst e; exact hj
    · rw [up_other s e] at hi; exact m.imp i hi
  · obtain ⟨q1, q2, q3⟩ := hg i hi
    refine ⟨q1, q2, ?_⟩
    by_cases e : i = j
    · subst e; rw [up_self]; exact k1
    · rw [up_other s e]
      exact (k2.block _ (Array.getElem?_eq_some_iff.1 q3).1 (hne i j e hi hj)).trans q3

theorem act_eq (m : Mid v a0 d b V Z T c al s a w) (hc : ∀ j, c j = true) (ha : ∀ j, al j = true) (hb : ∀ i j, b i = b j → i = j) (hdd : ∀ i j, d i = d j → i = j) (hdz : ∀ j, d j < a0.tmps.size) (hbz : ∀ j, b j < a0.tmps.size) (g : Fin 3 → Nat)
    (r0 : a.tmps[b 0]? = some (.pointer (some ⟨g 0, 0, none⟩))) (r1 : a.tmps[b 1]? = some (.pointer (some ⟨g 1, 0, none⟩))) (r2 : a.tmps[b 2]? = some (.pointer (some ⟨g 2, 0, none⟩))) :
    a = { tmps := (((((a0.tmps.setIfInBounds (d 0) (.agg (V 0))).setIfInBounds (d 1) (.agg (V 1))).setIfInBounds (d 2) (.agg (V 2))).setIfInBounds (b 0) (.pointer (some ⟨g 0, 0, none⟩))).setIfInBounds (b 1) (.pointer (some ⟨g 1, 0, none⟩))).setIfInBounds (b 2) (.pointer (some ⟨g 2, 0, none⟩)), defers := a0.defers } := by
  have e1 := m.defers
  have d0 := m.res 0 (hc 0)
  have d1 := m.res 1 (hc 1)
  have d2 := m.res 2 (hc 2)
  have kp := m.keep
  clear m
  obtain ⟨t, df⟩ := a
  dsimp only at e1 d0 d1 d2 kp r0 r1 r2
  subst e1
  have nd01 : d 0 ≠ d 1 := fun e => absurd (hdd _ _ e) (by decide)
  have nd02 : d 0 ≠ d 2 := fun e => absurd (hdd _ _ e) (by decide)
  have nd12 : d 1 ≠ d 2 := fun e => absurd (hdd _ _ e) (by decide)
  have nb01 : b 0 ≠ b 1 := fun e => absurd (hb _ _ e) (by decide)
  have nb02 : b 0 ≠ b 2 := fun e => absurd (hb _ _ e) (by decide)
  have nb12 : b 1 ≠ b 2 := fun e => absurd (hb _ _ e) (by decide)
  have hx : t = (((((a0.tmps.setIfInBounds (d 0) (.agg (V 0))).setIfInBounds (d 1) (.agg (V 1))).setIfInBounds (d 2) (.agg (V 2))).setIfInBounds (b 0) (.pointer (some ⟨g 0, 0, none⟩))).setIfInBounds (b 1) (.pointer (some ⟨g 1, 0, none⟩))).setIfInBounds (b 2) (.pointer (some ⟨g 2, 0, none⟩)) := by
    apply Array.ext_getElem?
    intro k
    by_cases k2 : k = b 2
    · rw [k2, put_same _ (by simpa using hbz 2)]; exact r2
    rw [put_far _ k2]
    by_cases k1 : k = b 1
    · rw [k1, put_same _ (by simpa using hbz 1)]; exact r1
    rw [put_far _ k1]
    by_cases k0 : k = b 0
    · rw [k0, put_same _ (by simpa using hbz 0)]; exact r0
    rw [put_far _ k0]
    by_cases q2 : k = d 2
    · rw [q2, put_same _ (by simpa using hdz 2)]; exact d2
    rw [put_far _ q2]
    by_cases q1 : k = d 1
    · rw [q1, put_same _ (by simpa using hdz 1)]; exact d1
    rw [put_far _ q1]
    by_cases q0 : k = d 0
    · rw [q0, put_same _ (hdz 0)]; exact d0
    rw [put_far _ q0]
    exact kp k (fin3 q0 q1 q2) (fin3 k0 k1 k2)
  rw [hx]
theorem Mid.done (m : Mid v a0 d b V Z T c al s a w) (hc : ∀ j, c j = true) (ha : ∀ j, al j = true) (hs : ∀ j, s j = true) (hb : ∀ i j, b i = b j → i = j) (hdd : ∀ i j, d i = d j → i = j) (hdz : ∀ j, d j < a0.tmps.size) (hbz : ∀ j, b j < a0.tmps.size) :
    ∃ g0 g1 g2, a = { tmps := (((((a0.tmps.setIfInBounds (d 0) (.agg (V 0))).setIfInBounds (d 1) (.agg (V 1))).setIfInBounds (d 2) (.agg (V 2))).setIfInBounds (b 0) (.pointer (some ⟨g0, 0, none⟩))).setIfInBounds (b 1) (.pointer (some ⟨g1, 0, none⟩))).setIfInBounds (b 2) (.pointer (some ⟨g2, 0, none⟩)), defers := a0.defers } ∧
      v.heap.size ≤ g0 ∧ v.heap.size ≤ g1 ∧ v.heap.size ≤ g2 ∧ g0 ≠ g1 ∧ g0 ≠ g2 ∧ g1 ≠ g2 ∧ w.heap[g0]? = some (.cells (V 0) T (0, 0)) ∧ w.heap[g1]? = some (.cells (V 1) T (0, 0)) ∧ w.heap[g2]? = some (.cells (V 2) T (0, 0)) := by
  obtain ⟨g, hg, hne⟩ := m.box
  have r0 := hg 0 (ha 0)
  have r1 := hg 1 (ha 1)
  have r2 := hg 2 (ha 2)
  rw [hs 0] at r0
  rw [hs 1] at r1
  rw [hs 2] at r2
  refine ⟨g 0, g 1, g 2, ?_, r0.2.1, r1.2.1, r2.2.1, hne 0 1 (by decide) (ha _) (ha _), hne 0 2 (by decide) (ha _) (ha _), hne 1 2 (by decide) (ha _) (ha _), r0.2.2, r1.2.2, r2.2.2⟩
  exact act_eq m hc ha hb hdd hdz hbz g r0.1 r1.1 r2.1
end

/-- The region, from where the three loads were taken. -/
theorem boxes3 {P : Program} {ops : Array Oper} {md : Region.Mode} {Q : Exit → Act → World → Prop} {v w0 : World} {a0 : Act} {d b ld : Fin 3 → Nat} {V : Fin 3 → Array Value} {Z : Array Value} {T : TypeId}
    (hb : ∀ i j, b i = b j → i = j) (hdd : ∀ i j, d i = d j → i = j) (hdb : ∀ i j, d i ≠ b j) (hdz : ∀ j, d j < a0.tmps.size) (hbz : ∀ j, b j < a0.tmps.size)
    (hl : ∀ i j, ld i ≠ d j) (hl2 : ∀ i j, ld i ≠ b j)
    (hR : chkAll (Region.ready md ops) = true) (hv : NoW v w0)
    (hc : ∀ (j : Fin 3) (a : Act) (w : World), a.tmps[ld j]? = a0.tmps[ld j]? → ∃ o f args, ops[2 * j.val + 1]? = some o ∧ o.dst = some (d j) ∧ Region.wanted o (yielded ops a.tmps) = true ∧ (execOp a.eval o).run P w = .ok (.enter f args) w ∧
      (NoW v w → Calls P f args w (Ret1 (.agg (V j)) w)))
    (ha : ∀ (j : Fin 3) (a : Act) (w : World), ∃ o, ops[6 + j.val]? = some o ∧ o.dst = some (b j) ∧ Region.wanted o (yielded ops a.tmps) = true ∧ (execOp a.eval o).run P w = .ok (.value (.pointer (some ⟨w.heap.size, 0, none⟩))) (w.alloc (.cells Z T)))
    (hs : ∀ (j : Fin 3) (a : Act) (w : World) (g : Nat), a.tmps[b j]? = some (.pointer (some ⟨g, 0, none⟩)) → a.tmps[d j]? = some (.agg (V j)) → w.heap[g]? = some (.cells Z T (0, 0)) →
      ∃ o w' u, ops[9 + j.val]? = some o ∧ o.dst = none ∧ Region.wanted o (yielded ops a.tmps) = true ∧ (execOp a.eval o).run P w = .ok u w' ∧ (u = .skip ∨ ∃ x, u = .value x) ∧ w'.heap[g]? = some (.cells (V j) T (0, 0)) ∧ Fp (fun k => k = g) w w')
    (hq : ∀ (g0 g1 g2 : Nat) (w : World), NoW v w → v.heap.size ≤ g0 → v.heap.size ≤ g1 → v.heap.size ≤ g2 → g0 ≠ g1 → g0 ≠ g2 → g1 ≠ g2 → w.heap[g0]? = some (.cells (V 0) T (0, 0)) → w.heap[g1]? = some (.cells (V 1) T (0, 0)) → w.heap[g2]? = some (.cells (V 2) T (0, 0)) →
      Q .normal { tmps := (((((a0.tmps.setIfInBounds (d 0) (.agg (V 0))).setIfInBounds (d 1) (.agg (V 1))).setIfInBounds (d 2) (.agg (V 2))).setIfInBounds (b 0) (.pointer (some ⟨g0, 0, none⟩))).setIfInBounds (b 1) (.pointer (some ⟨g1, 0, none⟩))).setIfInBounds (b 2) (.pointer (some ⟨g2, 0, none⟩)), defers := a0.defers } w) :
    wpAnyH P md ops Q (fun wx => NoW v wx) 9 #[true, false, true, false, true, false, false, false, false, false, false, false] a0 w0 := by
  have hR' := chkAll_spec hR
  clear hR
  have key : ∀ (fuel : Nat) (c al s : Fin 3 → Bool) (a : Act) (w : World), nof c + nof al + nof s ≤ fuel → Mid v a0 d b V Z T c al s a w → wpAnyH P md ops Q (fun wx => NoW v wx) fuel (lst c al s) a w := by
    have fin : ∀ (c al s : Fin 3 → Bool) (a : Act) (w : World), full c al s = true → Mid v a0 d b V Z T c al s a w → Q .normal a w := by
      intro c al s a w hf m
      simp only [full, Bool.and_eq_true] at hf
      obtain ⟨⟨⟨⟨⟨⟨⟨⟨c0, c1⟩, c2⟩, q0⟩, q1⟩, q2⟩, s0⟩, s1⟩, s2⟩ := hf
      obtain ⟨g0, g1, g2, rfl, h⟩ := m.done (fin3 c0 c1 c2) (fin3 q0 q1 q2) (fin3 s0 s1 s2) hb hdd hdz hbz
      exact hq g0 g1 g2 w m.low h.1 h.2.1 h.2.2.1 h.2.2.2.1 h.2.2.2.2.1 h.2.2.2.2.2.1 h.2.2.2.2.2.2.1 h.2.2.2.2.2.2.2.1 h.2.2.2.2.2.2.2.2
    intro fuel
    induction fuel with
    | zero =>
      intro c al s a w hn m
      have hcc := hR' c al s
      have z1 := nof_zero (f := c) (by omega)
      have z2 := nof_zero (f := al) (by omega)
      have z3 := nof_zero (f := s) (by omega)
      have hf : full c al s = true := by simp [full, z1, z2, z3]
      simp only [chk, hf, Bool.and_eq_true, Bool.not_true, Bool.false_or] at hcc
      exact ⟨by simpa using hcc.2, fin _ _ _ _ _ hf m⟩
    | succ fuel ih =>
      intro c al s a w hn m
      have hcc := hR' c al s
      simp only [chk, Bool.and_eq_true, Bool.or_eq_true] at hcc
      obtain ⟨⟨h1, h2⟩, _⟩ := hcc
      refine ⟨fun e => fin _ _ _ _ _ (by rcases h2 with h2 | h2; (rw [e] at h2; simp at h2); exact h2) m, fun i hi => ?_⟩
      rcases okI_cases (List.all_eq_true.1 h1 i hi) with ⟨j, rfl, hj⟩ | ⟨j, rfl, hj⟩ | ⟨j, rfl, hj, hcj, haj⟩
      · obtain ⟨o, f, args, ho, hdst, hw, hrun, hcall⟩ := hc j a w (m.keep _ (hl j) (hl2 j))
        rw [lst_c]
        have hlt := nof_up c j hj
        unfold wpOp
        simp only [ho, hw, if_true]
        refine Or.inl ?_
        unfold Oper.wp
        rw [hrun, Oper.upon_enter]
        refine (hcall m.low).mono ?_
        rintro e w' ⟨rfl, hp⟩
        have m' := m.call hdd hdb hdz j hp
        rw [hdst]
        exact ⟨m'.low, ih _ _ _ _ _ (by omega) m'⟩
      · obtain ⟨o, ho, hdst, hw, hrun⟩ := ha j a w
        rw [lst_a]
        have hlt := nof_up al j hj
        unfold wpOp
        simp only [ho, hw, if_true]
        refine Or.inl ?_
        unfold Oper.wp
        rw [hrun, Oper.upon_value, hdst]
        have m' := m.make hb hdb hbz j hj
        exact ⟨m'.low, ih _ _ _ _ _ (by omega) m'⟩
      · obtain ⟨g, hg, _⟩ := m.box
        obtain ⟨r1, r2, r3⟩ := hg j haj
        rw [hj] at r3
        obtain ⟨o, w', u, ho, hdst, hw, hrun, hu, k1, k2⟩ := hs j a w (g j) r1 (m.res j hcj) r3
        rw [lst_s]
        have hlt := nof_up s j hj
        have m' := m.keepIn j haj (w' := w') (fun g' e => by
          obtain rfl : g' = g j := by rw [r1] at e; simpa using e.symm
          exact ⟨k1, k2⟩)
        have fin2 := And.intro m'.low (ih _ _ _ _ _ (by omega) m')
        unfold wpOp
        simp only [ho, hw, if_true]
        refine Or.inl ?_
        unfold Oper.wp
        rw [hrun]
        rcases hu with rfl | ⟨x, rfl⟩
        · rw [Oper.upon_skip, hdst]; exact fin2
        · rw [Oper.upon_value, hdst]; exact fin2
  refine key 9 (fun _ => false) (fun _ => false) (fun _ => false) a0 w0 (by simp [nof]) ⟨hv, rfl, rfl, fun _ _ _ => rfl, fun _ h => (by cases h), fun _ h => (by cases h), fun _ => 0, fun _ h => (by cases h), fun _ _ _ h => (by cases h)⟩
end Go.Proofs.YtdmbjndhdldggaaDoor

namespace Go.Proofs.YtdmbjndhdldggaaDoor
set_option linter.unusedVariables false
set_option linter.unusedSimpArgs false
open Go.RowKit Go.Lib Go.Sort

theorem chk18 (b : Nat) (w : World) (ht : Tb w) : Calls Tryd.prog 19 #[.agg #[.int .u8 17, .int .u32 167772161, .int .u16 4000, .int .u32 134744072, .int .u16 53, .int .u8 17, .int .u32 134744072, .int .u16 53, .int .u32 151587081, .int .u16 1006, .int .i64 1, .int .i64 120, (.slice (some ⟨b, 0, none⟩) 1 1)]] w (Ret1 (.int .i64 0) w) := by
  have h := check_ok 17 167772161 4000 134744072 53 17 134744072 53 151587081 1006 1 120 (some ⟨b, 0, none⟩) 1 1 (by decide) (by decide) w ht
  rw [if_pos (by decide +kernel)] at h
  exact h
theorem touch18 (b : Nat) (w : World) (ht : Tb w) (hh : Holds w b 0 1 [.int .u32 151587081, .int .u16 1006, .int .u32 167772161, .int .u16 4000]) :
    Calls Tryd.prog 21 #[.agg #[.int .u8 17, .int .u32 167772161, .int .u16 4000, .int .u32 134744072, .int .u16 53, .int .u8 17, .int .u32 134744072, .int .u16 53, .int .u32 151587081, .int .u16 1006, .int .i64 1, .int .i64 120, (.slice (some ⟨b, 0, none⟩) 1 1)], .bool true, .int .u8 0, .int .i64 5] w fun e w' => ∃ b' c', e = .returned (.tuple #[.agg #[.int .u8 17, .int .u32 167772161, .int .u16 4000, .int .u32 134744072, .int .u16 53, .int .u8 17, .int .u32 134744072, .int .u16 53, .int .u32 151587081, .int .u16 1006, .int .i64 2, .int .i64 305, (.slice (some ⟨b', 0, none⟩) 1 c')], .int .i64 0]) ∧ 1 ≤ c' ∧ w.heap.size ≤ b' ∧ Holds w' b' 0 1 [.int .u32 151587081, .int .u16 1006, .int .u32 167772161, .int .u16 4000] ∧ NoW w w' := by
  have k2 := fun W (hW : Tb W) => next_ok 1 (by decide) (by decide) 1 true 0 W hW
  have k3 := fun W (hW : Tb W) => timeout_ok 1 (by decide) 2 W hW
  rw [show (if 0 < toN 1 1 then (if true = true then 2 else (1 : Int)) else 0) = 2 by decide +kernel] at k2
  rw [show toN 1 2 = 300 by decide +kernel] at k3
  exact touch_core 17 167772161 4000 134744072 53 17 134744072 53 151587081 1006 1 120 b 0 1 1 [.int .u32 151587081, .int .u16 1006, .int .u32 167772161, .int .u16 4000] (by decide) true 0 5 1 2 300 w ht hh (by decide) (by decide) (by decide) (fun W hW => chk18 b W hW) (fun W => flow_ok 17 W) k2 k3
theorem entT18 : entT 17 167772161 4000 134744072 53 17 134744072 53 151587081 1006 1 120 (fun _ => 151587081) (fun _ => 1006) (fun _ => 167772161) (fun _ => 4000) 1 = [117, 100, 112, 32, 49, 48, 46, 48, 46, 48, 46, 49, 58, 52, 48, 48, 48, 32, 56, 46, 56, 46, 56, 46, 56, 58, 53, 51, 32, 124, 32, 117, 100, 112, 32, 56, 46, 56, 46, 56, 46, 56, 58, 53, 51, 32, 57, 46, 57, 46, 57, 46, 57, 58, 49, 48, 48, 54, 32, 49, 32, 49, 50, 48, 32, 57, 46, 57, 46, 57, 46, 57, 58, 49, 48, 48, 54, 61, 49, 48, 46, 48, 46, 48, 46, 49, 58, 52, 48, 48, 48] := by decide +kernel
theorem text18 (b : Nat) (w : World) (ht : Tb w) (hh : Holds w b 0 1 [.int .u32 151587081, .int .u16 1006, .int .u32 167772161, .int .u16 4000]) : Calls Tryd.prog 37 #[.agg #[.int .u8 17, .int .u32 167772161, .int .u16 4000, .int .u32 134744072, .int .u16 53, .int .u8 17, .int .u32 134744072, .int .u16 53, .int .u32 151587081, .int .u16 1006, .int .i64 1, .int .i64 120, (.slice (some ⟨b, 0, none⟩) 1 1)]] w (Ret1 (str [117, 100, 112, 32, 49, 48, 46, 48, 46, 48, 46, 49, 58, 52, 48, 48, 48, 32, 56, 46, 56, 46, 56, 46, 56, 58, 53, 51, 32, 124, 32, 117, 100, 112, 32, 56, 46, 56, 46, 56, 46, 56, 58, 53, 51, 32, 57, 46, 57, 46, 57, 46, 57, 58, 49, 48, 48, 54, 32, 49, 32, 49, 50, 48, 32, 57, 46, 57, 46, 57, 46, 57, 58, 49, 48, 48, 54, 61, 49, 48, 46, 48, 46, 48, 46, 49, 58, 52, 48, 48, 48]) w) := by
  have h := ent_text 17 167772161 4000 134744072 53 17 134744072 53 151587081 1006 1 120 (fun _ => 151587081) (fun _ => 1006) (fun _ => 167772161) (fun _ => 4000) b 0 1 1 [.int .u32 151587081, .int .u16 1006, .int .u32 167772161, .int .u16 4000] (by decide) (by decide) (by decide) (by decide) (by decide) (by decide) (by decide) (by decide) (by decide) (by decide) (by decide) (by decide) (by decide) (by decide +kernel) (by decide +kernel)
    (fun i hi => by obtain rfl : i = 0 := (by omega); exact ⟨⟨rfl, rfl, rfl, rfl⟩, by decide, by decide, by decide, by decide⟩) w ht hh (fun W hW => chk18 b W hW)
  rw [entT18] at h
  exact h
end Go.Proofs.YtdmbjndhdldggaaDoor
