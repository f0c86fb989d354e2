/- Texts of this proof, merged: Awd Awe. -/
import Derived.Test.YtcimbbllefkdlaaGreatDoorMac
import Derived.Laws.CopyRow
import Derived.Laws.CopyOwn
import Derived.Laws.BitsAllLaws
import Derived.Test.YtcimbbllefkdlaaGreatDoorMad
import Derived.Test.YtcimbbllefkdlaaGreatDoorMaa
import Derived.Test.YtcimbbllefkdlaaGreatDoorMab
namespace Go.Proofs.YtcimbbllefkdlaaGreatDoor
set_option linter.unusedVariables false
set_option linter.unusedSimpArgs false
open Go.RowKit Go.Lib
theorem sl_from (W : World) (g m r : Nat) (hr : 0 < r) : (Instr.sliceAt 172 (.slice (some ⟨g, 0, none⟩) (m + r) (m + r)) (some (.int .i64 m)) none none).run Tryz.prog W = .ok (.slice (some ⟨g, m, none⟩) r r) W := by
  have h1 : (m : Int) ≤ (m : Int) + (r : Int) := by omega
  have h2 : ¬ (m + r = m) := by omega
  go_simp
  intro h; omega
theorem sl_to (W : World) (g m k : Nat) (hr : m ≤ k) (hm : 0 < m) : (Instr.sliceAt 172 (.slice (some ⟨g, 0, none⟩) k k) none (some (.int .i64 m)) none).run Tryz.prog W = .ok (.slice (some ⟨g, 0, none⟩) m k) W := by
  have h1 : (m : Int) ≤ (k : Int) := by omega
  go_simp
theorem mul1_ok (k : Nat) (hk : k < 65536) (w : World) : Calls Tryz.prog 95 #[.int .u64 1, .int .u64 k] w fun e w' => e = .returned (.tuple #[.int .u64 0, .int .u64 k]) ∧ w' = w := by
  have b1 : bits .and .u64 1 4294967295 = 1 := by kernel_rfl
  have b0 : bits .and .u64 0 4294967295 = 0 := by kernel_rfl
  have bk : bits .and .u64 (k : Int) 4294967295 = (k : Int) := by
    have := u64_and_nat k 4294967295 (by omega) (by omega)
    rw [show (4294967295 : Nat) = 2 ^ 32 - 1 from rfl, Nat.and_two_pow_sub_one_eq_mod, Nat.mod_eq_of_lt (by omega)] at this
    exact this
  have d1 : (k : Int) / 4294967296 = 0 := by omega
  have w1 : IntKind.u64.wrap (k : Int) = (k : Int) := IntWalk.u64_in _ (by omega)
  go_enter Tryz.func95, Tryz.ntmps95
  go_wp2
  go_ret2
  exact ⟨rfl, rfl⟩
theorem intI : ∃ i, Tryz.prog.info? 3 = some i ∧ i.zero = some (.int .i64 0) ∧ i.size = 1 ∧ i.bytes ≤ 64 := by
  have h : ((Tryz.prog.info? 3).map fun i => (i.zero, i.size, decide (i.bytes ≤ 64))) = some (some (.int .i64 0), 1, true) := by kernel_rfl
  rcases hi : Tryz.prog.info? 3 with _ | i
  · simp [hi] at h
  · simp [hi] at h
    exact ⟨i, rfl, h.1, h.2.1, h.2.2⟩
theorem made1 (z : Value) (n : Nat) : madeCells #[z] n = (List.replicate n z).toArray := by
  apply Array.ext
  · simp [madeCells]
  · intro i h1 h2
    simp [madeCells, Nat.mod_one]
theorem run_mkI (n : Nat) (hn : n ≤ 64) (W : World) : (Instr.makeSlice 172 (.int .i64 n) (.int .i64 n)).run Tryz.prog W = .ok (.slice (some ⟨W.heap.size, 0, none⟩) n n) (W.alloc (.cells (List.replicate n (Value.int .i64 0)).toArray 3)) := by
  obtain ⟨i, hi, hz, hs, hb⟩ := intI
  have hb2 : (i.bytes : Int) * (n : Int) ≤ 281474976710656 := by
    have h := Nat.mul_le_mul hb hn
    have h' : ((i.bytes * n : Nat) : Int) ≤ 4096 := by omega
    rw [Int.natCast_mul] at h'; omega
  have := run_makeSlice W 172 3 i (.int .i64 0) Tryz.underlying172 hi hz .i64 .i64 n n (by omega) (by omega) (by rw [hs]; omega) hb2 (by omega)
  rw [hs] at this
  simpa [Value.cells, made1] using this
theorem op_copy_splice {P : Program} {o : Oper} {a : Act} {w : World} {K : Act → World → Prop} {Q : Exit → Act → World → Prop} (d s : Operand) (dT sT : TypeId)
    (ho : o.op = .call { callee := .builtin .copy, args := #[d, s], argTypes := #[dT, sT] }) (elem : TypeId) (hu : P.underlying dT = some (.slice elem)) (hsz : (P.info? elem).map (·.size) = some 1)
    (g off dLen dCap : Nat) (ad : Addr) (sLen sCap : Nat) (hd : a.eval d = .slice (some ⟨g, off, none⟩) dLen dCap) (hs : a.eval s = .slice (some ad) sLen sCap)
    (cur : List Value) (t : TypeId) (hg : w.heap[g]? = some (.cells cur.toArray t (0, 0))) (cs : List Value) (hn : cs.length = Nat.min sLen dLen)
    (hsrc : ∀ j v, cs[j]? = some v → w.cell? (ad.add j) = some v) (hfit : off + cs.length ≤ cur.length) (h1 : ∀ v ∈ cs, v.oneCell' = true)
    (h : ∀ w', Hid (w'.heap[g]? = some (.cells (cur.take off ++ (cs ++ cur.drop (off + cs.length))).toArray t (0, 0))) → Fp (fun b => b = g) w w' → K (a.put o.dst (.int .i64 cs.length)) w') : Oper.wp P o a w K Q := by
  have hrun := run_copy_row (P := P) w dT sT o.type elem g off dLen dCap ad sLen sCap cur.toArray t cs hu hsz hg hn hsrc (by simpa using hfit) h1
  unfold Oper.wp
  simp [execOp, ho, resolve, invoke, builtin, hd, hs, hrun, Result.andThen]
  refine h _ (Lib.hid ?_) ⟨rfl, rfl, rfl, by simp [World.setRow], fun k hk hne => setRow_other w g k _ hne⟩
  simp [World.setRow, Array.getElem?_modify, hg]
theorem rep_splice (x : Value) (m q r : Nat) : (List.replicate m x ++ List.replicate (q + r) (Value.int .i64 0)).take m ++ (List.replicate q x ++ (List.replicate m x ++ List.replicate (q + r) (Value.int .i64 0)).drop (m + q)) = List.replicate (m + q) x ++ List.replicate r (Value.int .i64 0) := by
  rw [List.take_left' (by simp), ← List.drop_drop, List.drop_left' (by simp), List.drop_replicate, ← List.append_assoc, List.replicate_append_replicate, Nat.add_sub_cancel_left]
set_option maxHeartbeats 4000000 in
set_option maxRecDepth 100000 in
/-- slices.Repeat of one number. -/
theorem repeat_ok (g k : Nat) (x : Int) (h1 : 1 ≤ k) (hk : k ≤ 64) (w : World) (hc : w.cell? ⟨g, 0, none⟩ = some (.int .i64 x)) (hfz : w.frozen? ⟨g, 0, none⟩ = false) :
    Calls Tryz.prog 82 #[.slice (some ⟨g, 0, none⟩) 1 1, .int .i64 k] w fun e w' => ∃ g2, e = .returned (.slice (some ⟨g2, 0, none⟩) k k) ∧ w'.heap[g2]? = some (.cells (List.replicate k (Value.int .i64 x)).toArray 3 (0, 0)) ∧ w.heap.size ≤ g2 ∧ NoW w w' := by
  have isz : (Tryz.prog.info? 3).map (·.size) = some 1 := by kernel_rfl
  have s0 : IntKind.u64.wrap (k : Int) = (k : Int) := IntWalk.u64_in _ (by omega)
  have s1 : IntKind.i64.wrap (k : Int) = (k : Int) := IntWalk.i64_in _ (by omega)
  have c1 : ¬ (k : Int) < 0 := by omega
  have c2 : ¬ (9223372036854775807 : Int) < (k : Int) := by omega
  have c3 : ¬ 9223372036854775807 < k := by omega
  have KM := Lib.hid (fun W => mul1_ok k (by omega) W)
  have km := run_mkI k hk
  have lg := cell_lt hc
  go_enter Tryz.func82, Tryz.ntmps82
  go_wp2_with fail
  refine (KM.out _).mono ?_
  rintro e z1 ⟨rfl, hz⟩
  rw [hz]
  clear hz
  go_upto_region 7 with fail
  refine wp_gen (fun x1 hW => ?_)
  have hp := new_now hW
  have hB := new_blk hW
  clear hW km KM
  obtain ⟨g2, hg2⟩ : ∃ g2, g2 = w.heap.size := ⟨_, rfl⟩
  rw [← hg2] at hB ⊢
  have HG := Lib.hid (Nat.le_of_eq hg2.symm)
  have hne : ¬ g = g2 := by have h1 : g < w.heap.size := lg; omega
  have HC := Lib.hid ((hp.cell (p := ⟨g, 0, none⟩) lg id).trans hc)
  have HN := Lib.hid hp
  clear hg2 hp hc
  go_wp2_with (show wpList _ _ _ ({ dst := some 33, op := _, type := _, pos := _, after := _, guard := _ } :: _) _ _; go_must (refine wpList_copy_splice rfl _ _ 172 172 rfl 3 Tryz.underlying172 isz _ _ k k 1 1 rfl rfl g2 0 (List.replicate k (Value.int .i64 0)) 3 hB.out [.int .i64 x] (show 1 = Nat.min 1 k from (Nat.min_eq_left h1).symm) (fun _ => ⟨rfl, _, rfl, fun j v hj => by rcases j with _ | j <;> simp at hj; subst hj; rw [add_eq0]; exact HC.out⟩) (by simp; omega) (by simp [Value.oneCell']) w.heap.size w HN.out.below HG.out ?_))
  intro x2 hB2 hbel
  replace HN := Lib.hid (Fp.of_below hbel)
  clear hB hbel HC hfz
  have hB : Hid (x2.heap[g2]? = some (.cells (List.replicate 1 (Value.int .i64 x) ++ List.replicate (k - 1) (Value.int .i64 0)).toArray 3 (0, 0))) := by
    have e : splice (List.replicate k (Value.int .i64 0)) 0 [.int .i64 x] = List.replicate 1 (Value.int .i64 x) ++ List.replicate (k - 1) (Value.int .i64 0) := by
      obtain ⟨r, rfl⟩ : ∃ r, k = 1 + r := ⟨k - 1, by omega⟩
      simp [splice]
    rw [← e]; exact hB2
  clear hB2
  go_wp2_with fail
  go_loopg [8] k (fun gg mv wx => ∃ (m : Nat), 1 ≤ m ∧ m ≤ k ∧ gg = k + 1 - m ∧ mv = .int .i64 (m : Int) ∧ wx.heap[g2]? = some (.cells (List.replicate m (Value.int .i64 x) ++ List.replicate (k - m) (Value.int .i64 0)).toArray 3 (0, 0)) ∧ NoW w wx)
  case atStart => exact ⟨1, by omega, by omega, by omega, rfl, hB.out, HN.out⟩
  case round =>
    clear hB HN
    obtain ⟨m, hm1, hm, hgg, rfl, hb, hN⟩ := hrel
    have Hg := Lib.hid hgg
    have B_g := Lib.hid hb
    have HN := Lib.hid hN
    clear hgg hb hN
    by_cases hlt : m < k
    · have ck : (m : Int) < (k : Int) := by omega
      obtain ⟨r, hr⟩ : ∃ r, k = m + r := ⟨k - m, by omega⟩
      have hr0 : 0 < r := by omega
      have k1 := fun W => sl_from W g2 m r hr0
      rw [← hr] at k1
      have k2 := fun W => sl_to W g2 m k hm (by omega)
      have Hr := Lib.hid hr
      clear hr
      have s9 : IntKind.i64.wrap ((m : Int) + ((Nat.min m r : Nat) : Int)) = ((m + Nat.min m r : Nat) : Int) := by
        have : Nat.min m r ≤ r := Nat.min_le_right _ _
        have h9 := Hr.out
        rw [IntWalk.i64_in _ (by omega)]; rfl
      go_upto_region 9 with fail
      refine wp_region_held_drew (S := fun wx => Fp (fun b => b = g2) wr wx) (by kernel_rfl) (Fp.drew (Fp.refl _ _)) (fun hHeld => ?_)
      refine any_eq hHeld (fun y1 hW hHeld => ?_)
      replace B_g := hid_blk B_g (noW_drew hW)
      clear hW
      (refine tk 0 (some 38) ?_ ?_ ?_; rotate_left; (focus (intro wS hSw; go_simp; try with_reducible rfl)); (try simp only [Act.put, List.setIfInBounds_toArray, List.set_cons_zero, List.set_cons_succ]))
      (refine tk 1 (some 39) ?_ ?_ ?_; rotate_left; (focus (intro wS hSw; go_simp; try with_reducible rfl)); (try simp only [Act.put, List.setIfInBounds_toArray, List.set_cons_zero, List.set_cons_succ]))
      (refine tk 2 (some 40) ?_ ?_ ?_; rotate_left; (focus (intro wS hSw; go_simp; try with_reducible rfl)); (try simp only [Act.put, List.setIfInBounds_toArray, List.set_cons_zero, List.set_cons_succ]))
      (refine tk 3 (some 41) ?_ ?_ ?_; rotate_left; (focus (intro wS hSw; go_simp; try with_reducible rfl)); (try simp only [Act.put, List.setIfInBounds_toArray, List.set_cons_zero, List.set_cons_succ]))
      (refine tk 4 (some 42) ?_ ?_ ?_; rotate_left; (focus (intro wS hSw; go_simp; try with_reducible rfl)); (try simp only [Act.put, List.setIfInBounds_toArray, List.set_cons_zero, List.set_cons_succ]))
      (refine tk 5 (some 43) ?_ ?_ ?_; rotate_left; (focus (intro wS hSw; go_simp; try with_reducible rfl)); (try simp only [Act.put, List.setIfInBounds_toArray, List.set_cons_zero, List.set_cons_succ]))
      (refine tk 6 (some 44) ?_ ?_ ?_; rotate_left; (focus (intro wS hSw; go_simp; try with_reducible rfl)); (try simp only [Act.put, List.setIfInBounds_toArray, List.set_cons_zero, List.set_cons_succ]))
      refine wpAnyH_ready (rs := [7]) (by kernel_rfl) (by simp) ?_
      refine AllReadyH.cons rfl (fun K hK => ?_) AllReadyH.nil
      rw [if_pos (by kernel_rfl)]
      have hln : (List.replicate (Nat.min m r) (Value.int .i64 x)).length = Nat.min m r := List.length_replicate ..
      refine op_copy_splice _ _ 172 172 rfl 3 Tryz.underlying172 isz g2 m r r ⟨g2, 0, none⟩ m k rfl rfl (List.replicate m (Value.int .i64 x) ++ List.replicate (k - m) (Value.int .i64 0)) 3 B_g.out (List.replicate (Nat.min m r) (Value.int .i64 x)) hln ?_ ?_ (fun v hv => by rw [(List.mem_replicate.1 hv).2]; rfl) ?_
      · intro j v hj
        rw [add_eq0]
        have hj1 : j < Nat.min m r := by rw [← hln]; exact (List.getElem?_eq_some_iff.1 hj).1
        have hj2 : j < m := Nat.lt_of_lt_of_le hj1 (Nat.min_le_left _ _)
        have hv : v = .int .i64 x := by rw [List.getElem?_replicate, if_pos hj1] at hj; cases hj; rfl
        subst hv
        exact cell_at B_g j (by rw [List.getElem?_append_left (by simpa using hj2), List.getElem?_replicate, if_pos hj2])
      · rw [hln]; have h1 : Nat.min m r ≤ r := Nat.min_le_right _ _; have h2 := Hr.out; simp; omega
      intro y2 hb2 hf2
      change K (Act.put _ (some 45) _) _
      rw [hln] at hb2
      obtain ⟨q, hq⟩ : ∃ q, q = Nat.min m r := ⟨_, rfl⟩
      rw [hln]
      rw [← hq] at hb2 s9 ⊢
      have hq1 : 1 ≤ q := by rw [hq]; exact Nat.le_min.2 ⟨hm1, hr0⟩
      have hq2 : q ≤ r := by rw [hq]; exact Nat.min_le_right _ _
      clear hln hq k1 k2
      have hn := Fp.trans hHeld hf2 (fun _ _ e => e)
      have B_h : Hid (y2.heap[g2]? = some (.cells (List.replicate (m + q) (Value.int .i64 x) ++ List.replicate (k - (m + q)) (Value.int .i64 0)).toArray 3 (0, 0))) := by
        have h9 := Hr.out
        obtain ⟨r2, rfl⟩ : ∃ r2, r = q + r2 := ⟨r - q, by omega⟩
        have e := rep_splice (.int .i64 x) m q r2
        have e1 : k - m = q + r2 := by omega
        have e2 : k - (m + q) = r2 := by omega
        rw [e1] at hb2
        rw [e] at hb2
        rw [e2]; exact hb2
      refine k_now hK hn ?_
      clear hK K hHeld hf2 hb2 B_g
      have hHeld := hn
      clear hn
      try simp only [Act.put, List.setIfInBounds_toArray, List.set_cons_zero, List.set_cons_succ]
      (refine tk 8 (some 46) ?_ ?_ ?_; rotate_left; (focus (intro wS hSw; go_simp; try with_reducible rfl)); (try simp only [Act.put, List.setIfInBounds_toArray, List.set_cons_zero, List.set_cons_succ]))
      (refine tk 9 (some 8) ?_ ?_ ?_; rotate_left; (focus (intro wS hSw; go_simp; try with_reducible rfl)); (try simp only [Act.put, List.setIfInBounds_toArray, List.set_cons_zero, List.set_cons_succ]))
      refine wpAnyH_done (by kernel_rfl) ?_ _
      have HN2 := Lib.hid (HN.out.trans hHeld (fun i hi e => by have h1 : i = g2 := e; have h2 := HG.out; omega))
      clear hHeld
      go_wp2_with fail
      have h9 := Hr.out
      go_roundg (k + 1 - (m + q))
      case measure => have := Hg.out; omega
      case rel => exact ⟨m + q, by omega, by omega, by omega, by first | rfl | go_num, B_h.out, HN2.out⟩
    · obtain rfl : m = k := by omega
      go_wp2_with fail
      go_ret
      refine ⟨g2, rfl, ?_, HG.out, HN.out⟩
      have h := B_g.out
      simpa using h
end Go.Proofs.YtcimbbllefkdlaaGreatDoor

namespace Go.Proofs.YtcimbbllefkdlaaGreatDoor
set_option linter.unusedVariables false
set_option linter.unusedSimpArgs false
open Go.RowKit Go.Lib
set_option maxHeartbeats 4000000 in
set_option maxRecDepth 100000 in
theorem epochs_new (k : Nat) (h1 : 1 ≤ k) (hk : k ≤ 64) (w : World) : Calls Tryz.prog 55 #[.int .i64 k] w fun e w' => ∃ g g2, e = .returned (.tuple #[.pointer (some ⟨g, 0, none⟩), .int .i64 0]) ∧ w'.heap[g]? = some (.cells #[.int .i64 0, .slice (some ⟨g2, 0, none⟩) k k, .slice none 0 0] 176 (0, 0)) ∧ w'.heap[g2]? = some (.cells (List.replicate k (Value.int .i64 (-1))).toArray 3 (0, 0)) ∧ w.heap.size ≤ g ∧ w.heap.size ≤ g2 ∧ NoW w w' := by
  have c1 : ¬ (k : Int) < 1 := by omega
  have c2 : ¬ (64 : Int) < (k : Int) := by omega
  have c3 : ¬ 64 < k := by omega
  have c4 : ¬ k < 1 := by omega
  have c5 : ¬ k = 0 := by omega
  have KR := Lib.hid (fun g W a b => repeat_ok g k (-1) h1 hk W a b)
  go_enter Tryz.func55, Tryz.ntmps55
  go_wp2_with fail
  refine (show Calls _ _ _ _ _ from KR.out _ _ (by simp) (by simp)).mono ?_
  rintro e x1 ⟨g2, rfl, hB, hge, hp⟩
  have B2 := Lib.hid hB
  have HN := Lib.hid (((Fp.refl (fun _ => False) w).alloc _).trans hp (fun _ _ h => h))
  have HG := Lib.hid (show w.heap.size ≤ g2 by simp at hge; omega)
  clear hB hge hp
  go_wp2_with fail
  refine bodyPost_ret (v := .tuple #[.pointer (some ⟨x1.heap.size, 0, none⟩), .int .i64 0]) (by simp only [results, Tryz.results55]; go_simp) rfl ⟨_, g2, rfl, heap_alloc_new _ _, (Below.heap_alloc _ _ _ (hid_lt B2)).trans B2.out, HN.out.size, HG.out, HN.out.alloc _⟩
theorem tmrI : ∃ i, Tryz.prog.info? 272 = some i ∧ i.zero = some (.slice none 0 0) ∧ i.size = 1 ∧ i.bytes ≤ 64 := by
  have h : ((Tryz.prog.info? 272).map fun i => (i.zero, i.size, decide (i.bytes ≤ 64))) = some (some (.slice none 0 0), 1, true) := by kernel_rfl
  rcases hi : Tryz.prog.info? 272 with _ | i
  · simp [hi] at h
  · simp [hi] at h
    exact ⟨i, rfl, h.1, h.2.1, h.2.2⟩
theorem run_mkT (n : Nat) (hn : n ≤ 64) (W : World) : (Instr.makeSlice 177 (.int .i64 n) (.int .i64 n)).run Tryz.prog W = .ok (.slice (some ⟨W.heap.size, 0, none⟩) n n) (W.alloc (.cells (List.replicate n (.slice none 0 0)).toArray 272)) := by
  obtain ⟨i, hi, hz, hs, hb⟩ := tmrI
  have hb2 : (i.bytes : Int) * (n : Int) ≤ 281474976710656 := by
    have h := Nat.mul_le_mul hb hn
    have h' : ((i.bytes * n : Nat) : Int) ≤ 4096 := by omega
    rw [Int.natCast_mul] at h'; omega
  have := run_makeSlice W 177 272 i (.slice none 0 0) Tryz.underlying177 hi hz .i64 .i64 n n (by omega) (by omega) (by rw [hs]; omega) hb2 (by omega)
  rw [hs] at this
  simpa [Value.cells, made1] using this
set_option maxHeartbeats 4000000 in
set_option maxRecDepth 100000 in
theorem wheels_new (n : Nat) (h1 : 1 ≤ n) (hn : n ≤ 64) (w : World) : Calls Tryz.prog 56 #[.int .i64 n] w fun e w' => ∃ g gp gm, e = .returned (.tuple #[.pointer (some ⟨g, 0, none⟩), .int .i64 0]) ∧ w'.heap[g]? = some (.cells #[.slice (some ⟨gp, 0, none⟩) n n, .map (some gm), .int .i64 0] 180 (0, 0)) ∧ w'.heap[gp]? = some (.cells (Array.replicate n (Value.slice none 0 0)) 272 (0, 0)) ∧ w'.heap[gm]? = some (.map #[] 0) ∧ w.heap.size ≤ g ∧ w.heap.size ≤ gp ∧ w.heap.size ≤ gm ∧ NoW w w' := by
  have c1 : ¬ (n : Int) < 1 := by omega
  have c2 : ¬ (64 : Int) < (n : Int) := by omega
  have c3 : ¬ 64 < n := by omega
  have c4 : ¬ n < 1 := by omega
  have c5 : ¬ n = 0 := by omega
  have hmm := @run_makeMap Tryz.prog
  have km := run_mkT n hn
  go_enter Tryz.func56, Tryz.ntmps56
  go_wp2_with fail
  refine post_gen (fun W hW => ?_)
  obtain ⟨y1, hy1⟩ : ∃ y, y = w.alloc (.cells (Array.replicate n (Value.slice none 0 0)) 272) := ⟨_, rfl⟩
  obtain ⟨y2, hy2⟩ : ∃ y, y = y1.alloc (.map #[] 0) := ⟨_, rfl⟩
  rw [← hy1, ← hy2] at hW
  have e1 : y1.heap.size = w.heap.size + 1 := by rw [hy1]; simp
  have e2 : y2.heap.size = w.heap.size + 1 + 1 := by rw [hy2]; simp [e1]
  have q1 := new_blk hy1
  have q2 := new_blk hy2
  have q3 := new_blk hW
  have f1 := new_now hy1
  have f2 := new_now hy2
  have f3 := new_now hW
  rw [e1] at q2
  rw [e2] at q3
  refine bodyPost_ret (v := .tuple #[.pointer (some ⟨w.heap.size + 1 + 1, 0, none⟩), .int .i64 0]) (by simp only [results, Tryz.results56]; go_simp) rfl ⟨_, rfl, _, _, q3.out, (hid_blk (hid_blk q1 f2) f3).out, (hid_blk q2 f3).out, by omega, by omega, by omega, (f1.trans f2 (fun _ _ h => h)).trans f3 (fun _ _ h => h)⟩
set_option maxHeartbeats 4000000 in
set_option maxRecDepth 100000 in
theorem first0_ok (g : Nat) (w : World) (B_g : Hid (w.heap[g]? = some (.cells #[.int .i64 0, .int .i64 0, .int .i64 0, .int .i64 0, .int .i64 0] 88 (0, 0)))) : Calls Tryz.prog 57 #[.slice (some ⟨g, 0, none⟩) 5 5] w (Ret1 (.int .i64 0) w) := by
  go_enter Tryz.func57, Tryz.ntmps57
  have HN := Lib.hid (Fp.refl (fun _ => False) w)
  go_wp2_with fail
  go_loopg [7, 4] 6 (fun gg kv ev wx => ∃ (k : Nat), k ≤ 5 ∧ gg = 6 - k ∧ kv = .int .i64 (k : Int) ∧ wx = w)
  case atStart => exact ⟨0, by omega, by omega, rfl, rfl⟩
  case round =>
    obtain ⟨k, hk, hg, rfl, hw⟩ := hrel
    subst hw
    have Hg := Lib.hid hg
    clear hg
    by_cases hlt : k < 5
    · have ck : (k : Int) < 5 := by omega
      have cg : wr.cell? ⟨g, k, none⟩ = some (.int .i64 0) := cell_at B_g k (by rcases k with _ | _ | _ | _ | _ | k <;> first | rfl | omega)
      have lg := hid_lt B_g
      go_wp2_with fail
      go_roundg (5 - k)
      case measure => have := Hg.out; omega
      case rel => exact ⟨k + 1, by omega, by omega, by go_num, rfl⟩
    · obtain rfl : k = 5 := by omega
      go_wp2_with fail
      go_ret
      exact ⟨rfl, Fp.refl _ _⟩
end Go.Proofs.YtcimbbllefkdlaaGreatDoor
