/- Texts of this proof, merged: Awd Awe Awf. -/
import Derived.Test.YthmokdfigjffjaaGreatDoorMat
import Derived.Laws.CopyRow
import Derived.Laws.CopyOwn
import Derived.Laws.BitsAllLaws
import Derived.Test.YthmokdfigjffjaaGreatDoorMau
namespace Go.Proofs.YthmokdfigjffjaaGreatDoor
set_option linter.unusedVariables false
set_option linter.unusedSimpArgs false
open Go.RowKit Go.Lib
theorem sl_from (W : World) (g m r : Nat) (hr : 0 < r) : (Instr.sliceAt 75 (.slice (some ⟨g, 0, none⟩) (m + r) (m + r)) (some (.int .i64 m)) none none).run Tryz.prog W = .ok (.slice (some ⟨g, m, none⟩) r r) W := by
  have h1 : (m : Int) ≤ (m : Int) + (r : Int) := by omega
  have h2 : ¬ (m + r = m) := by omega
  go_simp
  intro h; omega
theorem sl_to (W : World) (g m k : Nat) (hr : m ≤ k) (hm : 0 < m) : (Instr.sliceAt 75 (.slice (some ⟨g, 0, none⟩) k k) none (some (.int .i64 m)) none).run Tryz.prog W = .ok (.slice (some ⟨g, 0, none⟩) m k) W := by
  have h1 : (m : Int) ≤ (k : Int) := by omega
  go_simp
theorem mul1_ok (k : Nat) (hk : k < 65536) (w : World) : Calls Tryz.prog 144 #[.int .u64 1, .int .u64 k] w fun e w' => e = .returned (.tuple #[.int .u64 0, .int .u64 k]) ∧ w' = w := by
  have b1 : bits .and .u64 1 4294967295 = 1 := by kernel_rfl
  have b0 : bits .and .u64 0 4294967295 = 0 := by kernel_rfl
  have bk : bits .and .u64 (k : Int) 4294967295 = (k : Int) := by
    have := u64_and_nat k 4294967295 (by omega) (by omega)
    rw [show (4294967295 : Nat) = 2 ^ 32 - 1 from rfl, Nat.and_two_pow_sub_one_eq_mod, Nat.mod_eq_of_lt (by omega)] at this
    exact this
  have d1 : (k : Int) / 4294967296 = 0 := by omega
  have w1 : IntKind.u64.wrap (k : Int) = (k : Int) := IntWalk.u64_in _ (by omega)
  go_enter Tryz.func144, Tryz.ntmps144
  go_wp2
  go_ret2
  exact ⟨rfl, rfl⟩
theorem intI : ∃ i, Tryz.prog.info? 3 = some i ∧ i.zero = some (.int .i64 0) ∧ i.size = 1 ∧ i.bytes ≤ 64 := by
  have h : ((Tryz.prog.info? 3).map fun i => (i.zero, i.size, decide (i.bytes ≤ 64))) = some (some (.int .i64 0), 1, true) := by kernel_rfl
  rcases hi : Tryz.prog.info? 3 with _ | i
  · simp [hi] at h
  · simp [hi] at h
    exact ⟨i, rfl, h.1, h.2.1, h.2.2⟩
theorem made1 (z : Value) (n : Nat) : madeCells #[z] n = (List.replicate n z).toArray := by
  apply Array.ext
  · simp [madeCells]
  · intro i h1 h2
    simp [madeCells, Nat.mod_one]
theorem run_mkI (n : Nat) (hn : n ≤ 64) (W : World) : (Instr.makeSlice 75 (.int .i64 n) (.int .i64 n)).run Tryz.prog W = .ok (.slice (some ⟨W.heap.size, 0, none⟩) n n) (W.alloc (.cells (List.replicate n (Value.int .i64 0)).toArray 3)) := by
  obtain ⟨i, hi, hz, hs, hb⟩ := intI
  have hb2 : (i.bytes : Int) * (n : Int) ≤ 281474976710656 := by
    have h := Nat.mul_le_mul hb hn
    have h' : ((i.bytes * n : Nat) : Int) ≤ 4096 := by omega
    rw [Int.natCast_mul] at h'; omega
  have := run_makeSlice W 75 3 i (.int .i64 0) Tryz.underlying75 hi hz .i64 .i64 n n (by omega) (by omega) (by rw [hs]; omega) hb2 (by omega)
  rw [hs] at this
  simpa [Value.cells, made1] using this
theorem op_copy_splice {P : Program} {o : Oper} {a : Act} {w : World} {K : Act → World → Prop} {Q : Exit → Act → World → Prop} (d s : Operand) (dT sT : TypeId)
    (ho : o.op = .call { callee := .builtin .copy, args := #[d, s], argTypes := #[dT, sT] }) (elem : TypeId) (hu : P.underlying dT = some (.slice elem)) (hsz : (P.info? elem).map (·.size) = some 1)
    (g off dLen dCap : Nat) (ad : Addr) (sLen sCap : Nat) (hd : a.eval d = .slice (some ⟨g, off, none⟩) dLen dCap) (hs : a.eval s = .slice (some ad) sLen sCap)
    (cur : List Value) (t : TypeId) (hg : w.heap[g]? = some (.cells cur.toArray t (0, 0))) (cs : List Value) (hn : cs.length = Nat.min sLen dLen)
    (hsrc : ∀ j v, cs[j]? = some v → w.cell? (ad.add j) = some v) (hfit : off + cs.length ≤ cur.length) (h1 : ∀ v ∈ cs, v.oneCell' = true)
    (h : ∀ w', Hid (w'.heap[g]? = some (.cells (cur.take off ++ (cs ++ cur.drop (off + cs.length))).toArray t (0, 0))) → Fp (fun b => b = g) w w' → K (a.put o.dst (.int .i64 cs.length)) w') : Oper.wp P o a w K Q := by
  have hrun := run_copy_row (P := P) w dT sT o.type elem g off dLen dCap ad sLen sCap cur.toArray t cs hu hsz hg hn hsrc (by simpa using hfit) h1
  unfold Oper.wp
  simp [execOp, ho, resolve, invoke, builtin, hd, hs, hrun, Result.andThen]
  refine h _ (Lib.hid ?_) ⟨rfl, rfl, rfl, by simp [World.setRow], fun k hk hne => setRow_other w g k _ hne⟩
  simp [World.setRow, Array.getElem?_modify, hg]
theorem rep_splice (x : Value) (m q r : Nat) : (List.replicate m x ++ List.replicate (q + r) (Value.int .i64 0)).take m ++ (List.replicate q x ++ (List.replicate m x ++ List.replicate (q + r) (Value.int .i64 0)).drop (m + q)) = List.replicate (m + q) x ++ List.replicate r (Value.int .i64 0) := by
  rw [List.take_left' (by simp), ← List.drop_drop, List.drop_left' (by simp), List.drop_replicate, ← List.append_assoc, List.replicate_append_replicate, Nat.add_sub_cancel_left]
set_option maxHeartbeats 4000000 in
set_option maxRecDepth 100000 in
/-- slices.Repeat of one number. -/
theorem repeat_ok (g k : Nat) (x : Int) (h1 : 1 ≤ k) (hk : k ≤ 64) (w : World) (hc : w.cell? ⟨g, 0, none⟩ = some (.int .i64 x)) (hfz : w.frozen? ⟨g, 0, none⟩ = false) :
    Calls Tryz.prog 85 #[.slice (some ⟨g, 0, none⟩) 1 1, .int .i64 k] w fun e w' => ∃ g2, e = .returned (.slice (some ⟨g2, 0, none⟩) k k) ∧ w'.heap[g2]? = some (.cells (List.replicate k (Value.int .i64 x)).toArray 3 (0, 0)) ∧ w.heap.size ≤ g2 ∧ NoW w w' := by
  have isz : (Tryz.prog.info? 3).map (·.size) = some 1 := by kernel_rfl
  have s0 : IntKind.u64.wrap (k : Int) = (k : Int) := IntWalk.u64_in _ (by omega)
  have s1 : IntKind.i64.wrap (k : Int) = (k : Int) := IntWalk.i64_in _ (by omega)
  have c1 : ¬ (k : Int) < 0 := by omega
  have c2 : ¬ (9223372036854775807 : Int) < (k : Int) := by omega
  have c3 : ¬ 9223372036854775807 < k := by omega
  have KM := Lib.hid (fun W => mul1_ok k (by omega) W)
  have km := run_mkI k hk
  have lg := cell_lt hc
  go_enter Tryz.func85, Tryz.ntmps85
  go_wp2_with fail
  refine (KM.out _).mono ?_
  rintro e z1 ⟨rfl, hz⟩
  rw [hz]
  clear hz
  go_upto_region 7 with fail
  refine wp_gen (fun x1 hW => ?_)
  have hp := new_now hW
  have hB := new_blk hW
  clear hW km KM
  obtain ⟨g2, hg2⟩ : ∃ g2, g2 = w.heap.size := ⟨_, rfl⟩
  rw [← hg2] at hB ⊢
  have HG := Lib.hid (Nat.le_of_eq hg2.symm)
  have hne : ¬ g = g2 := by have h1 : g < w.heap.size := lg; omega
  have HC := Lib.hid ((hp.cell (p := ⟨g, 0, none⟩) lg id).trans hc)
  have HN := Lib.hid hp
  clear hg2 hp hc
  go_wp2_with (show wpList _ _ _ ({ dst := some 33, op := _, type := _, pos := _, after := _, guard := _ } :: _) _ _; go_must (refine wpList_copy_splice rfl _ _ 75 75 rfl 3 Tryz.underlying75 isz _ _ k k 1 1 rfl rfl g2 0 (List.replicate k (Value.int .i64 0)) 3 hB.out [.int .i64 x] (show 1 = Nat.min 1 k from (Nat.min_eq_left h1).symm) (fun _ => ⟨rfl, _, rfl, fun j v hj => by rcases j with _ | j <;> simp at hj; subst hj; rw [add_eq0]; exact HC.out⟩) (by simp; omega) (by simp [Value.oneCell']) w.heap.size w HN.out.below HG.out ?_))
  intro x2 hB2 hbel
  replace HN := Lib.hid (Fp.of_below hbel)
  clear hB hbel HC hfz
  have hB : Hid (x2.heap[g2]? = some (.cells (List.replicate 1 (Value.int .i64 x) ++ List.replicate (k - 1) (Value.int .i64 0)).toArray 3 (0, 0))) := by
    have e : splice (List.replicate k (Value.int .i64 0)) 0 [.int .i64 x] = List.replicate 1 (Value.int .i64 x) ++ List.replicate (k - 1) (Value.int .i64 0) := by
      obtain ⟨r, rfl⟩ : ∃ r, k = 1 + r := ⟨k - 1, by omega⟩
      simp [splice]
    rw [← e]; exact hB2
  clear hB2
  go_wp2_with fail
  go_loopg [8] k (fun gg mv wx => ∃ (m : Nat), 1 ≤ m ∧ m ≤ k ∧ gg = k + 1 - m ∧ mv = .int .i64 (m : Int) ∧ wx.heap[g2]? = some (.cells (List.replicate m (Value.int .i64 x) ++ List.replicate (k - m) (Value.int .i64 0)).toArray 3 (0, 0)) ∧ NoW w wx)
  case atStart => exact ⟨1, by omega, by omega, by omega, rfl, hB.out, HN.out⟩
  case round =>
    clear hB HN
    obtain ⟨m, hm1, hm, hgg, rfl, hb, hN⟩ := hrel
    have Hg := Lib.hid hgg
    have B_g := Lib.hid hb
    have HN := Lib.hid hN
    clear hgg hb hN
    by_cases hlt : m < k
    · have ck : (m : Int) < (k : Int) := by omega
      obtain ⟨r, hr⟩ : ∃ r, k = m + r := ⟨k - m, by omega⟩
      have hr0 : 0 < r := by omega
      have k1 := fun W => sl_from W g2 m r hr0
      rw [← hr] at k1
      have k2 := fun W => sl_to W g2 m k hm (by omega)
      have Hr := Lib.hid hr
      clear hr
      have s9 : IntKind.i64.wrap ((m : Int) + ((Nat.min m r : Nat) : Int)) = ((m + Nat.min m r : Nat) : Int) := by
        have : Nat.min m r ≤ r := Nat.min_le_right _ _
        have h9 := Hr.out
        rw [IntWalk.i64_in _ (by omega)]; rfl
      go_upto_region 9 with fail
      refine wp_region_held_drew (S := fun wx => Fp (fun b => b = g2) wr wx) (by kernel_rfl) (Fp.drew (Fp.refl _ _)) (fun hHeld => ?_)
      refine any_eq hHeld (fun y1 hW hHeld => ?_)
      replace B_g := hid_blk B_g (noW_drew hW)
      clear hW
      (refine tk 0 (some 38) ?_ ?_ ?_; rotate_left; (focus (intro wS hSw; go_simp; try with_reducible rfl)); (try simp only [Act.put, List.setIfInBounds_toArray, List.set_cons_zero, List.set_cons_succ]))
      (refine tk 1 (some 39) ?_ ?_ ?_; rotate_left; (focus (intro wS hSw; go_simp; try with_reducible rfl)); (try simp only [Act.put, List.setIfInBounds_toArray, List.set_cons_zero, List.set_cons_succ]))
      (refine tk 2 (some 40) ?_ ?_ ?_; rotate_left; (focus (intro wS hSw; go_simp; try with_reducible rfl)); (try simp only [Act.put, List.setIfInBounds_toArray, List.set_cons_zero, List.set_cons_succ]))
      (refine tk 3 (some 41) ?_ ?_ ?_; rotate_left; (focus (intro wS hSw; go_simp; try with_reducible rfl)); (try simp only [Act.put, List.setIfInBounds_toArray, List.set_cons_zero, List.set_cons_succ]))
      (refine tk 4 (some 42) ?_ ?_ ?_; rotate_left; (focus (intro wS hSw; go_simp; try with_reducible rfl)); (try simp only [Act.put, List.setIfInBounds_toArray, List.set_cons_zero, List.set_cons_succ]))
      (refine tk 5 (some 43) ?_ ?_ ?_; rotate_left; (focus (intro wS hSw; go_simp; try with_reducible rfl)); (try simp only [Act.put, List.setIfInBounds_toArray, List.set_cons_zero, List.set_cons_succ]))
      (refine tk 6 (some 44) ?_ ?_ ?_; rotate_left; (focus (intro wS hSw; go_simp; try with_reducible rfl)); (try simp only [Act.put, List.setIfInBounds_toArray, List.set_cons_zero, List.set_cons_succ]))
      refine wpAnyH_ready (rs := [7]) (by kernel_rfl) (by simp) ?_
      refine AllReadyH.cons rfl (fun K hK => ?_) AllReadyH.nil
      rw [if_pos (by kernel_rfl)]
      have hln : (List.replicate (Nat.min m r) (Value.int .i64 x)).length = Nat.min m r := List.length_replicate ..
      refine op_copy_splice _ _ 75 75 rfl 3 Tryz.underlying75 isz g2 m r r ⟨g2, 0, none⟩ m k rfl rfl (List.replicate m (Value.int .i64 x) ++ List.replicate (k - m) (Value.int .i64 0)) 3 B_g.out (List.replicate (Nat.min m r) (Value.int .i64 x)) hln ?_ ?_ (fun v hv => by rw [(List.mem_replicate.1 hv).2]; rfl) ?_
      · intro j v hj
        rw [add_eq0]
        have hj1 : j < Nat.min m r := by rw [← hln]; exact (List.getElem?_eq_some_iff.1 hj).1
        have hj2 : j < m := Nat.lt_of_lt_of_le hj1 (Nat.min_le_left _ _)
        have hv : v = .int .i64 x := by rw [List.getElem?_replicate, if_pos hj1] at hj; cases hj; rfl
        subst hv
        exact cell_at B_g j (by rw [List.getElem?_append_left (by simpa using hj2), List.getElem?_replicate, if_pos hj2])
      · rw [hln]; have h1 : Nat.min m r ≤ r := Nat.min_le_right _ _; have h2 := Hr.out; simp; omega
      intro y2 hb2 hf2
      change K (Act.put _ (some 45) _) _
      rw [hln] at hb2
      obtain ⟨q, hq⟩ : ∃ q, q = Nat.min m r := ⟨_, rfl⟩
      rw [hln]
      rw [← hq] at hb2 s9 ⊢
      have hq1 : 1 ≤ q := by rw [hq]; exact Nat.le_min.2 ⟨hm1, hr0⟩
      have hq2 : q ≤ r := by rw [hq]; exact Nat.min_le_right _ _
      clear hln hq k1 k2
      have hn := Fp.trans hHeld hf2 (fun _ _ e => e)
      have B_h : Hid (y2.heap[g2]? = some (.cells (List.replicate (m + q) (Value.int .i64 x) ++ List.replicate (k - (m + q)) (Value.int .i64 0)).toArray 3 (0, 0))) := by
        have h9 := Hr.out
        obtain ⟨r2, rfl⟩ : ∃ r2, r = q + r2 := ⟨r - q, by omega⟩
        have e := rep_splice (.int .i64 x) m q r2
        have e1 : k - m = q + r2 := by omega
        have e2 : k - (m + q) = r2 := by omega
        rw [e1] at hb2
        rw [e] at hb2
        rw [e2]; exact hb2
      refine k_now hK hn ?_
      clear hK K hHeld hf2 hb2 B_g
      have hHeld := hn
      clear hn
      try simp only [Act.put, List.setIfInBounds_toArray, List.set_cons_zero, List.set_cons_succ]
      (refine tk 8 (some 46) ?_ ?_ ?_; rotate_left; (focus (intro wS hSw; go_simp; try with_reducible rfl)); (try simp only [Act.put, List.setIfInBounds_toArray, List.set_cons_zero, List.set_cons_succ]))
      (refine tk 9 (some 8) ?_ ?_ ?_; rotate_left; (focus (intro wS hSw; go_simp; try with_reducible rfl)); (try simp only [Act.put, List.setIfInBounds_toArray, List.set_cons_zero, List.set_cons_succ]))
      refine wpAnyH_done (by kernel_rfl) ?_ _
      have HN2 := Lib.hid (HN.out.trans hHeld (fun i hi e => by have h1 : i = g2 := e; have h2 := HG.out; omega))
      clear hHeld
      go_wp2_with fail
      have h9 := Hr.out
      go_roundg (k + 1 - (m + q))
      case measure => have := Hg.out; omega
      case rel => exact ⟨m + q, by omega, by omega, by omega, by first | rfl | go_num, B_h.out, HN2.out⟩
    · obtain rfl : m = k := by omega
      go_wp2_with fail
      go_ret
      refine ⟨g2, rfl, ?_, HG.out, HN.out⟩
      have h := B_g.out
      simpa using h
end Go.Proofs.YthmokdfigjffjaaGreatDoor

namespace Go.Proofs.YthmokdfigjffjaaGreatDoor
set_option linter.unusedVariables false
set_option linter.unusedSimpArgs false
open Go.RowKit Go.Lib
set_option maxHeartbeats 4000000 in
set_option maxRecDepth 100000 in
theorem epochs_new (k : Nat) (h1 : 1 ≤ k) (hk : k ≤ 64) (w : World) : Calls Tryz.prog 28 #[.int .i64 k] w fun e w' => ∃ g g2, e = .returned (.tuple #[.pointer (some ⟨g, 0, none⟩), .int .i64 0]) ∧ w'.heap[g]? = some (.cells #[.int .i64 0, .slice (some ⟨g2, 0, none⟩) k k, .slice none 0 0] 206 (0, 0)) ∧ w'.heap[g2]? = some (.cells (List.replicate k (Value.int .i64 (-1))).toArray 3 (0, 0)) ∧ w.heap.size ≤ g ∧ w.heap.size ≤ g2 ∧ NoW w w' := by
  have c1 : ¬ (k : Int) < 1 := by omega
  have c2 : ¬ (64 : Int) < (k : Int) := by omega
  have c3 : ¬ 64 < k := by omega
  have c4 : ¬ k < 1 := by omega
  have c5 : ¬ k = 0 := by omega
  have KR := Lib.hid (fun g W a b => repeat_ok g k (-1) h1 hk W a b)
  go_enter Tryz.func28, Tryz.ntmps28
  go_wp2_with fail
  refine (show Calls _ _ _ _ _ from KR.out _ _ (by simp) (by simp)).mono ?_
  rintro e x1 ⟨g2, rfl, hB, hge, hp⟩
  have B2 := Lib.hid hB
  have HN := Lib.hid (((Fp.refl (fun _ => False) w).alloc _).trans hp (fun _ _ h => h))
  have HG := Lib.hid (show w.heap.size ≤ g2 by simp at hge; omega)
  clear hB hge hp
  go_wp2_with fail
  refine bodyPost_ret (v := .tuple #[.pointer (some ⟨x1.heap.size, 0, none⟩), .int .i64 0]) (by simp only [results, Tryz.results28]; go_simp) rfl ⟨_, g2, rfl, heap_alloc_new _ _, (Below.heap_alloc _ _ _ (hid_lt B2)).trans B2.out, HN.out.size, HG.out, HN.out.alloc _⟩
theorem tmrI : ∃ i, Tryz.prog.info? 257 = some i ∧ i.zero = some (.slice none 0 0) ∧ i.size = 1 ∧ i.bytes ≤ 64 := by
  have h : ((Tryz.prog.info? 257).map fun i => (i.zero, i.size, decide (i.bytes ≤ 64))) = some (some (.slice none 0 0), 1, true) := by kernel_rfl
  rcases hi : Tryz.prog.info? 257 with _ | i
  · simp [hi] at h
  · simp [hi] at h
    exact ⟨i, rfl, h.1, h.2.1, h.2.2⟩
theorem run_mkT (n : Nat) (hn : n ≤ 64) (W : World) : (Instr.makeSlice 207 (.int .i64 n) (.int .i64 n)).run Tryz.prog W = .ok (.slice (some ⟨W.heap.size, 0, none⟩) n n) (W.alloc (.cells (List.replicate n (.slice none 0 0)).toArray 257)) := by
  obtain ⟨i, hi, hz, hs, hb⟩ := tmrI
  have hb2 : (i.bytes : Int) * (n : Int) ≤ 281474976710656 := by
    have h := Nat.mul_le_mul hb hn
    have h' : ((i.bytes * n : Nat) : Int) ≤ 4096 := by omega
    rw [Int.natCast_mul] at h'; omega
  have := run_makeSlice W 207 257 i (.slice none 0 0) Tryz.underlying207 hi hz .i64 .i64 n n (by omega) (by omega) (by rw [hs]; omega) hb2 (by omega)
  rw [hs] at this
  simpa [Value.cells, made1] using this
set_option maxHeartbeats 4000000 in
set_option maxRecDepth 100000 in
theorem wheels_new (n : Nat) (h1 : 1 ≤ n) (hn : n ≤ 64) (w : World) : Calls Tryz.prog 29 #[.int .i64 n] w fun e w' => ∃ g gp gm, e = .returned (.tuple #[.pointer (some ⟨g, 0, none⟩), .int .i64 0]) ∧ w'.heap[g]? = some (.cells #[.slice (some ⟨gp, 0, none⟩) n n, .map (some gm), .int .i64 0] 210 (0, 0)) ∧ w'.heap[gp]? = some (.cells (Array.replicate n (Value.slice none 0 0)) 257 (0, 0)) ∧ w'.heap[gm]? = some (.map #[] 0) ∧ w.heap.size ≤ g ∧ w.heap.size ≤ gp ∧ w.heap.size ≤ gm ∧ NoW w w' := by
  have c1 : ¬ (n : Int) < 1 := by omega
  have c2 : ¬ (64 : Int) < (n : Int) := by omega
  have c3 : ¬ 64 < n := by omega
  have c4 : ¬ n < 1 := by omega
  have c5 : ¬ n = 0 := by omega
  have hmm := @run_makeMap Tryz.prog
  have km := run_mkT n hn
  go_enter Tryz.func29, Tryz.ntmps29
  go_wp2_with fail
  refine post_gen (fun W hW => ?_)
  obtain ⟨y1, hy1⟩ : ∃ y, y = w.alloc (.cells (Array.replicate n (Value.slice none 0 0)) 257) := ⟨_, rfl⟩
  obtain ⟨y2, hy2⟩ : ∃ y, y = y1.alloc (.map #[] 0) := ⟨_, rfl⟩
  rw [← hy1, ← hy2] at hW
  have e1 : y1.heap.size = w.heap.size + 1 := by rw [hy1]; simp
  have e2 : y2.heap.size = w.heap.size + 1 + 1 := by rw [hy2]; simp [e1]
  have q1 := new_blk hy1
  have q2 := new_blk hy2
  have q3 := new_blk hW
  have f1 := new_now hy1
  have f2 := new_now hy2
  have f3 := new_now hW
  rw [e1] at q2
  rw [e2] at q3
  refine bodyPost_ret (v := .tuple #[.pointer (some ⟨w.heap.size + 1 + 1, 0, none⟩), .int .i64 0]) (by simp only [results, Tryz.results29]; go_simp) rfl ⟨_, rfl, _, _, q3.out, (hid_blk (hid_blk q1 f2) f3).out, (hid_blk q2 f3).out, by omega, by omega, by omega, (f1.trans f2 (fun _ _ h => h)).trans f3 (fun _ _ h => h)⟩
set_option maxHeartbeats 4000000 in
set_option maxRecDepth 100000 in
theorem first0_ok (g : Nat) (w : World) (B_g : Hid (w.heap[g]? = some (.cells #[.int .i64 0, .int .i64 0, .int .i64 0, .int .i64 0, .int .i64 0] 51 (0, 0)))) : Calls Tryz.prog 30 #[.slice (some ⟨g, 0, none⟩) 5 5] w (Ret1 (.int .i64 0) w) := by
  go_enter Tryz.func30, Tryz.ntmps30
  have HN := Lib.hid (Fp.refl (fun _ => False) w)
  go_wp2_with fail
  go_loopg [7, 4] 6 (fun gg kv ev wx => ∃ (k : Nat), k ≤ 5 ∧ gg = 6 - k ∧ kv = .int .i64 (k : Int) ∧ wx = w)
  case atStart => exact ⟨0, by omega, by omega, rfl, rfl⟩
  case round =>
    obtain ⟨k, hk, hg, rfl, hw⟩ := hrel
    subst hw
    have Hg := Lib.hid hg
    clear hg
    by_cases hlt : k < 5
    · have ck : (k : Int) < 5 := by omega
      have cg : wr.cell? ⟨g, k, none⟩ = some (.int .i64 0) := cell_at B_g k (by rcases k with _ | _ | _ | _ | _ | k <;> first | rfl | omega)
      have lg := hid_lt B_g
      go_wp2_with fail
      go_roundg (5 - k)
      case measure => have := Hg.out; omega
      case rel => exact ⟨k + 1, by omega, by omega, by go_num, rfl⟩
    · obtain rfl : k = 5 := by omega
      go_wp2_with fail
      go_ret
      exact ⟨rfl, Fp.refl _ _⟩
end Go.Proofs.YthmokdfigjffjaaGreatDoor

namespace Go.Proofs.YthmokdfigjffjaaGreatDoor
set_option linter.unusedVariables false
set_option linter.unusedSimpArgs false
open Go.RowKit Go.Lib
def whlZ : Value := .pointer none
theorem whlI : ∃ i, Tryz.prog.info? 100 = some i ∧ i.zero = some whlZ ∧ i.size = 1 ∧ i.bytes ≤ 65536 := by
  have h : ((Tryz.prog.info? 100).map fun i => (i.zero, i.size, decide (i.bytes ≤ 65536))) = some (some whlZ, 1, true) := by kernel_rfl
  rcases hi : Tryz.prog.info? 100 with _ | i
  · simp [hi] at h
  · simp [hi] at h
    exact ⟨i, rfl, h.1, h.2.1, h.2.2⟩
def slt16 : Array Value := #[.bool false, .bool false, .bool false, .int .u8 0, .int .u32 0, .int .u16 0, .int .u32 0, .int .u16 0, .int .u8 0, .int .u32 0, .int .u16 0, .int .u32 0, .int .u16 0, .int .i64 0, .int .i64 0, .slice none 0 0]
def sltZ : Value := .agg slt16
theorem sltI : ∃ i, Tryz.prog.info? 129 = some i ∧ i.zero = some sltZ ∧ i.size = 16 ∧ i.bytes ≤ 65536 := by
  have h : ((Tryz.prog.info? 129).map fun i => (i.zero, i.size, decide (i.bytes ≤ 65536))) = some (some sltZ, 16, true) := by kernel_rfl
  rcases hi : Tryz.prog.info? 129 with _ | i
  · simp [hi] at h
  · simp [hi] at h
    exact ⟨i, rfl, h.1, h.2.1, h.2.2⟩
theorem ownsRow_low0 {w w' : World} {B size n : Nat} {e : TypeId} {v : Value} {xs : List Value} (h : w.ownsRow B e size v n xs) (hp : NoW w w') : w'.ownsRow B e size v n xs :=
  ownsRow_of_block h fun x e => hp.block x (World.ownsRow.lt h x e).2 id
theorem run_mkSl (n : Nat) (hn : n ≤ 256) (W : World) : (Instr.makeSlice 83 (.int .i64 n) (.int .i64 n)).run Tryz.prog W = .ok (.slice (some ⟨W.heap.size, 0, none⟩) n n) (W.alloc (.cells (madeCells slt16 (n * 16)) 129)) := by
  obtain ⟨i, hi, hz, hs, hb⟩ := sltI
  have hb2 : (i.bytes : Int) * (n : Int) ≤ 281474976710656 := by
    have h := Nat.mul_le_mul hb hn
    have h' : ((i.bytes * n : Nat) : Int) ≤ 16777216 := by omega
    rw [Int.natCast_mul] at h'; omega
  have := run_makeSlice W 83 129 i sltZ Tryz.underlying83 hi hz .i64 .i64 n n (by omega) (by omega) (by rw [hs]; omega) hb2 (by omega)
  rw [hs] at this
  simpa [sltZ, Value.cells] using this
set_option maxHeartbeats 8000000 in
set_option maxRecDepth 100000 in
theorem shared_new (o ip : Nat) (bits : Int) (ns nb nw wh : Nat) (ho : o < 4294967296) (hip : ip < 4294967296) (hm : mayB ip bits = true) (hh : hasB ip bits o = false) (h1 : 1 ≤ ns) (h2 : ns ≤ 256) (h3 : 1 ≤ nb) (h4 : nb ≤ 64) (h5 : 1 ≤ nw) (h6 : nw ≤ 64) (h7 : 1 ≤ wh) (h8 : wh ≤ 64) (w : World) :
    Calls Tryz.prog 4 #[.agg #[.int .u32 o, .int .u32 ip, .int .i64 bits, .int .i64 ns, .int .i64 nb, .int .i64 nw, .int .i64 wh]] w fun e w' => ∃ g tb sl ss bc bf bm ep wv pt p1 p2, e = .returned (.tuple #[.pointer (some ⟨g, 0, none⟩), .int .i64 0]) ∧ w'.heap[g]? = some (.cells #[.pointer (some ⟨tb, 0, none⟩), .int .i64 0, .int .i64 0, .pointer (some ⟨sl, 0, none⟩), .slice (some ⟨ss, 0, none⟩) ns ns, .pointer (some ⟨bc, 0, none⟩), .pointer (some ⟨ep, 0, none⟩), wv, .pointer (some ⟨pt, 0, none⟩), .slice none 0 0] 90 (0, 0)) ∧ w'.heap[tb]? = some (.cells #[.bool true, .int .u32 o, .int .u32 ip, .int .i64 bits, .slice none 0 0] 185 (0, 0)) ∧ w'.heap[sl]? = some (.cells (slabK ns 256).toArray 191 (0, 0)) ∧ w'.heap[ss]? = some (.cells (madeCells slt16 (ns * 16)) 129 (0, 0)) ∧ ChRep w' bc bf bm (List.replicate nb []) ∧ w'.heap[pt]? = some (.cells #[.map (some p1), .map (some p2)] 215 (0, 0)) ∧ w'.heap[p1]? = some (.map #[] 0) ∧ NoW w w' := by
  have K1 := Lib.hid (fun W => rules_new o ip bits ho hip hm hh W)
  have K2 := Lib.hid (fun W => slab_new ns h1 h2 W)
  have K3 := Lib.hid (fun W => new_ok nb h3 h4 W)
  have K4 := Lib.hid (fun W => epochs_new nw h5 h6 W)
  have K5 := Lib.hid (fun W => wheels_new wh h7 h8 W)
  have km := run_mkSl ns h2
  have Hnw := Lib.hid h6
  clear hm hh ho hip
  go_enter Tryz.func4, Tryz.ntmps4
  have HN := Lib.hid (Fp.refl (fun _ => False) w)
  go_upto_region 1 with fail
  refine wp_gen (fun z1 hW => ?_)
  have hp := new_now hW
  have hB := new_blk hW
  clear hW
  have hGe := hid_ge HN
  replace HN := hid_now HN hp
  obtain ⟨gC, hgC⟩ : ∃ gC, gC = w.heap.size := ⟨_, rfl⟩
  have G_gC := Lib.hid (Nat.le_trans hGe (Nat.le_of_eq hgC.symm))
  rw [← hgC] at hB ⊢
  have B_gC := hB
  clear hB hGe hgC
  clear hp
  have cgC0 := cell_at B_gC 0 rfl
  have cgC1 := cell_at B_gC 1 rfl
  have cgC2 := cell_at B_gC 2 rfl
  have cgC3 := cell_at B_gC 3 rfl
  have cgC4 := cell_at B_gC 4 rfl
  have cgC5 := cell_at B_gC 5 rfl
  have cgC6 := cell_at B_gC 6 rfl
  have zgC := froz_at B_gC
  have lgC := hid_lt B_gC
  go_wp2_with fail
  refine (show Calls _ _ _ _ _ from K1.out _).mono ?_
  rintro e z2 ⟨tb, rfl, hb, _, hp⟩
  replace HN := hid_now HN hp
  replace B_gC := hid_blk B_gC hp
  clear hp
  have B_tb := Lib.hid hb
  clear hb
  clear cgC0 cgC1 cgC2 cgC3 cgC4 cgC5 cgC6 zgC lgC
  have cgC0 := cell_at B_gC 0 rfl
  have cgC1 := cell_at B_gC 1 rfl
  have cgC2 := cell_at B_gC 2 rfl
  have cgC3 := cell_at B_gC 3 rfl
  have cgC4 := cell_at B_gC 4 rfl
  have cgC5 := cell_at B_gC 5 rfl
  have cgC6 := cell_at B_gC 6 rfl
  have zgC := froz_at B_gC
  have lgC := hid_lt B_gC
  go_wp2_with fail
  refine (show Calls _ _ _ _ _ from K2.out _).mono ?_
  rintro e z3 ⟨sl, rfl, hb, _, hp⟩
  replace HN := hid_now HN hp
  replace B_gC := hid_blk B_gC hp
  replace B_tb := hid_blk B_tb hp
  clear hp
  have B_sl := Lib.hid hb
  clear hb
  clear cgC0 cgC1 cgC2 cgC3 cgC4 cgC5 cgC6 zgC lgC
  have cgC0 := cell_at B_gC 0 rfl
  have cgC1 := cell_at B_gC 1 rfl
  have cgC2 := cell_at B_gC 2 rfl
  have cgC3 := cell_at B_gC 3 rfl
  have cgC4 := cell_at B_gC 4 rfl
  have cgC5 := cell_at B_gC 5 rfl
  have cgC6 := cell_at B_gC 6 rfl
  have zgC := froz_at B_gC
  have lgC := hid_lt B_gC
  go_wp2_with fail
  refine (show Calls _ _ _ _ _ from K3.out _).mono ?_
  rintro e z4 ⟨bc, bf, bm, rfl, _, _, _, hc, hp⟩
  replace HN := hid_now HN hp
  replace B_gC := hid_blk B_gC hp
  replace B_tb := hid_blk B_tb hp
  replace B_sl := hid_blk B_sl hp
  clear hp
  have HCR := Lib.hid hc
  clear hc
  clear cgC0 cgC1 cgC2 cgC3 cgC4 cgC5 cgC6 zgC lgC
  have cgC0 := cell_at B_gC 0 rfl
  have cgC1 := cell_at B_gC 1 rfl
  have cgC2 := cell_at B_gC 2 rfl
  have cgC3 := cell_at B_gC 3 rfl
  have cgC4 := cell_at B_gC 4 rfl
  have cgC5 := cell_at B_gC 5 rfl
  have cgC6 := cell_at B_gC 6 rfl
  have zgC := froz_at B_gC
  have lgC := hid_lt B_gC
  go_wp2_with fail
  refine (show Calls _ _ _ _ _ from K4.out _).mono ?_
  rintro e z5 ⟨ep, e2, rfl, hb, hb2, _, _, hp⟩
  replace HN := hid_now HN hp
  replace B_gC := hid_blk B_gC hp
  replace B_tb := hid_blk B_tb hp
  replace B_sl := hid_blk B_sl hp
  replace HCR := Lib.hid (HCR.out.fp hp (fun _ _ h => h))
  clear hp
  have B_ep := Lib.hid hb
  have B_e2 := Lib.hid hb2
  clear hb hb2
  clear cgC0 cgC1 cgC2 cgC3 cgC4 cgC5 cgC6 zgC lgC
  have cgC0 := cell_at B_gC 0 rfl
  have cgC1 := cell_at B_gC 1 rfl
  have cgC2 := cell_at B_gC 2 rfl
  have cgC3 := cell_at B_gC 3 rfl
  have cgC4 := cell_at B_gC 4 rfl
  have cgC5 := cell_at B_gC 5 rfl
  have cgC6 := cell_at B_gC 6 rfl
  have zgC := froz_at B_gC
  have lgC := hid_lt B_gC
  go_wp2_with fail
  refine (show Calls _ _ _ _ _ from K5.out _).mono ?_
  rintro e z6 ⟨w1g, w1p, w1m, rfl, _, _, _, _, _, _, hp⟩
  replace HN := hid_now HN hp
  replace B_gC := hid_blk B_gC hp
  replace B_tb := hid_blk B_tb hp
  replace B_sl := hid_blk B_sl hp
  replace B_ep := hid_blk B_ep hp
  replace B_e2 := hid_blk B_e2 hp
  replace HCR := Lib.hid (HCR.out.fp hp (fun _ _ h => h))
  clear hp
  clear cgC0 cgC1 cgC2 cgC3 cgC4 cgC5 cgC6 zgC lgC
  have cgC0 := cell_at B_gC 0 rfl
  have cgC1 := cell_at B_gC 1 rfl
  have cgC2 := cell_at B_gC 2 rfl
  have cgC3 := cell_at B_gC 3 rfl
  have cgC4 := cell_at B_gC 4 rfl
  have cgC5 := cell_at B_gC 5 rfl
  have cgC6 := cell_at B_gC 6 rfl
  have zgC := froz_at B_gC
  have lgC := hid_lt B_gC
  go_wp2_with fail
  refine calls_gen (fun z7 hW => ?_)
  have l2gC := hid_lt B_gC
  have l2tb := hid_lt B_tb
  have l2sl := hid_lt B_sl
  have l2ep := hid_lt B_ep
  have l2e2 := hid_lt B_e2
  have hp := new_now hW
  have hB := new_blk hW
  clear hW
  have hGe := hid_ge HN
  replace HN := hid_now HN hp
  replace B_gC := hid_blk B_gC hp
  replace B_tb := hid_blk B_tb hp
  replace B_sl := hid_blk B_sl hp
  replace B_ep := hid_blk B_ep hp
  replace B_e2 := hid_blk B_e2 hp
  replace HCR := Lib.hid (HCR.out.fp hp (fun _ _ h => h))
  obtain ⟨gF, hgF⟩ : ∃ gF, gF = z6.heap.size := ⟨_, rfl⟩
  have G_gF := Lib.hid (Nat.le_trans hGe (Nat.le_of_eq hgF.symm))
  have n_gC_gF : ¬ gC = gF := by omega
  have n_gF_gC : ¬ gF = gC := by omega
  clear l2gC
  have n_tb_gF : ¬ tb = gF := by omega
  have n_gF_tb : ¬ gF = tb := by omega
  clear l2tb
  have n_sl_gF : ¬ sl = gF := by omega
  have n_gF_sl : ¬ gF = sl := by omega
  clear l2sl
  have n_ep_gF : ¬ ep = gF := by omega
  have n_gF_ep : ¬ gF = ep := by omega
  clear l2ep
  have n_e2_gF : ¬ e2 = gF := by omega
  have n_gF_e2 : ¬ gF = e2 := by omega
  clear l2e2
  rw [← hgF] at hB ⊢
  have B_gF := hB
  clear hB hGe hgF
  clear hp
  refine (show Calls _ _ _ _ _ from first0_ok gF _ B_gF).mono ?_
  rintro e z8 ⟨rfl, hp⟩
  replace HN := hid_now HN hp
  replace B_gC := hid_blk B_gC hp
  replace B_tb := hid_blk B_tb hp
  replace B_sl := hid_blk B_sl hp
  replace B_ep := hid_blk B_ep hp
  replace B_e2 := hid_blk B_e2 hp
  replace B_gF := hid_blk B_gF hp
  replace HCR := Lib.hid (HCR.out.fp hp (fun _ _ h => h))
  clear hp
  clear cgC0 cgC1 cgC2 cgC3 cgC4 cgC5 cgC6 zgC lgC
  clear B_gF
  have cgC0 := cell_at B_gC 0 rfl
  have cgC1 := cell_at B_gC 1 rfl
  have cgC2 := cell_at B_gC 2 rfl
  have cgC3 := cell_at B_gC 3 rfl
  have cgC4 := cell_at B_gC 4 rfl
  have cgC5 := cell_at B_gC 5 rfl
  have cgC6 := cell_at B_gC 6 rfl
  have zgC := froz_at B_gC
  have lgC := hid_lt B_gC
  go_upto_region 9 with fail
  clear cgC0 cgC1 cgC2 cgC4 cgC5 cgC6 zgC
  refine wp_region_held_drew (S := fun wx => NoW z8 wx) (by kernel_rfl) (Fp.drew (Fp.refl _ _)) (fun hHeld0 => ?_)
  refine any_eq hHeld0 (fun z9 hW hHeld => ?_)
  clear hHeld0
  replace B_gC := hid_blk B_gC (noW_drew hW)
  replace B_tb := hid_blk B_tb (noW_drew hW)
  replace B_sl := hid_blk B_sl (noW_drew hW)
  replace B_ep := hid_blk B_ep (noW_drew hW)
  replace B_e2 := hid_blk B_e2 (noW_drew hW)
  replace HCR := Lib.hid (HCR.out.fp (noW_drew hW) (fun _ _ h => h))
  clear hW
  (refine tk 0 (some 60) ?_ ?_ ?_; rotate_left; (focus (intro wS hSw; go_simp; try with_reducible rfl)); (try simp only [Act.put, List.setIfInBounds_toArray, List.set_cons_zero, List.set_cons_succ]))
  (refine tk 1 (some 61) ?_ ?_ ?_; rotate_left; (focus (intro wS hSw; go_simp; try with_reducible rfl)); (try simp only [Act.put, List.setIfInBounds_toArray, List.set_cons_zero, List.set_cons_succ]))
  (refine tk 2 (some 62) ?_ ?_ ?_; rotate_left; (focus (intro wS hSw; go_simp; try with_reducible rfl)); (try simp only [Act.put, List.setIfInBounds_toArray, List.set_cons_zero, List.set_cons_succ]))
  (refine tk 3 (some 63) ?_ ?_ ?_; rotate_left; (focus (intro wS hSw; (have q3 := (hSw.cell (p := ⟨gC, 3, none⟩) lgC id).trans cgC3); go_simp; try with_reducible rfl)); (try simp only [Act.put, List.setIfInBounds_toArray, List.set_cons_zero, List.set_cons_succ]))
  (refine tk 5 (some 65) ?_ ?_ ?_; rotate_left; (focus (intro wS hSw; go_simp; try with_reducible rfl)); (try simp only [Act.put, List.setIfInBounds_toArray, List.set_cons_zero, List.set_cons_succ]))
  (refine tk 6 (some 66) ?_ ?_ ?_; rotate_left; (focus (intro wS hSw; go_simp; try with_reducible rfl)); (try simp only [Act.put, List.setIfInBounds_toArray, List.set_cons_zero, List.set_cons_succ]))
  refine wpAnyH_ready (rs := [4, 7]) (by kernel_rfl) (by simp) ?_
  refine AllReadyH.cons rfl (fun K hK => ?_) (AllReadyH.cons rfl (fun K hK => ?_) AllReadyH.nil)
  · go_simp
    refine k_gen hK (fun z10 hW => ?_)
    have l2gC := hid_lt B_gC
    have l2tb := hid_lt B_tb
    have l2sl := hid_lt B_sl
    have l2ep := hid_lt B_ep
    have l2e2 := hid_lt B_e2
    have hp := new_now hW
    have hB := new_blk hW
    have hGe := Fp.size hHeld
    clear hW
    refine ⟨Fp.trans hHeld hp (fun _ _ h => h.elim), ?_⟩
    have hcl := HCR.out
    replace hHeld := Fp.trans hHeld hp (fun _ _ h => h.elim)
    clear hK K
    try simp only [Act.put, List.setIfInBounds_toArray, List.set_cons_zero, List.set_cons_succ]
    obtain ⟨ss, hss⟩ : ∃ ss, ss = z9.heap.size := ⟨_, rfl⟩
    clear hcl
    replace HCR := Lib.hid (HCR.out.fp hp (fun _ _ h => h))
    have n_gC_ss : ¬ gC = ss := by omega
    clear l2gC
    replace B_gC := hid_blk B_gC hp
    have n_tb_ss : ¬ tb = ss := by omega
    clear l2tb
    replace B_tb := hid_blk B_tb hp
    have n_sl_ss : ¬ sl = ss := by omega
    clear l2sl
    replace B_sl := hid_blk B_sl hp
    have n_ep_ss : ¬ ep = ss := by omega
    clear l2ep
    replace B_ep := hid_blk B_ep hp
    have n_e2_ss : ¬ e2 = ss := by omega
    clear l2e2
    replace B_e2 := hid_blk B_e2 hp
    rw [← hss] at hB ⊢
    have B_ss := hB
    clear hB hss hp hGe
    refine wpAnyH_ready (rs := [7]) (by kernel_rfl) (by simp) ?_
    refine AllReadyH.cons rfl (fun K hK => ?_) AllReadyH.nil
    go_simp
    go_at_call 31
    refine (ports_new _).mono ?_
    rintro e z11 ⟨pt, p1, p2, rfl, hb, hb1, hb2, _, _, hp⟩
    have B_pt := Lib.hid hb
    have B_p1 := Lib.hid hb1
    have B_p2 := Lib.hid hb2
    clear hb hb1 hb2
    have hn := Fp.trans hHeld hp (fun _ _ h => h.elim)
    replace HCR := Lib.hid (HCR.out.fp hp (fun _ _ h => h))
    replace B_gC := hid_blk B_gC hp
    replace B_tb := hid_blk B_tb hp
    replace B_sl := hid_blk B_sl hp
    replace B_ep := hid_blk B_ep hp
    replace B_e2 := hid_blk B_e2 hp
    replace B_ss := hid_blk B_ss hp
    refine k_now hK hn ?_
    clear hK K hp hHeld
    have hHeld := hn
    clear hn
    try simp only [Act.put, List.setIfInBounds_toArray, List.set_cons_zero, List.set_cons_succ]
    (refine tk 8 (some 68) ?_ ?_ ?_; rotate_left; (focus (intro wS hSw; go_simp; try with_reducible rfl)); (try simp only [Act.put, List.setIfInBounds_toArray, List.set_cons_zero, List.set_cons_succ]))
    refine wpAnyH_ready (rs := [9]) (by kernel_rfl) (by simp) ?_
    refine AllReadyH.cons rfl (fun K hK => ?_) AllReadyH.nil
    go_simp
    refine k_gen hK (fun z12 hW => ?_)
    have l2gC := hid_lt B_gC
    have l2tb := hid_lt B_tb
    have l2sl := hid_lt B_sl
    have l2ep := hid_lt B_ep
    have l2e2 := hid_lt B_e2
    have l2ss := hid_lt B_ss
    have l2pt := hid_lt B_pt
    have l2p1 := hid_lt B_p1
    have l2p2 := hid_lt B_p2
    have hp := new_now hW
    have hB := new_blk hW
    have hGe := Fp.size hHeld
    clear hW
    refine ⟨Fp.trans hHeld hp (fun _ _ h => h.elim), ?_⟩
    have hcl := HCR.out
    replace hHeld := Fp.trans hHeld hp (fun _ _ h => h.elim)
    clear hK K
    try simp only [Act.put, List.setIfInBounds_toArray, List.set_cons_zero, List.set_cons_succ]
    obtain ⟨g, hg⟩ : ∃ g, g = z11.heap.size := ⟨_, rfl⟩
    have R_g := Lib.hid (show w.heap.size ≤ g from by have h1 := HN.out.size; omega)
    have HCg := Lib.hid (show ∀ b, b ∈ blocks bc bf bm (List.replicate nb []) → ¬ b = g from fun b hb e => by have h1 := hcl.lt hb; omega)
    clear hcl
    replace HCR := Lib.hid (HCR.out.fp hp (fun _ _ h => h))
    have n_gC_g : ¬ gC = g := by omega
    clear l2gC
    replace B_gC := hid_blk B_gC hp
    have n_tb_g : ¬ tb = g := by omega
    clear l2tb
    replace B_tb := hid_blk B_tb hp
    have n_sl_g : ¬ sl = g := by omega
    clear l2sl
    replace B_sl := hid_blk B_sl hp
    have n_ep_g : ¬ ep = g := by omega
    clear l2ep
    replace B_ep := hid_blk B_ep hp
    have n_e2_g : ¬ e2 = g := by omega
    clear l2e2
    replace B_e2 := hid_blk B_e2 hp
    have n_ss_g : ¬ ss = g := by omega
    clear l2ss
    replace B_ss := hid_blk B_ss hp
    have n_pt_g : ¬ pt = g := by omega
    clear l2pt
    replace B_pt := hid_blk B_pt hp
    have n_p1_g : ¬ p1 = g := by omega
    clear l2p1
    replace B_p1 := hid_blk B_p1 hp
    have n_p2_g : ¬ p2 = g := by omega
    clear l2p2
    replace B_p2 := hid_blk B_p2 hp
    rw [← hg] at hB ⊢
    have B_g := hB
    clear hB hg hp hGe
    (refine tk 10 (some 15) ?_ ?_ ?_; rotate_left; (focus (intro wS hSw; go_simp; try with_reducible rfl)); (try simp only [Act.put, List.setIfInBounds_toArray, List.set_cons_zero, List.set_cons_succ]))
    refine wpAnyH_done (by kernel_rfl) ?_ _
    have hGe := hid_ge HN
    replace HN := hid_now HN hHeld
    clear hHeld hGe lgC cgC3
    have cgC5 := cell_at B_gC 5 rfl
    have lgC := hid_lt B_gC
    go_wp2_with fail
    clear cgC5 lgC
    obtain ⟨B, hB⟩ : ∃ B, B = z12.heap.size := ⟨_, rfl⟩
    have HB := Lib.hid hB
    have HgB := Lib.hid (show g < B by rw [hB]; exact hid_lt B_g)
    clear hB
    go_loopg [72, 16, 17] (nw + 1) (fun gg kv _ _ wx => ∃ (i : Nat) (wv : Value) (xs : List Value), i ≤ nw ∧ gg = nw + 1 - i ∧ kv = .int .i64 (i : Int) ∧ wx.heap[g]? = some (.cells #[.pointer (some ⟨tb, 0, none⟩), .int .i64 0, .int .i64 0, .pointer (some ⟨sl, 0, none⟩), .slice (some ⟨ss, 0, none⟩) ns ns, .pointer (some ⟨bc, 0, none⟩), .pointer (some ⟨ep, 0, none⟩), wv, .pointer (some ⟨pt, 0, none⟩), .slice none 0 0] 90 (0, 0)) ∧ wx.ownsRow B 100 1 wv i xs ∧ B ≤ wx.heap.size ∧ Fp (fun b => b = g) z12 wx)
    case atStart => exact ⟨0, _, [], by omega, by omega, rfl, B_g.out, World.ownsRow_nil _ _ _ 1, Nat.le_of_eq HB.out, Fp.refl _ _⟩
    case round =>
      obtain ⟨i, wv, xs, hi, hg, rfl, hb, hO, hBs, hF⟩ := hrel
      have Hg := Lib.hid hg
      have C_g := Lib.hid hb
      have HO := Lib.hid hO
      have HBs := Lib.hid hBs
      have HF := Lib.hid hF
      clear hg hb hO hBs hF
      have C_gC := hid_blkS B_gC HF.out n_gC_g
      by_cases hlt : i < nw
      · have ck : (i : Int) < (nw : Int) := by omega
        have hnw := Hnw.out
        have d5 := cell_at C_gC 5 rfl
        have d6 := cell_at C_gC 6 rfl
        have lC := hid_lt C_gC
        go_wp2_with fail
        refine (show Calls _ _ _ _ _ from K5.out _).mono ?_
        rintro e y1 ⟨gw, gp, gm, rfl, _, _, _, _, _, _, hp⟩
        replace C_g := hid_blk C_g hp
        replace HO := Lib.hid (ownsRow_low0 HO.out hp)
        replace HBs := Lib.hid (Nat.le_trans HBs.out hp.size)
        replace HF := Lib.hid (HF.out.trans hp (fun _ _ h => h.elim))
        clear hp d5 d6 lC C_gC
        have c7 := cell_at C_g 7 rfl
        have zg := froz_at C_g
        have lg := hid_lt C_g
        go_wp2_with (at_builtin; go_must (refine wp_append1 rfl _ _ 86 rfl B 100 whlZ 1 Tryz.underlying86 whlI rfl (by decide) wv i xs rfl (ownsRow_low0 HO.out ((Fp.refl (fun _ => False) y1).alloc _)) y1.heap.size [.pointer (some ⟨gw, 0, none⟩)] rfl rfl (heap_alloc_new y1 _) (by simp [Value.oneCell']) (by omega) (Nat.le_trans HBs.out (by simp)) ?_))
        intro v' w' hown hgr hne hwh
        obtain ⟨gv, cv, rfl⟩ : ∃ gv cv, v' = .slice (some ⟨gv, 0, none⟩) (i + 1) cv := by rcases hown.2 with ⟨h, _⟩ | ⟨g, cap, cur, e, _⟩; (exact absurd h hne); exact ⟨g, cap, e⟩
        have hal : NoW y1 (y1.alloc (.cells #[.pointer (some ⟨gw, 0, none⟩)] 100)) := (Fp.refl _ _).alloc _
        have hnB : ∀ b, b < B → ¬ wv.ownBlock = some b := fun b hb e => by have h1 := (World.ownsRow.lt HO.out b e).1; omega
        have hf : Fp (fun b => wv.ownBlock = some b) (y1.alloc (.cells #[.pointer (some ⟨gw, 0, none⟩)] 100)) w' := Fp.grown (Fp.refl _ _) hgr (fun k e => Or.inr e)
        have hgB := HgB.out
        replace C_g := hid_blkS (hid_blk C_g hal) hf (hnB _ hgB)
        have HO2 := Lib.hid hown
        have HF2 := Lib.hid ((HF.out.trans hal (fun _ _ h => h.elim)).trans hf (fun i hi e => absurd e (hnB i (by have h3 := HB.out; omega))))
        have HBs2 := Lib.hid (Nat.le_trans HBs.out (Nat.le_trans hal.size hf.size))
        clear hown hgr hne hwh hal hnB hf hgB c7 zg lg HO HF HBs
        have c7 := cell_at C_g 7 rfl
        have zg := froz_at C_g
        have lg := hid_lt C_g
        go_wp2_with fail
        clear c7 zg lg
        have hB := set_blk (W := (w'.setCell ⟨g, 7, none⟩ (.slice (some ⟨gv, 0, none⟩) (i + 1) cv))) rfl C_g
        simp only [List.setIfInBounds_toArray, List.set_cons_zero, List.set_cons_succ] at hB
        have hfs := set_now (W := (w'.setCell ⟨g, 7, none⟩ (.slice (some ⟨gv, 0, none⟩) (i + 1) cv))) rfl
        have HO3 := Lib.hid (ownsRow_of_block HO2.out fun x e => hfs.block x (World.ownsRow.lt HO2.out x e).2 (fun e2 => by have h1 : x = g := e2; have h2 := HgB.out; have h3 := (World.ownsRow.lt HO2.out x e).1; omega))
        have HF3 := Lib.hid (HF2.out.trans hfs (fun _ _ e => e))
        have HBs3 := Lib.hid (Nat.le_trans HBs2.out hfs.size)
        clear hfs
        go_roundg (nw - i)
        case measure => have := Hg.out; omega
        case rel => exact ⟨i + 1, _, _, by omega, by omega, by go_num, hB.out, HO3.out, HBs3.out, HF3.out⟩
      · obtain rfl : i = nw := by omega
        go_wp2_with fail
        refine bodyPost_ret (v := .tuple #[.pointer (some ⟨g, 0, none⟩), .int .i64 0]) (by simp only [results, Tryz.results4]; go_simp) rfl ⟨g, tb, sl, ss, bc, bf, bm, ep, wv, pt, p1, p2, rfl, C_g.out, (hid_blkS B_tb HF.out n_tb_g).out, (hid_blkS B_sl HF.out n_sl_g).out, (hid_blkS B_ss HF.out n_ss_g).out, HCR.out.fp HF.out (fun b hb e => HCg.out b hb e), (hid_blkS B_pt HF.out n_pt_g).out, (hid_blkS B_p1 HF.out n_p1_g).out, HN.out.trans HF.out (fun k hk e => by have h1 : k = g := e; have h2 := R_g.out; omega)⟩
  · go_simp
    go_at_call 31
    refine (ports_new _).mono ?_
    rintro e z13 ⟨pt, p1, p2, rfl, hb, hb1, hb2, _, _, hp⟩
    have B_pt := Lib.hid hb
    have B_p1 := Lib.hid hb1
    have B_p2 := Lib.hid hb2
    clear hb hb1 hb2
    have hn := Fp.trans hHeld hp (fun _ _ h => h.elim)
    replace HCR := Lib.hid (HCR.out.fp hp (fun _ _ h => h))
    replace B_gC := hid_blk B_gC hp
    replace B_tb := hid_blk B_tb hp
    replace B_sl := hid_blk B_sl hp
    replace B_ep := hid_blk B_ep hp
    replace B_e2 := hid_blk B_e2 hp
    refine k_now hK hn ?_
    clear hK K hp hHeld
    have hHeld := hn
    clear hn
    try simp only [Act.put, List.setIfInBounds_toArray, List.set_cons_zero, List.set_cons_succ]
    refine wpAnyH_ready (rs := [4]) (by kernel_rfl) (by simp) ?_
    refine AllReadyH.cons rfl (fun K hK => ?_) AllReadyH.nil
    go_simp
    refine k_gen hK (fun z14 hW => ?_)
    have l2gC := hid_lt B_gC
    have l2tb := hid_lt B_tb
    have l2sl := hid_lt B_sl
    have l2ep := hid_lt B_ep
    have l2e2 := hid_lt B_e2
    have l2pt := hid_lt B_pt
    have l2p1 := hid_lt B_p1
    have l2p2 := hid_lt B_p2
    have hp := new_now hW
    have hB := new_blk hW
    have hGe := Fp.size hHeld
    clear hW
    refine ⟨Fp.trans hHeld hp (fun _ _ h => h.elim), ?_⟩
    have hcl := HCR.out
    replace hHeld := Fp.trans hHeld hp (fun _ _ h => h.elim)
    clear hK K
    try simp only [Act.put, List.setIfInBounds_toArray, List.set_cons_zero, List.set_cons_succ]
    obtain ⟨ss, hss⟩ : ∃ ss, ss = z13.heap.size := ⟨_, rfl⟩
    clear hcl
    replace HCR := Lib.hid (HCR.out.fp hp (fun _ _ h => h))
    have n_gC_ss : ¬ gC = ss := by omega
    clear l2gC
    replace B_gC := hid_blk B_gC hp
    have n_tb_ss : ¬ tb = ss := by omega
    clear l2tb
    replace B_tb := hid_blk B_tb hp
    have n_sl_ss : ¬ sl = ss := by omega
    clear l2sl
    replace B_sl := hid_blk B_sl hp
    have n_ep_ss : ¬ ep = ss := by omega
    clear l2ep
    replace B_ep := hid_blk B_ep hp
    have n_e2_ss : ¬ e2 = ss := by omega
    clear l2e2
    replace B_e2 := hid_blk B_e2 hp
    have n_pt_ss : ¬ pt = ss := by omega
    clear l2pt
    replace B_pt := hid_blk B_pt hp
    have n_p1_ss : ¬ p1 = ss := by omega
    clear l2p1
    replace B_p1 := hid_blk B_p1 hp
    have n_p2_ss : ¬ p2 = ss := by omega
    clear l2p2
    replace B_p2 := hid_blk B_p2 hp
    rw [← hss] at hB ⊢
    have B_ss := hB
    clear hB hss hp hGe
    (refine tk 8 (some 68) ?_ ?_ ?_; rotate_left; (focus (intro wS hSw; go_simp; try with_reducible rfl)); (try simp only [Act.put, List.setIfInBounds_toArray, List.set_cons_zero, List.set_cons_succ]))
    refine wpAnyH_ready (rs := [9]) (by kernel_rfl) (by simp) ?_
    refine AllReadyH.cons rfl (fun K hK => ?_) AllReadyH.nil
    go_simp
    refine k_gen hK (fun z15 hW => ?_)
    have l2gC := hid_lt B_gC
    have l2tb := hid_lt B_tb
    have l2sl := hid_lt B_sl
    have l2ep := hid_lt B_ep
    have l2e2 := hid_lt B_e2
    have l2pt := hid_lt B_pt
    have l2p1 := hid_lt B_p1
    have l2p2 := hid_lt B_p2
    have l2ss := hid_lt B_ss
    have hp := new_now hW
    have hB := new_blk hW
    have hGe := Fp.size hHeld
    clear hW
    refine ⟨Fp.trans hHeld hp (fun _ _ h => h.elim), ?_⟩
    have hcl := HCR.out
    replace hHeld := Fp.trans hHeld hp (fun _ _ h => h.elim)
    clear hK K
    try simp only [Act.put, List.setIfInBounds_toArray, List.set_cons_zero, List.set_cons_succ]
    obtain ⟨g, hg⟩ : ∃ g, g = z14.heap.size := ⟨_, rfl⟩
    have R_g := Lib.hid (show w.heap.size ≤ g from by have h1 := HN.out.size; omega)
    have HCg := Lib.hid (show ∀ b, b ∈ blocks bc bf bm (List.replicate nb []) → ¬ b = g from fun b hb e => by have h1 := hcl.lt hb; omega)
    clear hcl
    replace HCR := Lib.hid (HCR.out.fp hp (fun _ _ h => h))
    have n_gC_g : ¬ gC = g := by omega
    clear l2gC
    replace B_gC := hid_blk B_gC hp
    have n_tb_g : ¬ tb = g := by omega
    clear l2tb
    replace B_tb := hid_blk B_tb hp
    have n_sl_g : ¬ sl = g := by omega
    clear l2sl
    replace B_sl := hid_blk B_sl hp
    have n_ep_g : ¬ ep = g := by omega
    clear l2ep
    replace B_ep := hid_blk B_ep hp
    have n_e2_g : ¬ e2 = g := by omega
    clear l2e2
    replace B_e2 := hid_blk B_e2 hp
    have n_pt_g : ¬ pt = g := by omega
    clear l2pt
    replace B_pt := hid_blk B_pt hp
    have n_p1_g : ¬ p1 = g := by omega
    clear l2p1
    replace B_p1 := hid_blk B_p1 hp
    have n_p2_g : ¬ p2 = g := by omega
    clear l2p2
    replace B_p2 := hid_blk B_p2 hp
    have n_ss_g : ¬ ss = g := by omega
    clear l2ss
    replace B_ss := hid_blk B_ss hp
    rw [← hg] at hB ⊢
    have B_g := hB
    clear hB hg hp hGe
    (refine tk 10 (some 15) ?_ ?_ ?_; rotate_left; (focus (intro wS hSw; go_simp; try with_reducible rfl)); (try simp only [Act.put, List.setIfInBounds_toArray, List.set_cons_zero, List.set_cons_succ]))
    refine wpAnyH_done (by kernel_rfl) ?_ _
    have hGe := hid_ge HN
    replace HN := hid_now HN hHeld
    clear hHeld hGe lgC cgC3
    have cgC5 := cell_at B_gC 5 rfl
    have lgC := hid_lt B_gC
    go_wp2_with fail
    clear cgC5 lgC
    obtain ⟨B, hB⟩ : ∃ B, B = z15.heap.size := ⟨_, rfl⟩
    have HB := Lib.hid hB
    have HgB := Lib.hid (show g < B by rw [hB]; exact hid_lt B_g)
    clear hB
    go_loopg [72, 16, 17] (nw + 1) (fun gg kv _ _ wx => ∃ (i : Nat) (wv : Value) (xs : List Value), i ≤ nw ∧ gg = nw + 1 - i ∧ kv = .int .i64 (i : Int) ∧ wx.heap[g]? = some (.cells #[.pointer (some ⟨tb, 0, none⟩), .int .i64 0, .int .i64 0, .pointer (some ⟨sl, 0, none⟩), .slice (some ⟨ss, 0, none⟩) ns ns, .pointer (some ⟨bc, 0, none⟩), .pointer (some ⟨ep, 0, none⟩), wv, .pointer (some ⟨pt, 0, none⟩), .slice none 0 0] 90 (0, 0)) ∧ wx.ownsRow B 100 1 wv i xs ∧ B ≤ wx.heap.size ∧ Fp (fun b => b = g) z15 wx)
    case atStart => exact ⟨0, _, [], by omega, by omega, rfl, B_g.out, World.ownsRow_nil _ _ _ 1, Nat.le_of_eq HB.out, Fp.refl _ _⟩
    case round =>
      obtain ⟨i, wv, xs, hi, hg, rfl, hb, hO, hBs, hF⟩ := hrel
      have Hg := Lib.hid hg
      have C_g := Lib.hid hb
      have HO := Lib.hid hO
      have HBs := Lib.hid hBs
      have HF := Lib.hid hF
      clear hg hb hO hBs hF
      have C_gC := hid_blkS B_gC HF.out n_gC_g
      by_cases hlt : i < nw
      · have ck : (i : Int) < (nw : Int) := by omega
        have hnw := Hnw.out
        have d5 := cell_at C_gC 5 rfl
        have d6 := cell_at C_gC 6 rfl
        have lC := hid_lt C_gC
        go_wp2_with fail
        refine (show Calls _ _ _ _ _ from K5.out _).mono ?_
        rintro e y1 ⟨gw, gp, gm, rfl, _, _, _, _, _, _, hp⟩
        replace C_g := hid_blk C_g hp
        replace HO := Lib.hid (ownsRow_low0 HO.out hp)
        replace HBs := Lib.hid (Nat.le_trans HBs.out hp.size)
        replace HF := Lib.hid (HF.out.trans hp (fun _ _ h => h.elim))
        clear hp d5 d6 lC C_gC
        have c7 := cell_at C_g 7 rfl
        have zg := froz_at C_g
        have lg := hid_lt C_g
        go_wp2_with (at_builtin; go_must (refine wp_append1 rfl _ _ 86 rfl B 100 whlZ 1 Tryz.underlying86 whlI rfl (by decide) wv i xs rfl (ownsRow_low0 HO.out ((Fp.refl (fun _ => False) y1).alloc _)) y1.heap.size [.pointer (some ⟨gw, 0, none⟩)] rfl rfl (heap_alloc_new y1 _) (by simp [Value.oneCell']) (by omega) (Nat.le_trans HBs.out (by simp)) ?_))
        intro v' w' hown hgr hne hwh
        obtain ⟨gv, cv, rfl⟩ : ∃ gv cv, v' = .slice (some ⟨gv, 0, none⟩) (i + 1) cv := by rcases hown.2 with ⟨h, _⟩ | ⟨g, cap, cur, e, _⟩; (exact absurd h hne); exact ⟨g, cap, e⟩
        have hal : NoW y1 (y1.alloc (.cells #[.pointer (some ⟨gw, 0, none⟩)] 100)) := (Fp.refl _ _).alloc _
        have hnB : ∀ b, b < B → ¬ wv.ownBlock = some b := fun b hb e => by have h1 := (World.ownsRow.lt HO.out b e).1; omega
        have hf : Fp (fun b => wv.ownBlock = some b) (y1.alloc (.cells #[.pointer (some ⟨gw, 0, none⟩)] 100)) w' := Fp.grown (Fp.refl _ _) hgr (fun k e => Or.inr e)
        have hgB := HgB.out
        replace C_g := hid_blkS (hid_blk C_g hal) hf (hnB _ hgB)
        have HO2 := Lib.hid hown
        have HF2 := Lib.hid ((HF.out.trans hal (fun _ _ h => h.elim)).trans hf (fun i hi e => absurd e (hnB i (by have h3 := HB.out; omega))))
        have HBs2 := Lib.hid (Nat.le_trans HBs.out (Nat.le_trans hal.size hf.size))
        clear hown hgr hne hwh hal hnB hf hgB c7 zg lg HO HF HBs
        have c7 := cell_at C_g 7 rfl
        have zg := froz_at C_g
        have lg := hid_lt C_g
        go_wp2_with fail
        clear c7 zg lg
        have hB := set_blk (W := (w'.setCell ⟨g, 7, none⟩ (.slice (some ⟨gv, 0, none⟩) (i + 1) cv))) rfl C_g
        simp only [List.setIfInBounds_toArray, List.set_cons_zero, List.set_cons_succ] at hB
        have hfs := set_now (W := (w'.setCell ⟨g, 7, none⟩ (.slice (some ⟨gv, 0, none⟩) (i + 1) cv))) rfl
        have HO3 := Lib.hid (ownsRow_of_block HO2.out fun x e => hfs.block x (World.ownsRow.lt HO2.out x e).2 (fun e2 => by have h1 : x = g := e2; have h2 := HgB.out; have h3 := (World.ownsRow.lt HO2.out x e).1; omega))
        have HF3 := Lib.hid (HF2.out.trans hfs (fun _ _ e => e))
        have HBs3 := Lib.hid (Nat.le_trans HBs2.out hfs.size)
        clear hfs
        go_roundg (nw - i)
        case measure => have := Hg.out; omega
        case rel => exact ⟨i + 1, _, _, by omega, by omega, by go_num, hB.out, HO3.out, HBs3.out, HF3.out⟩
      · obtain rfl : i = nw := by omega
        go_wp2_with fail
        refine bodyPost_ret (v := .tuple #[.pointer (some ⟨g, 0, none⟩), .int .i64 0]) (by simp only [results, Tryz.results4]; go_simp) rfl ⟨g, tb, sl, ss, bc, bf, bm, ep, wv, pt, p1, p2, rfl, C_g.out, (hid_blkS B_tb HF.out n_tb_g).out, (hid_blkS B_sl HF.out n_sl_g).out, (hid_blkS B_ss HF.out n_ss_g).out, HCR.out.fp HF.out (fun b hb e => HCg.out b hb e), (hid_blkS B_pt HF.out n_pt_g).out, (hid_blkS B_p1 HF.out n_p1_g).out, HN.out.trans HF.out (fun k hk e => by have h1 : k = g := e; have h2 := R_g.out; omega)⟩
end Go.Proofs.YthmokdfigjffjaaGreatDoor
