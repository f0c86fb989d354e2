/- Texts of this proof, merged: Ro Rq Rp. -/
import Derived.Test.YthmokdfigjffjaaGreatDoorMas
import Derived.Test.YthmokdfigjffjaaGreatDoorMav
namespace Go.Proofs.YthmokdfigjffjaaGreatDoor
set_option linter.unusedVariables false
set_option linter.unusedSimpArgs false
open Go.RowKit Go.Lib Go.Sort
theorem intI16 : ∃ i, Tryz.prog.info? 3 = some i ∧ i.zero = some (.int .i64 0) ∧ i.size = 1 ∧ i.bytes ≤ 65536 := by
  obtain ⟨i, a, b, c, d⟩ := intI
  exact ⟨i, a, b, c, by omega⟩
theorem r14_good (n : Nat) (h1 : 1 ≤ n) (h2 : n ≤ 64) (w : World) : Calls Tryz.prog 35 #[.int .i64 n] w (PE 0 w) := by
  go_enter Tryz.func35, Tryz.ntmps35
  have ck1 : ¬ (n : Int) < 1 := by omega
  have ck2 : ¬ (64 : Int) < (n : Int) := by omega
  go_upto_region 4 with fail
  refine wp_gen (fun z1 hW => ?_)
  have hp := new_now hW
  have hB := new_blk hW
  clear hW
  obtain ⟨g, hg⟩ : ∃ g, g = w.heap.size := ⟨_, rfl⟩
  have Rg := Lib.hid (Nat.le_of_eq hg.symm)
  rw [← hg] at hB ⊢
  have B_g := hB
  have HN := Lib.hid hp
  clear hB hp hg
  obtain ⟨B, hB⟩ : ∃ B, B = z1.heap.size := ⟨_, rfl⟩
  have HB := Lib.hid hB
  have HgB := Lib.hid (show g < B by rw [hB]; exact hid_lt B_g)
  have Hn := Lib.hid h2
  clear hB h2 ck1 ck2
  go_wp2_with fail
  go_loopg [5] (n + 1) (fun gg kv wx => ∃ (i : Nat) (wv : Value) (xs : List Value), i ≤ n ∧ gg = n + 1 - i ∧ kv = .int .i64 (i : Int) ∧ wx.heap[g]? = some (.cells #[.int .i64 0, wv, .slice none 0 0] 228 (0, 0)) ∧ wx.ownsRow B 3 1 wv i xs ∧ B ≤ wx.heap.size ∧ Fp (fun b => b = g) z1 wx)
  case atStart => exact ⟨0, _, [], by omega, by omega, rfl, B_g.out, World.ownsRow_nil _ _ _ 1, Nat.le_of_eq HB.out, Fp.refl _ _⟩
  case round =>
    obtain ⟨i, wv, xs, hi, hg, rfl, hb, hO, hBs, hF⟩ := hrel
    have Hg := Lib.hid hg
    have C_g := Lib.hid hb
    have HO := Lib.hid hO
    have HBs := Lib.hid hBs
    have HF := Lib.hid hF
    clear hg hb hO hBs hF
    by_cases hlt : i < n
    · have ck : (i : Int) < (n : Int) := by omega
      have hnw := Hn.out
      have c1 := cell_at C_g 1 rfl
      have zg := froz_at C_g
      have lg := hid_lt C_g
      go_wp2_with (at_builtin; go_must (refine wp_append1 rfl _ _ 75 rfl B 3 (.int .i64 0) 1 Tryz.underlying75 intI16 rfl (by decide) wv i xs rfl (ownsRow_low0 HO.out ((Fp.refl (fun _ => False) wr).alloc _)) wr.heap.size [.int .i64 (-1)] rfl rfl (heap_alloc_new wr _) (by simp [Value.oneCell']) (by omega) (Nat.le_trans HBs.out (by simp)) ?_))
      intro v' w' hown hgr hne hwh
      obtain ⟨gv, cv, rfl⟩ : ∃ gv cv, v' = .slice (some ⟨gv, 0, none⟩) (i + 1) cv := by rcases hown.2 with ⟨h, _⟩ | ⟨g, cap, cur, e, _⟩; (exact absurd h hne); exact ⟨g, cap, e⟩
      have hal : NoW wr (wr.alloc (.cells #[.int .i64 (-1)] 3)) := (Fp.refl _ _).alloc _
      have hnB : ∀ b, b < B → ¬ wv.ownBlock = some b := fun b hb e => by have h1 := (World.ownsRow.lt HO.out b e).1; omega
      have hf : Fp (fun b => wv.ownBlock = some b) (wr.alloc (.cells #[.int .i64 (-1)] 3)) w' := Fp.grown (Fp.refl _ _) hgr (fun k e => Or.inr e)
      have hgB := HgB.out
      replace C_g := hid_blkS (hid_blk C_g hal) hf (hnB _ hgB)
      have HO2 := Lib.hid hown
      have HF2 := Lib.hid ((HF.out.trans hal (fun _ _ h => h.elim)).trans hf (fun i hi e => absurd e (hnB i (by have h3 := HB.out; omega))))
      have HBs2 := Lib.hid (Nat.le_trans HBs.out (Nat.le_trans hal.size hf.size))
      clear hown hgr hne hwh hal hnB hf hgB c1 zg lg HO HF HBs
      have c1 := cell_at C_g 1 rfl
      have zg := froz_at C_g
      have lg := hid_lt C_g
      go_wp2_with fail
      clear c1 zg lg
      have hB := set_blk (W := (w'.setCell ⟨g, 1, none⟩ (.slice (some ⟨gv, 0, none⟩) (i + 1) cv))) rfl C_g
      simp only [List.setIfInBounds_toArray, List.set_cons_zero, List.set_cons_succ] at hB
      have hfs := set_now (W := (w'.setCell ⟨g, 1, none⟩ (.slice (some ⟨gv, 0, none⟩) (i + 1) cv))) rfl
      have HO3 := Lib.hid (ownsRow_of_block HO2.out fun x e => hfs.block x (World.ownsRow.lt HO2.out x e).2 (fun e2 => by have h1 : x = g := e2; have h2 := HgB.out; have h3 := (World.ownsRow.lt HO2.out x e).1; omega))
      have HF3 := Lib.hid (HF2.out.trans hfs (fun _ _ e => e))
      have HBs3 := Lib.hid (Nat.le_trans HBs2.out hfs.size)
      clear hfs
      go_roundg (n - i)
      case measure => have := Hg.out; omega
      case rel => exact ⟨i + 1, _, _, by omega, by omega, by go_num, hB.out, HO3.out, HBs3.out, HF3.out⟩
    · obtain rfl : i = n := by omega
      go_wp2_with fail
      refine bodyPost_ret (v := .tuple #[.pointer (some ⟨g, 0, none⟩), .int .i64 0]) (by simp only [results, Tryz.results35]; go_simp) rfl ⟨some ⟨g, 0, none⟩, rfl, ?_⟩
      exact HN.out.trans HF.out fun k hk e => by have h1 := Rg.out; have h2 : k = g := e; omega
theorem slt13I : ∃ i, Tryz.prog.info? 222 = some i ∧ i.zero = some (.agg #[.int .i64 0, .int .u32 0]) ∧ i.size = 2 ∧ i.bytes ≤ 65536 := by
  have h : ((Tryz.prog.info? 222).map fun i => (i.zero, i.size, decide (i.bytes ≤ 65536))) = some (some (.agg #[.int .i64 0, .int .u32 0]), 2, true) := by kernel_rfl
  rcases hi : Tryz.prog.info? 222 with _ | i
  · simp [hi] at h
  · simp [hi] at h
    exact ⟨i, rfl, h.1, h.2.1, h.2.2⟩
theorem r13_good (n : Nat) (h1 : 1 ≤ n) (h2 : n ≤ 256) (w : World) : Calls Tryz.prog 33 #[.int .i64 n] w (PE 0 w) := by
  go_enter Tryz.func33, Tryz.ntmps33
  have ck1 : ¬ (n : Int) < 1 := by omega
  have ck2 : ¬ (256 : Int) < (n : Int) := by omega
  go_upto_region 4 with fail
  refine wp_gen (fun z1 hW => ?_)
  have hp := new_now hW
  have hB := new_blk hW
  clear hW
  obtain ⟨g, hg⟩ : ∃ g, g = w.heap.size := ⟨_, rfl⟩
  have Rg := Lib.hid (Nat.le_of_eq hg.symm)
  rw [← hg] at hB ⊢
  have B_g := hB
  have HN := Lib.hid hp
  clear hB hp hg
  obtain ⟨B, hB⟩ : ∃ B, B = z1.heap.size := ⟨_, rfl⟩
  have HB := Lib.hid hB
  have HgB := Lib.hid (show g < B by rw [hB]; exact hid_lt B_g)
  have Hn := Lib.hid h2
  clear hB h2 ck1 ck2
  go_wp2_with fail
  go_loopg [5] (n + 1) (fun gg kv wx => ∃ (i : Nat) (wv : Value) (xs : List Value), i ≤ n ∧ gg = n + 1 - i ∧ kv = .int .i64 (i : Int) ∧ wx.heap[g]? = some (.cells #[wv] 220 (0, 0)) ∧ wx.ownsRow B 222 2 wv i xs ∧ B ≤ wx.heap.size ∧ Fp (fun b => b = g) z1 wx)
  case atStart => exact ⟨0, _, [], by omega, by omega, rfl, B_g.out, World.ownsRow_nil _ _ _ 2, Nat.le_of_eq HB.out, Fp.refl _ _⟩
  case round =>
    obtain ⟨i, wv, xs, hi, hg, rfl, hb, hO, hBs, hF⟩ := hrel
    have Hg := Lib.hid hg
    have C_g := Lib.hid hb
    have HO := Lib.hid hO
    have HBs := Lib.hid hBs
    have HF := Lib.hid hF
    clear hg hb hO hBs hF
    by_cases hlt : i < n
    · have ck : (i : Int) < (n : Int) := by omega
      have hnw := Hn.out
      have c1 := cell_at C_g 0 rfl
      have zg := froz_at C_g
      have lg := hid_lt C_g
      go_wp2_with (at_builtin; go_must (refine wp_append1 rfl _ _ 218 rfl B 222 (.agg #[.int .i64 0, .int .u32 0]) 2 Tryz.underlying218 slt13I rfl (by decide) wv i xs rfl (ownsRow_low0 HO.out ((Fp.refl (fun _ => False) wr).alloc _)) wr.heap.size [.int .i64 0, .int .u32 1] rfl rfl (heap_alloc_new wr _) (by simp [Value.oneCell']) (by omega) (Nat.le_trans HBs.out (by simp)) ?_))
      intro v' w' hown hgr hne hwh
      obtain ⟨gv, cv, rfl⟩ : ∃ gv cv, v' = .slice (some ⟨gv, 0, none⟩) (i + 1) cv := by rcases hown.2 with ⟨h, _⟩ | ⟨g, cap, cur, e, _⟩; (exact absurd h hne); exact ⟨g, cap, e⟩
      have hal : NoW wr (wr.alloc (.cells #[.int .i64 0, .int .u32 1] 222)) := (Fp.refl _ _).alloc _
      have hnB : ∀ b, b < B → ¬ wv.ownBlock = some b := fun b hb e => by have h1 := (World.ownsRow.lt HO.out b e).1; omega
      have hf : Fp (fun b => wv.ownBlock = some b) (wr.alloc (.cells #[.int .i64 0, .int .u32 1] 222)) w' := Fp.grown (Fp.refl _ _) hgr (fun k e => Or.inr e)
      have hgB := HgB.out
      replace C_g := hid_blkS (hid_blk C_g hal) hf (hnB _ hgB)
      have HO2 := Lib.hid hown
      have HF2 := Lib.hid ((HF.out.trans hal (fun _ _ h => h.elim)).trans hf (fun i hi e => absurd e (hnB i (by have h3 := HB.out; omega))))
      have HBs2 := Lib.hid (Nat.le_trans HBs.out (Nat.le_trans hal.size hf.size))
      clear hown hgr hne hwh hal hnB hf hgB c1 zg lg HO HF HBs
      have c1 := cell_at C_g 0 rfl
      have zg := froz_at C_g
      have lg := hid_lt C_g
      go_wp2_with fail
      clear c1 zg lg
      have hB := set_blk (W := (w'.setCell ⟨g, 0, none⟩ (.slice (some ⟨gv, 0, none⟩) (i + 1) cv))) rfl C_g
      simp only [List.setIfInBounds_toArray, List.set_cons_zero, List.set_cons_succ] at hB
      have hfs := set_now (W := (w'.setCell ⟨g, 0, none⟩ (.slice (some ⟨gv, 0, none⟩) (i + 1) cv))) rfl
      have HO3 := Lib.hid (ownsRow_of_block HO2.out fun x e => hfs.block x (World.ownsRow.lt HO2.out x e).2 (fun e2 => by have h1 : x = g := e2; have h2 := HgB.out; have h3 := (World.ownsRow.lt HO2.out x e).1; omega))
      have HF3 := Lib.hid (HF2.out.trans hfs (fun _ _ e => e))
      have HBs3 := Lib.hid (Nat.le_trans HBs2.out hfs.size)
      clear hfs
      go_roundg (n - i)
      case measure => have := Hg.out; omega
      case rel => exact ⟨i + 1, _, _, by omega, by omega, by go_num, hB.out, HO3.out, HBs3.out, HF3.out⟩
    · obtain rfl : i = n := by omega
      go_wp2_with fail
      refine bodyPost_ret (v := .tuple #[.pointer (some ⟨g, 0, none⟩), .int .i64 0]) (by simp only [results, Tryz.results33]; go_simp) rfl ⟨some ⟨g, 0, none⟩, rfl, ?_⟩
      exact HN.out.trans HF.out fun k hk e => by have h1 := Rg.out; have h2 : k = g := e; omega
end Go.Proofs.YthmokdfigjffjaaGreatDoor

namespace Go.Proofs.YthmokdfigjffjaaGreatDoor
set_option linter.unusedVariables false
set_option linter.unusedSimpArgs false
open Go.RowKit Go.Lib Go.Sort
set_option maxHeartbeats 1000000 in
theorem rt_size (b : Nat) (hb : b ≤ 32) (w : World) : Calls Tryz.prog 145 #[.int .i64 b] w fun e w' => e = .returned (.int .u64 ((2 ^ (32 - b) : Nat) : Int)) ∧ w' = w := by
  go_enter Tryz.func145, Tryz.ntmps145
  go_wp2_with fail
  go_loop [3, 4] (fun n i => ∃ k : Nat, b ≤ k ∧ k ≤ 32 ∧ i = .int .i64 k ∧ n = .int .u64 ((2 ^ (k - b) : Nat) : Int)) (fun _ i => 32 - (RowKit.intOf i).toNat)
  case atStart => exact ⟨b, Nat.le_refl _, hb, rfl, by simp⟩
  case round =>
    obtain ⟨k, hk1, hk2, rfl, rfl⟩ := hrel
    have hle : 2 ^ (k - b) ≤ 4294967296 := Nat.le_trans (Nat.pow_le_pow_right (by omega) (show k - b ≤ 32 by omega)) (by decide)
    have hsu : 2 ^ (k + 1 - b) = 2 * 2 ^ (k - b) := by rw [show k + 1 - b = k - b + 1 by omega, Nat.pow_succ, Nat.mul_comm]
    by_cases hlt : k < 32
    · have Hsu := Lib.hid hsu
      clear hsu
      generalize 2 ^ (k - b) = q at *
      go_wp2_with fail
      go_round
      case rel => exact ⟨k + 1, by omega, by omega, by go_num, by rw [Hsu.out]; go_num⟩
      case measure => simp [RowKit.intOf]; omega
    · obtain rfl : k = 32 := by omega
      clear hsu
      go_wp2_with fail
      go_ret
      exact ⟨rfl, rfl⟩

set_option maxHeartbeats 1000000 in
theorem rt_may (ip : Nat) (hip : ip < 4294967296) (bits : Int) (w : World) : Calls Tryz.prog 86 #[.agg #[.int .u32 ip, .int .i64 bits]] w (Ret1 (.bool (mayB ip bits)) w) := by
  by_cases h0 : 0 ≤ bits
  · by_cases h1 : bits ≤ 32
    · obtain ⟨b, rfl⟩ : ∃ b : Nat, bits = b := ⟨bits.toNat, by omega⟩
      have hb : b ≤ 32 := by omega
      have h0' : decide ((0 : Int) ≤ (b : Int)) = true := by simp
      have h1' : decide ((b : Int) ≤ 32) = true := by simp; omega
      have hm : mayB ip b = decide (ip % 2 ^ (32 - b) = 0) := by
        unfold mayB
        rw [decide_eq_decide]
        exact ⟨fun h => by simpa using h.2.2, fun h => ⟨by omega, by omega, by simpa using h⟩⟩
      rw [hm]
      have hsize := fun W => rt_size b hb W
      have hq1 : 1 ≤ 2 ^ (32 - b) := Nat.one_le_two_pow
      generalize 2 ^ (32 - b) = q at *
      have hq0 : ((q : Int) == 0) = false := by simp; omega
      have hq0' : ¬ ((q : Int) = 0) := by omega
      have hwi : IntKind.u64.wrap (ip : Int) = ip := by rw [IntKind.wrap_u64]; omega
      have htm : (ip : Int).tmod (q : Int) = ((ip % q : Nat) : Int) := by rw [Int.tmod_eq_emod_of_nonneg (by omega)]; simp
      have hwr : IntKind.u64.wrap ((ip % q : Nat) : Int) = ((ip % q : Nat) : Int) := by
        have := Nat.mod_lt ip (show q > 0 by omega)
        have := Nat.mod_le ip q
        rw [IntKind.wrap_u64]; omega
      generalize ip % q = r at *
      have hrz : ((r : Int) == 0) = decide (r = 0) := by rw [Bool.eq_iff_iff]; simp
      have Hsize := Lib.hid hsize
      clear hsize hm h0 h1 hq1 hip
      go_enter Tryz.func86, Tryz.ntmps86
      go_wp2_with fail
      go_quiet ((go_at_call 145; exact Calls.quiet_of_same (Hsize.out _)))
      go_wp2_with fail
      go_ret
      exact ⟨rfl, ((Fp.refl _ _).alloc _).drewN _⟩
    · have h0' : decide ((0 : Int) ≤ bits) = true := by simpa using h0
      have h1' : decide (bits ≤ 32) = false := by simpa using h1
      have hm : mayB ip bits = false := by unfold mayB; simp [h1]
      rw [hm]
      clear hm h0 h1
      go_enter Tryz.func86, Tryz.ntmps86
      go_wp2_with fail
      go_quiet (fail)
      go_wp2_with fail
      go_ret
      exact ⟨rfl, ((Fp.refl _ _).alloc _).drewN _⟩
  · have h0' : decide ((0 : Int) ≤ bits) = false := by simpa using h0
    have hm : mayB ip bits = false := by unfold mayB; simp [h0]
    rw [hm]
    clear hm h0
    go_enter Tryz.func86, Tryz.ntmps86
    go_wp2_with fail
    go_quiet (fail)
    go_wp2_with fail
    go_ret
    exact ⟨rfl, ((Fp.refl _ _).alloc _).drewN _⟩

set_option maxHeartbeats 1000000 in
theorem rt_has (ip : Nat) (hip : ip < 4294967296) (bits : Int) (a : Nat) (ha : a < 4294967296) (w : World) : Calls Tryz.prog 87 #[.agg #[.int .u32 ip, .int .i64 bits], .int .u32 a] w (Ret1 (.bool (hasB ip bits a)) w) := by
  have hmay := fun W => rt_may ip hip bits W
  have Hmay := Lib.hid hmay
  clear hmay
  rcases hm : mayB ip bits with _ | _
  · have hh : hasB ip bits a = false := by unfold hasB; rw [hm]; rfl
    rw [hh]
    rw [hm] at Hmay
    clear hm hh hip ha
    go_enter Tryz.func87, Tryz.ntmps87
    go_wp2_with fail
    have hc0 : (w.alloc (.cells #[.int .u32 ip, .int .i64 bits] 25)).cell? ⟨w.heap.size, 0, none⟩ = some (.int .u32 ip) := by simp
    have hc1 : (w.alloc (.cells #[.int .u32 ip, .int .i64 bits] 25)).cell? ⟨w.heap.size, 1, none⟩ = some (.int .i64 bits) := by simp
    have hn0 : NoW w (w.alloc (.cells #[.int .u32 ip, .int .i64 bits] 25)) := (Fp.refl _ _).alloc _
    generalize w.alloc (.cells #[.int .u32 ip, .int .i64 bits] 25) = w0 at *
    generalize w.heap.size = g at *
    have h0 := hc0
    have h1 := hc1
    have d0 : w0.drew.cell? ⟨g, 0, none⟩ = some (.int .u32 ip) := hc0
    have d1 := (show w0.drew.cell? ⟨g, 1, none⟩ = _ from hc1)
    have Hn0 := Lib.hid hn0
    clear hn0 hc0 hc1
    have lg : g < w0.heap.size := cell_lt h0
    have H0 := Lib.hid h0
    have H1 := Lib.hid h1
    clear h0 h1 d0 d1
    refine wp_region_held_drew (S := fun wx => NoW w0 wx) (by kernel_rfl) (Fp.drew (Fp.refl _ _)) (fun hHeld => ?_)
    (refine tk 0 (some 5) ?_ ?_ ?_; rotate_left; (focus (intro wS hSw; have c0 := (hSw.cell (p := ⟨g, 0, none⟩) lg id).trans H0.out; have c1 := (hSw.cell (p := ⟨g, 1, none⟩) lg id).trans H1.out; go_simp; try with_reducible rfl)); (try simp only [Act.put, List.setIfInBounds_toArray, List.set_cons_zero, List.set_cons_succ]))
    refine wpAnyH_ready (rs := [1]) (by kernel_rfl) (by simp) ?_
    refine AllReadyH.cons rfl (fun K hK => ?_) AllReadyH.nil
    go_simp
    go_at_call 86
    refine (Hmay.out _).mono ?_
    rintro e w1 ⟨rfl, hp1⟩
    have hn1 : NoW w0 w1 := Fp.trans hHeld hp1 (fun _ _ h => h)
    clear hp1 hHeld
    refine hK.out _ _ hn1 (fun hHeld => ?_)
    clear hK K
    try simp only [Act.put, List.setIfInBounds_toArray, List.set_cons_zero, List.set_cons_succ]
    (refine tk 2 (some 7) ?_ ?_ ?_; rotate_left; (focus (intro wS hSw; go_simp; try with_reducible rfl)); (try simp only [Act.put, List.setIfInBounds_toArray, List.set_cons_zero, List.set_cons_succ]))
    (refine dk 3 (some 8) ?_; (try simp only [Act.put, List.setIfInBounds_toArray, List.set_cons_zero, List.set_cons_succ]))
    (refine dk 4 (some 9) ?_; (try simp only [Act.put, List.setIfInBounds_toArray, List.set_cons_zero, List.set_cons_succ]))
    (refine dk 5 (some 10) ?_; (try simp only [Act.put, List.setIfInBounds_toArray, List.set_cons_zero, List.set_cons_succ]))
    (refine dk 6 (some 11) ?_; (try simp only [Act.put, List.setIfInBounds_toArray, List.set_cons_zero, List.set_cons_succ]))
    (refine dk 7 (some 12) ?_; (try simp only [Act.put, List.setIfInBounds_toArray, List.set_cons_zero, List.set_cons_succ]))
    (refine dk 8 (some 13) ?_; (try simp only [Act.put, List.setIfInBounds_toArray, List.set_cons_zero, List.set_cons_succ]))
    (refine dk 9 (some 14) ?_; (try simp only [Act.put, List.setIfInBounds_toArray, List.set_cons_zero, List.set_cons_succ]))
    (refine dk 10 (some 15) ?_; (try simp only [Act.put, List.setIfInBounds_toArray, List.set_cons_zero, List.set_cons_succ]))
    (refine dk 11 (some 16) ?_; (try simp only [Act.put, List.setIfInBounds_toArray, List.set_cons_zero, List.set_cons_succ]))
    (refine dk 12 (some 17) ?_; (try simp only [Act.put, List.setIfInBounds_toArray, List.set_cons_zero, List.set_cons_succ]))
    (refine dk 13 (some 18) ?_; (try simp only [Act.put, List.setIfInBounds_toArray, List.set_cons_zero, List.set_cons_succ]))
    (refine dk 14 (some 19) ?_; (try simp only [Act.put, List.setIfInBounds_toArray, List.set_cons_zero, List.set_cons_succ]))
    (refine dk 15 (some 20) ?_; (try simp only [Act.put, List.setIfInBounds_toArray, List.set_cons_zero, List.set_cons_succ]))
    (refine dk 16 (some 21) ?_; (try simp only [Act.put, List.setIfInBounds_toArray, List.set_cons_zero, List.set_cons_succ]))
    (refine tk 17 (some 22) ?_ ?_ ?_; rotate_left; (focus (intro wS hSw; go_simp; try with_reducible rfl)); (try simp only [Act.put, List.setIfInBounds_toArray, List.set_cons_zero, List.set_cons_succ]))
    (refine tk 18 (some 4) ?_ ?_ ?_; rotate_left; (focus (intro wS hSw; go_simp; try with_reducible rfl)); (try simp only [Act.put, List.setIfInBounds_toArray, List.set_cons_zero, List.set_cons_succ]))
    refine wpAnyH_done (by kernel_rfl) ?_ _
    go_wp2_with fail
    go_ret
    exact ⟨rfl, Hn0.out.trans hn1 (fun _ _ h => h)⟩
  · have hb : 0 ≤ bits ∧ bits ≤ 32 := by
      unfold mayB at hm
      have := of_decide_eq_true hm
      exact ⟨this.1, this.2.1⟩
    obtain ⟨b, rfl⟩ : ∃ b : Nat, bits = b := ⟨bits.toNat, by omega⟩
    have hb32 : b ≤ 32 := by omega
    have hh : hasB ip b a = decide (a / 2 ^ (32 - b) = ip / 2 ^ (32 - b)) := by unfold hasB; rw [hm]; simp
    rw [hh]
    rw [hm] at Hmay
    have hsize := fun W => rt_size b hb32 W
    have hq1 : 1 ≤ 2 ^ (32 - b) := Nat.one_le_two_pow
    generalize hdd : decide (a / 2 ^ (32 - b) = ip / 2 ^ (32 - b)) = dd at *
    generalize 2 ^ (32 - b) = q at *
    have hq0 : ((q : Int) == 0) = false := by simp; omega
    have hq0' : ¬ ((q : Int) = 0) := by omega
    have hwi : IntKind.u64.wrap (ip : Int) = ip := by rw [IntKind.wrap_u64]; omega
    have hwa : IntKind.u64.wrap (a : Int) = a := by rw [IntKind.wrap_u64]; omega
    have htm : (ip : Int).tdiv (q : Int) = ((ip / q : Nat) : Int) := by rw [Int.tdiv_eq_ediv_of_nonneg (by omega)]; simp
    have htm2 : (a : Int).tdiv (q : Int) = ((a / q : Nat) : Int) := by rw [Int.tdiv_eq_ediv_of_nonneg (by omega)]; simp
    have hl1 : ip / q ≤ ip := Nat.div_le_self _ _
    have hl2 : a / q ≤ a := Nat.div_le_self _ _
    have hz2 : ((((a / q : Nat) : Int)) == ((ip / q : Nat) : Int)) = dd := by rw [← hdd, Bool.eq_iff_iff, beq_iff_eq, decide_eq_true_eq]; omega
    have hq00 : ¬ q = 0 := by omega
    have hq01 : (q == 0) = false := by simpa using hq00
    generalize ip / q = u at *
    generalize a / q = v at *
    have hwr : IntKind.u64.wrap (u : Int) = u := by
      have hu : u < 4294967296 := by omega
      clear hwi hwa
      rw [IntKind.wrap_u64]; omega
    have hwr2 : IntKind.u64.wrap (v : Int) = v := by
      have hv : v < 4294967296 := by omega
      clear hwi hwa hwr
      rw [IntKind.wrap_u64]; omega
    have Hsize := Lib.hid hsize
    clear hsize hm hh hdd hb hip ha hq1 hl1 hl2
    go_enter Tryz.func87, Tryz.ntmps87
    go_wp2_with fail
    have hc0 : (w.alloc (.cells #[.int .u32 ip, .int .i64 b] 25)).cell? ⟨w.heap.size, 0, none⟩ = some (.int .u32 ip) := by simp
    have hc1 : (w.alloc (.cells #[.int .u32 ip, .int .i64 b] 25)).cell? ⟨w.heap.size, 1, none⟩ = some (.int .i64 b) := by simp
    have hn0 : NoW w (w.alloc (.cells #[.int .u32 ip, .int .i64 b] 25)) := (Fp.refl _ _).alloc _
    generalize w.alloc (.cells #[.int .u32 ip, .int .i64 b] 25) = w0 at *
    generalize w.heap.size = g at *
    have h0 := hc0
    have h1 := hc1
    have d0 : w0.drew.cell? ⟨g, 0, none⟩ = some (.int .u32 ip) := hc0
    have d1 := (show w0.drew.cell? ⟨g, 1, none⟩ = _ from hc1)
    have Hn0 := Lib.hid hn0
    clear hn0 hc0 hc1
    have lg : g < w0.heap.size := cell_lt h0
    have hkk : ∀ wx, NoW w0 wx → wx.cell? ⟨g, 0, none⟩ = some (.int .u32 ip) ∧ wx.cell? ⟨g, 1, none⟩ = some (.int .i64 b) :=
      fun wx hn => ⟨(hn.cell (p := ⟨g, 0, none⟩) lg id).trans h0, (hn.cell (p := ⟨g, 1, none⟩) lg id).trans h1⟩
    have Hkk := Lib.hid hkk
    clear hkk h0 h1
    go_region_held3 (fun wx => wx.cell? ⟨g, 0, none⟩ = some (.int .u32 ip) ∧ wx.cell? ⟨g, 1, none⟩ = some (.int .i64 b)) (first | exact Hkk.out _ (Fp.drew (Fp.refl _ _)) | exact Hkk.out _ hn1 | exact Hkk.out _ (hn1))
      (first | (go_at_call 86; refine (Hmay.out _).mono ?_; rintro e w1 ⟨rfl, hp1⟩; have hn1 : NoW w0 w1 := (Fp.drew (Fp.refl _ _)).trans hp1 (fun _ _ h => h); clear hp1) | (go_at_call 145; refine (Hsize.out _).mono ?_; rintro e w2 ⟨rfl, rfl⟩))
    go_wp2_with fail
    go_ret
    exact ⟨rfl, Hn0.out.trans hn1 (fun _ _ h => h)⟩

end Go.Proofs.YthmokdfigjffjaaGreatDoor

namespace Go.Proofs.YthmokdfigjffjaaGreatDoor
set_option linter.unusedVariables false
set_option linter.unusedSimpArgs false
open Go.RowKit Go.Lib Go.Sort
theorem r13_new (n : Int) (w : World) : Calls Tryz.prog 33 #[.int .i64 n] w (PE (eIn n 256) w) := by
  by_cases h : 1 ≤ n ∧ n ≤ 256
  · obtain ⟨m, rfl⟩ := Int.eq_ofNat_of_zero_le (show 0 ≤ n by omega)
    rw [eIn, if_pos h]
    exact r13_good m (by omega) (by omega) w
  rw [eIn, if_neg h]
  refine enterS cx Tryz.func33 rfl rfl rfl [cI .i64 n] _ (st0 w) (okc trivial okn) rfl ?_
  by_cases h1 : n < 1
  · exact Br.yes (decide_eq_true h1) (pe0 (p := none) rfl)
  refine Br.no (decide_eq_false h1) ?_
  exact Br.yes (decide_eq_true (show 256 < n by omega)) (pe0 (p := none) rfl)
theorem r14_new (n : Int) (w : World) : Calls Tryz.prog 35 #[.int .i64 n] w (PE (eIn n 64) w) := by
  by_cases h : 1 ≤ n ∧ n ≤ 64
  · obtain ⟨m, rfl⟩ := Int.eq_ofNat_of_zero_le (show 0 ≤ n by omega)
    rw [eIn, if_pos h]
    exact r14_good m (by omega) (by omega) w
  rw [eIn, if_neg h]
  refine enterS cx Tryz.func35 rfl rfl rfl [cI .i64 n] _ (st0 w) (okc trivial okn) rfl ?_
  by_cases h1 : n < 1
  · exact Br.yes (decide_eq_true h1) (pe0 (p := none) rfl)
  refine Br.no (decide_eq_false h1) ?_
  exact Br.yes (decide_eq_true (show 64 < n by omega)) (pe0 (p := none) rfl)
theorem run_mk19 (n : Nat) (hn : n ≤ 64) (W : World) : ∃ cs, (Instr.makeSlice 223 (.int .i64 n) (.int .i64 n)).run Tryz.prog W = .ok (.slice (some ⟨W.heap.size, 0, none⟩) n n) (W.alloc (.cells cs 514)) := by
  have h : ((Tryz.prog.info? 514).map fun i => (i.zero, i.size, decide (i.bytes ≤ 65536))) = some (some (.slice none 0 0), 1, true) := by kernel_rfl
  rcases hi : Tryz.prog.info? 514 with _ | i
  · simp [hi] at h
  · simp [hi] at h
    obtain ⟨hz, hs, hb⟩ := h
    have hb2 : (i.bytes : Int) * (n : Int) ≤ 281474976710656 := by
      have h := Nat.mul_le_mul hb hn
      have h' : ((i.bytes * n : Nat) : Int) ≤ 16777216 := by omega
      rw [Int.natCast_mul] at h'; omega
    have := run_makeSlice W 223 514 i (.slice none 0 0) Tryz.underlying223 hi hz .i64 .i64 n n (by omega) (by omega) (by rw [hs]; omega) hb2 (by omega)
    exact ⟨_, this⟩
theorem r19_good (n : Nat) (h1 : 1 ≤ n) (h2 : n ≤ 64) (w : World) : Calls Tryz.prog 34 #[.int .i64 n] w (PE 0 w) := by
  have ck1 : ¬ (n : Int) < 1 := by omega
  have ck2 : ¬ (64 : Int) < (n : Int) := by omega
  obtain ⟨cs, km⟩ := run_mk19 n h2 w
  go_enter Tryz.func34, Tryz.ntmps34
  go_wp2_with fail
  refine bodyPost_ret (v := .tuple #[.pointer (some ⟨w.heap.size + 1, 0, none⟩), .int .i64 0]) (by simp only [results, Tryz.results34]; go_simp) rfl ⟨some ⟨w.heap.size + 1, 0, none⟩, rfl, ?_⟩
  exact ((Fp.refl _ _).alloc _).alloc _
theorem r19_new (n : Int) (w : World) : Calls Tryz.prog 34 #[.int .i64 n] w (PE (eIn n 64) w) := by
  by_cases h : 1 ≤ n ∧ n ≤ 64
  · obtain ⟨m, rfl⟩ := Int.eq_ofNat_of_zero_le (show 0 ≤ n by omega)
    rw [eIn, if_pos h]
    exact r19_good m (by omega) (by omega) w
  rw [eIn, if_neg h]
  refine enterS cx Tryz.func34 rfl rfl rfl [cI .i64 n] _ (st0 w) (okc trivial okn) rfl ?_
  by_cases h1 : n < 1
  · exact Br.yes (decide_eq_true h1) (pe0 (p := none) rfl)
  refine Br.no (decide_eq_false h1) ?_
  exact Br.yes (decide_eq_true (show 64 < n by omega)) (pe0 (p := none) rfl)
def eTb (o ip : Nat) (bits : Int) : Int := if mayB ip bits = true ∧ hasB ip bits o = false then 0 else 2
theorem r11_new (o ip : Nat) (bits : Int) (ho : o < 4294967296) (hip : ip < 4294967296) (w : World) : Calls Tryz.prog 32 #[.int .u32 o, .agg #[.int .u32 ip, .int .i64 bits]] w (PE (eTb o ip bits) w) := by
  refine enterS cx Tryz.func32 rfl rfl rfl [cI .u32 o, .e (.a [.i .u32 ip, .i .i64 bits])] _ (st0 w) (okc trivial (okc (by simp [SV.ok, EV.ok, CV.ok]) okn)) rfl ?_
  intro b hb
  have hn := fun cs T => newb (u := 0) (cs := cs) (T := T) hb New.nil
  refine call1v (by exact fun w1 _ => rt_may ip hip bits w1) rfl ?_
  unfold eTb
  by_cases h1 : mayB ip bits = true
  · refine Br.no (by simp [h1]) ?_
    refine call1v (by exact fun w1 _ => rt_has ip hip bits o ho w1) rfl ?_
    by_cases h2 : hasB ip bits o = true
    · rw [if_neg (by simp [h2])]
      exact Br.yes h2 (pew (hn _ _) (p := none) rfl)
    · rw [if_pos ⟨h1, by simpa using h2⟩]
      refine Br.no (by simpa using h2) ?_
      intro c hc
      exact pew (newb hb (newb hc New.nil)) (p := some ⟨c, 0, none⟩) rfl
  · rw [if_neg (by simp [h1])]
    exact Br.yes (by simp [h1]) (pew (hn _ _) (p := none) rfl)
end Go.Proofs.YthmokdfigjffjaaGreatDoor
