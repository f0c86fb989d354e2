/- Texts of this proof, merged: Tm. -/
import Derived.Test.YthmokdfigjffjaaGreatDoorMay
namespace Go.Proofs.YthmokdfigjffjaaGreatDoor
set_option linter.unusedVariables false
set_option linter.unusedSimpArgs false
open Go.RowKit Go.Lib Go.Sort

theorem cellsOfB {w : World} {g : Nat} {l : List Value} {T : TypeId} {fr : Nat × Nat} (hb : w.heap[g]? = some (.cells l.toArray T fr)) (j : Nat) (v : Value) (h : l[j]? = some v) : w.cell? ⟨g, j, none⟩ = some v := by
  simp only [World.cell?, hb]; simpa using h
theorem wordB_ok (g c : Nat) (ws : List Nat) (hw : ∀ x, x ∈ ws → x < 65536) (hl : ws.length ≤ 100) (w : World) {T : TypeId} {fr : Nat × Nat} (hb : w.heap[g]? = some (.cells (ws.map fun n => Value.int .u16 (n : Nat)).toArray T fr)) :
    Calls Tryz.prog 225 #[.slice (some ⟨g, 0, none⟩) ws.length c] w (Ret1 (str (wordsB ws)) w) :=
  r01_word g c ws hw hl w (fun j x hx => cellsOfB hb j _ (by rw [List.getElem?_map, hx]; rfl)) (Array.getElem?_eq_some_iff.1 hb).1
theorem sumB_ok (g c : Nat) (ls : List (List UInt8)) (hw : ∀ x, x ∈ ls → x.length ≤ 600000) (hl : ls.length ≤ 100) (w : World) {T : TypeId} {fr : Nat × Nat} (hb : w.heap[g]? = some (.cells (ls.map str).toArray T fr)) :
    Calls Tryz.prog 166 #[.slice (some ⟨g, 0, none⟩) ls.length c] w fun e w' => e = .returned (.int .u16 (csum ls : Nat)) ∧ w' = w :=
  r02_sum g c ls hw hl w (fun j x hx => cellsOfB hb j _ (by rw [List.getElem?_map, hx]; rfl)) (Array.getElem?_eq_some_iff.1 hb).1

set_option maxHeartbeats 1000000 in
theorem r05_pseudo (src dst pr size : Nat) (h1 : src < 4294967296) (h2 : dst < 4294967296) (h3 : pr < 256) (h4 : size ≤ 1000000) (w : World) :
    Calls Tryz.prog 227 #[.int .u32 src, .int .u32 dst, .int .u8 pr, .int .i64 size] w (Ret1 (str (pseudo src dst pr size)) w) := by
  have K0 := Lib.hid (fun W => r01_put32 src h1 W)
  have K1 := Lib.hid (fun W => r01_put32 dst h2 W)
  have lb0 : (b32 src).length = 4 := rfl
  have lb1 : (b32 dst).length = 4 := rfl
  obtain ⟨s1, hs1⟩ : ∃ s : List UInt8, s = b32 src ++ b32 dst := ⟨_, rfl⟩
  have ls1 : s1.length ≤ 8 := by rw [hs1]; simp [b16_len]; omega
  have as1 : ∀ W, (Op.stringOp .add ⟨(b32 src).toArray⟩ ⟨(b32 dst).toArray⟩).run Tryz.prog W = .ok (str s1) W := fun W => by rw [hs1]; exact run_string_add_lists (P := Tryz.prog) W (b32 src) (b32 dst) (by first | omega | (simp [b16_len]; done) | (simp [b16_len]; omega)) (by first | omega | (simp [b16_len]; done) | (simp [b16_len]; omega))
  have lw : (wordsB [pr, size % 65536]).length = 4 := rfl
  obtain ⟨s2, hs2⟩ : ∃ s : List UInt8, s = s1 ++ wordsB [pr, size % 65536] := ⟨_, rfl⟩
  have ls2 : s2.length ≤ 12 := by rw [hs2]; simp [b16_len]; omega
  have as2 : ∀ W, (Op.stringOp .add ⟨(s1).toArray⟩ ⟨(wordsB [pr, size % 65536]).toArray⟩).run Tryz.prog W = .ok (str s2) W := fun W => by rw [hs2]; exact run_string_add_lists (P := Tryz.prog) W (s1) (wordsB [pr, size % 65536]) (by first | omega | (simp [b16_len]; done) | (simp [b16_len]; omega)) (by first | omega | (simp [b16_len]; done) | (simp [b16_len]; omega))
  have hfin : pseudo src dst pr size = s2 := by rw [hs2, hs1]; simp [pseudo, wordsB]
  rw [hfin]
  have c0 : IntKind.u16.wrap (pr : Int) = (pr : Int) := IntWalk.u16_in _ (by omega)
  obtain ⟨m, hm⟩ : ∃ m, m = size % 65536 := ⟨_, rfl⟩
  have hm65 : m < 65536 := by omega
  have c1 : (size : Int).tmod 65536 = (m : Int) := by rw [Int.tmod_eq_emod_of_nonneg (by omega)]; omega
  have c1' : (size : Int) % 65536 = (m : Int) := by omega
  have c2 : IntKind.i64.wrap (m : Int) = (m : Int) := IntWalk.i64_in _ (by omega)
  have c3 : IntKind.u16.wrap (m : Int) = (m : Int) := IntWalk.u16_in _ (by omega)
  rw [← hm] at as2
  have KW := Lib.hid (fun g c W T fr hb => @wordB_ok g c [pr, m] (by simp; omega) (by simp) W T fr hb)
  generalize wordsB [pr, m] = y at *
  clear hfin hs1 hs2 hm lw lb0 lb1 ls1 ls2
  generalize b32 src = x0 at *
  generalize b32 dst = x1 at *
  go_enter Tryz.func227, Tryz.ntmps227
  go_wp2_with fail
  refine (K0.out _).mono ?_
  rintro e w1 ⟨rfl, hp⟩
  go_wp2_with fail
  refine (K1.out _).mono ?_
  rintro e w2 ⟨rfl, hp2⟩
  go_wp2_with fail
  have hbS := heap_alloc_new w2 (.cells #[.int .u16 (pr : Nat), .int .u16 (m : Nat)] 32)
  have hnS : NoW w2 (w2.alloc (.cells #[.int .u16 (pr : Nat), .int .u16 (m : Nat)] 32)) := (Fp.refl _ _).alloc _
  refine (show Calls _ _ _ _ _ from KW.out _ _ _ _ _ hbS).mono ?_
  rintro e w3 ⟨rfl, hp3⟩
  go_wp2_with fail
  go_ret
  exact ⟨rfl, ((hp.trans hp2 (fun _ _ h => h)).trans hnS (fun _ _ h => h)).trans hp3 (fun _ _ h => h)⟩

set_option maxHeartbeats 1000000 in
set_option maxRecDepth 100000 in
theorem r05_put (a b : Nat) (d : List UInt8) (ha : a < 65536) (hb : b < 65536) (hd : d.length ≤ 100000) (w : World) :
    Calls Tryz.prog 171 #[.agg #[.int .u16 a, .int .u16 b, .int .u16 0, .int .u16 0], str d] w (Ret1 (str (udpRaw a b d)) w) := by
  obtain ⟨m, hm⟩ : ∃ m, m = (8 + d.length) % 65536 := ⟨_, rfl⟩
  have hm65 : m < 65536 := by omega
  have c0 : IntKind.i64.wrap (8 + (d.length : Int)) = 8 + (d.length : Int) := IntWalk.i64_in _ (by omega)
  have c1 : (8 + (d.length : Int)).tmod 65536 = (m : Int) := by rw [Int.tmod_eq_emod_of_nonneg (by omega)]; omega
  have c1' : (8 + (d.length : Int)) % 65536 = (m : Int) := by omega
  have c2 : IntKind.i64.wrap (m : Int) = (m : Int) := IntWalk.i64_in _ (by omega)
  have c3 : IntKind.u16.wrap (m : Int) = (m : Int) := IntWalk.u16_in _ (by omega)
  have lw : (wordsB [a, b, m, 0]).length = 8 := rfl
  obtain ⟨s1, hs1⟩ : ∃ s : List UInt8, s = wordsB [a, b, m, 0] ++ d := ⟨_, rfl⟩
  have ls1 : s1.length ≤ 100008 := by rw [hs1]; simp [b16_len]; omega
  have as1 : ∀ W, (Op.stringOp .add ⟨(wordsB [a, b, m, 0]).toArray⟩ ⟨(d).toArray⟩).run Tryz.prog W = .ok (str s1) W := fun W => by rw [hs1]; exact run_string_add_lists (P := Tryz.prog) W (wordsB [a, b, m, 0]) (d) (by first | omega | (simp [b16_len]; done) | (simp [b16_len]; omega)) (by first | omega | (simp [b16_len]; done) | (simp [b16_len]; omega))
  have hfin : udpRaw a b d = s1 := by rw [hs1, hm]; simp [udpRaw, wordsB]
  rw [hfin]
  have KW := Lib.hid (fun g c W T fr hb => @wordB_ok g c [a, b, m, 0] (by simp; omega) (by simp) W T fr hb)
  generalize wordsB [a, b, m, 0] = y at *
  clear hfin hs1 hm lw ls1
  go_enter Tryz.func171, Tryz.ntmps171
  go_wp2_with fail
  have hn0 : NoW w (w.alloc (.cells #[.int .u16 (a : Nat), .int .u16 (b : Nat), .int .u16 0, .int .u16 0] 366)) := (Fp.refl _ _).alloc _
  have hsz := World.size_alloc w (.cells #[.int .u16 (a : Nat), .int .u16 (b : Nat), .int .u16 0, .int .u16 0] 366)
  generalize w.alloc (.cells #[.int .u16 (a : Nat), .int .u16 (b : Nat), .int .u16 0, .int .u16 0] 366) = w1 at *
  have hbS := heap_alloc_new w1 (.cells #[.int .u16 (a : Nat), .int .u16 (b : Nat), .int .u16 (m : Nat), .int .u16 0] 32)
  have hnS : NoW w1 (w1.alloc (.cells #[.int .u16 (a : Nat), .int .u16 (b : Nat), .int .u16 (m : Nat), .int .u16 0] 32)) := (Fp.refl _ _).alloc _
  have hbS' : (w1.alloc (.cells #[.int .u16 (a : Nat), .int .u16 (b : Nat), .int .u16 (m : Nat), .int .u16 0] 32)).heap[w1.heap.size]? = some (.cells ([a, b, m, 0].map fun n => Value.int .u16 (n : Nat)).toArray 32 (0, 0)) := by rw [hbS]; simp
  have KK := KW.out w1.heap.size 4 _ _ _ hbS'
  rw [hsz] at KK
  clear hbS hbS' KW hsz
  generalize w1.alloc (.cells #[.int .u16 (a : Nat), .int .u16 (b : Nat), .int .u16 (m : Nat), .int .u16 0] 32) = w2 at *
  refine KK.mono ?_
  rintro e w3 ⟨rfl, hp3⟩
  go_wp2_with fail
  go_ret
  exact ⟨rfl, (hn0.trans hnS (fun _ _ h => h)).trans hp3 (fun _ _ h => h)⟩

set_option maxHeartbeats 2000000 in
set_option maxRecDepth 100000 in
theorem r05_seal (src dst : Nat) (s : List UInt8) (h1 : src < 4294967296) (h2 : dst < 4294967296) (h8 : 8 ≤ s.length) (hs : s.length ≤ 100000) (w : World) :
    Calls Tryz.prog 170 #[.int .u32 src, .int .u32 dst, str s] w (Ret1 (str (udpSeal src dst s)) w) := by
  have l0 : (s.take 6).length ≤ 100000 := by simp; omega
  have l1 : (s.drop 8).length ≤ 100000 := by simp; omega
  obtain ⟨t0, ht0⟩ : ∃ t0, t0 = s.take 6 := ⟨_, rfl⟩
  obtain ⟨t1, ht1⟩ : ∃ t1, t1 = s.drop 8 := ⟨_, rfl⟩
  rw [← ht0] at l0
  rw [← ht1] at l1
  obtain ⟨y1, hy1⟩ : ∃ s : List UInt8, s = t0 ++ [0, 0] := ⟨_, rfl⟩
  have ly1 : y1.length ≤ 100002 := by rw [hy1]; simp [b16_len]; omega
  have ay1 : ∀ W, (Op.stringOp .add ⟨(t0).toArray⟩ ⟨#[0, 0]⟩).run Tryz.prog W = .ok (str y1) W := fun W => by rw [hy1]; exact run_string_add_lists (P := Tryz.prog) W (t0) ([0, 0]) (by first | omega | (simp [b16_len]; done) | (simp [b16_len]; omega)) (by first | omega | (simp [b16_len]; done) | (simp [b16_len]; omega))
  obtain ⟨y2, hy2⟩ : ∃ s : List UInt8, s = y1 ++ t1 := ⟨_, rfl⟩
  have ly2 : y2.length ≤ 200002 := by rw [hy2]; simp [b16_len]; omega
  have ay2 : ∀ W, (Op.stringOp .add ⟨(y1).toArray⟩ ⟨(t1).toArray⟩).run Tryz.prog W = .ok (str y2) W := fun W => by rw [hy2]; exact run_string_add_lists (P := Tryz.prog) W (y1) (t1) (by first | omega | (simp [b16_len]; done) | (simp [b16_len]; omega)) (by first | omega | (simp [b16_len]; done) | (simp [b16_len]; omega))
  obtain ⟨pz, hpz⟩ : ∃ pz, pz = pseudo src dst 17 s.length := ⟨_, rfl⟩
  have lpz : pz.length = 12 := by rw [hpz]; rfl
  have KP := Lib.hid (fun W => r05_pseudo src dst 17 s.length h1 h2 (by omega) (by omega) W)
  rw [← hpz] at KP
  obtain ⟨n, hn⟩ : ∃ n, n = csum [pz, y2] := ⟨_, rfl⟩
  have hn65 : n < 65536 := by rw [hn]; unfold csum; omega
  have KS := Lib.hid (fun g c W T fr hb => @sumB_ok g c [pz, y2] (by simp; omega) (by simp) W T fr hb)
  rw [← hn] at KS
  obtain ⟨m, hm⟩ : ∃ m, m = (if n = 0 then 65535 else n) := ⟨_, rfl⟩
  have hm65 : m < 65536 := by rw [hm]; split <;> omega
  have KB := Lib.hid (fun W => r01_put16 m (by omega) W)
  obtain ⟨b2, hb2⟩ : ∃ b2, b2 = b16 m := ⟨_, rfl⟩
  have lb2 : b2.length = 2 := by rw [hb2]; rfl
  rw [← hb2] at KB
  obtain ⟨u1, hu1⟩ : ∃ s : List UInt8, s = t0 ++ b2 := ⟨_, rfl⟩
  have lu1 : u1.length ≤ 100002 := by rw [hu1]; simp [b16_len]; omega
  have au1 : ∀ W, (Op.stringOp .add ⟨(t0).toArray⟩ ⟨(b2).toArray⟩).run Tryz.prog W = .ok (str u1) W := fun W => by rw [hu1]; exact run_string_add_lists (P := Tryz.prog) W (t0) (b2) (by first | omega | (simp [b16_len]; done) | (simp [b16_len]; omega)) (by first | omega | (simp [b16_len]; done) | (simp [b16_len]; omega))
  obtain ⟨u2, hu2⟩ : ∃ s : List UInt8, s = u1 ++ t1 := ⟨_, rfl⟩
  have lu2 : u2.length ≤ 200002 := by rw [hu2]; simp [b16_len]; omega
  have au2 : ∀ W, (Op.stringOp .add ⟨(u1).toArray⟩ ⟨(t1).toArray⟩).run Tryz.prog W = .ok (str u2) W := fun W => by rw [hu2]; exact run_string_add_lists (P := Tryz.prog) W (u1) (t1) (by first | omega | (simp [b16_len]; done) | (simp [b16_len]; omega)) (by first | omega | (simp [b16_len]; done) | (simp [b16_len]; omega))
  have hfin : udpSeal src dst s = u2 := by
    rw [hu2, hu1, hb2]
    rw [hm]
    rw [hn, hpz]
    rw [hy2, hy1, ht0, ht1]
    exact if_neg (by omega)
  rw [hfin]
  have ex0 : (⟨s.toArray⟩ : ByteArray).extract 0 6 = ⟨t0.toArray⟩ := by rw [ext_cut, List.drop_zero, ht0]
  have ex1 : (⟨s.toArray⟩ : ByteArray).extract 8 s.length = ⟨t1.toArray⟩ := by rw [ext_cut, List.take_length, ht1]
  have i0 : (6 : Int) ≤ (s.length : Int) := by omega
  have i1 : (8 : Int) ≤ (s.length : Int) := by omega
  have i2 : ¬ (s.length : Int) < 8 := by omega
  have r0 := run_cutTo s (j := 6) rfl (by omega)
  have r1 := run_cutFrom s (i := 8) rfl (by omega)
  rw [← ht0] at r0
  rw [← ht1] at r1
  clear hfin hy1 hy2 hu1 hu2 ht0 ht1 hb2 ly1 ly2 lu1 lu2 l0 l1 lb2 hpz lpz hn
  have hmm : m = (if n = 0 then 65535 else n) := hm
  have HM := Lib.hid hmm
  clear hm hmm
  go_enter Tryz.func170, Tryz.ntmps170
  go_upto_region 3 with fail
  go_cut [7] (fun s7 wx => s7 = .int .u16 (n : Nat) ∧ NoW w wx)
  case first =>
    refine wp_region_held_drew (S := fun wx => NoW w wx) (by kernel_rfl) (Fp.drew (Fp.refl _ _)) (fun hHeld => ?_)
    generalize w.drew = wd at *
    (refine tk 0 (some 12) ?_ ?_ ?_; rotate_left; (focus (intro wS hSw; go_simp; try with_reducible rfl)); (try simp only [Act.put, List.setIfInBounds_toArray, List.set_cons_zero, List.set_cons_succ]))
    (refine tk 1 (some 13) ?_ ?_ ?_; rotate_left; (focus (intro wS hSw; go_simp; try with_reducible rfl)); (try simp only [Act.put, List.setIfInBounds_toArray, List.set_cons_zero, List.set_cons_succ]))
    (refine tk 2 (some 14) ?_ ?_ ?_; rotate_left; (focus (intro wS hSw; go_simp; try with_reducible rfl)); (try simp only [Act.put, List.setIfInBounds_toArray, List.set_cons_zero, List.set_cons_succ]))
    (refine tk 3 (some 15) ?_ ?_ ?_; rotate_left; (focus (intro wS hSw; go_simp; try with_reducible rfl)); (try simp only [Act.put, List.setIfInBounds_toArray, List.set_cons_zero, List.set_cons_succ]))
    (refine tk 5 (some 17) ?_ ?_ ?_; rotate_left; (focus (intro wS hSw; go_simp; try with_reducible rfl)); (try simp only [Act.put, List.setIfInBounds_toArray, List.set_cons_zero, List.set_cons_succ]))
    (refine tk 6 (some 18) ?_ ?_ ?_; rotate_left; (focus (intro wS hSw; go_simp; try with_reducible rfl)); (try simp only [Act.put, List.setIfInBounds_toArray, List.set_cons_zero, List.set_cons_succ]))
    (refine tk 7 (some 19) ?_ ?_ ?_; rotate_left; (focus (intro wS hSw; go_simp; try with_reducible rfl)); (try simp only [Act.put, List.setIfInBounds_toArray, List.set_cons_zero, List.set_cons_succ]))
    (refine tk 8 (some 20) ?_ ?_ ?_; rotate_left; (focus (intro wS hSw; go_simp; try with_reducible rfl)); (try simp only [Act.put, List.setIfInBounds_toArray, List.set_cons_zero, List.set_cons_succ]))
    (refine tk 9 (some 21) ?_ ?_ ?_; rotate_left; (focus (intro wS hSw; go_simp; try with_reducible rfl)); (try simp only [Act.put, List.setIfInBounds_toArray, List.set_cons_zero, List.set_cons_succ]))
    (refine tk 10 (some 22) ?_ ?_ ?_; rotate_left; (focus (intro wS hSw; go_simp; try with_reducible rfl)); (try simp only [Act.put, List.setIfInBounds_toArray, List.set_cons_zero, List.set_cons_succ]))
    refine wpAnyH_ready (rs := [4]) (by kernel_rfl) (by simp) ?_
    refine AllReadyH.cons rfl (fun K hK => ?_) AllReadyH.nil
    go_simp
    go_at_call 227
    refine (show Calls _ _ _ _ _ from KP.out _).mono ?_
    rintro e w1 ⟨rfl, hp⟩
    have hn : NoW w w1 := Fp.trans hHeld hp (fun _ _ h => h)
    refine hK.out _ _ hn (fun hHeld => ?_)
    clear hK K hn hp
    try simp only [Act.put, List.setIfInBounds_toArray, List.set_cons_zero, List.set_cons_succ]
    refine wpAnyH_ready (rs := [11]) (by kernel_rfl) (by simp) ?_
    refine AllReadyH.cons rfl (fun K hK => ?_) AllReadyH.nil
    go_simp
    have hbgS := heap_alloc_new w1 (.cells #[str pz, str y2] 9)
    refine hK.out _ _ (hHeld.alloc _) (fun hHeld2 => ?_)
    clear hK K hHeld
    try simp only [Act.put, List.setIfInBounds_toArray, List.set_cons_zero, List.set_cons_succ]
    generalize w1.alloc (.cells #[str pz, str y2] 9) = w2 at *
    obtain ⟨gS, hgS⟩ : ∃ gS, gS = w1.heap.size := ⟨_, rfl⟩
    rw [← hgS] at hbgS ⊢
    clear hgS
    have hHeld := hHeld2
    clear hHeld2
    refine wpAnyH_ready (rs := [12]) (by kernel_rfl) (by simp) ?_
    refine AllReadyH.cons rfl (fun K hK => ?_) AllReadyH.nil
    go_simp
    go_at_call 166
    refine (show Calls _ _ _ _ _ from KS.out gS _ _ _ _ hbgS).mono ?_
    rintro e w' ⟨rfl, rfl⟩
    refine hK.out _ _ hHeld (fun hHeld => ?_)
    clear hK K
    try simp only [Act.put, List.setIfInBounds_toArray, List.set_cons_zero, List.set_cons_succ]
    (refine tk 13 (some 7) ?_ ?_ ?_; rotate_left; (focus (intro wS hSw; go_simp; try with_reducible rfl)); (try simp only [Act.put, List.setIfInBounds_toArray, List.set_cons_zero, List.set_cons_succ]))
    refine wpAnyH_done (by kernel_rfl) ?_ _
    go_wp2_with fail
    go_meet
    exact ⟨rfl, hHeld⟩
  case rest =>
    obtain ⟨rfl, hn4⟩ := hcut
    generalize wc = w4 at *
    by_cases hz : n = 0
    · have e0 : ((n : Int) == 0) = true := by rw [hz]; rfl
      obtain rfl : m = 65535 := by rw [HM.out, if_pos hz]
      clear hz HM
      go_wp2_with fail
      (refine wp_region_quiet_below (by kernel_rfl) (by kernel_rfl) ?_; (repeat (quiet_step (exact low_call _ (fun W _ => KB.out W) _ _))); refine wpQuiet_nil ?_; intro wq hw'; have hlow := low_of hw'; clear hw')
      go_wp2_with fail
      go_ret
      exact ⟨rfl, hn4.trans hlow (fun _ _ h => h)⟩
    · have e0 : ((n : Int) == 0) = false := beq_eq_false_iff_ne.2 (by omega)
      obtain rfl : m = n := by rw [HM.out, if_neg hz]
      clear hz HM
      go_wp2_with fail
      (refine wp_region_quiet_below (by kernel_rfl) (by kernel_rfl) ?_; (repeat (quiet_step (exact low_call _ (fun W _ => KB.out W) _ _))); refine wpQuiet_nil ?_; intro wq hw'; have hlow := low_of hw'; clear hw')
      go_wp2_with fail
      go_ret
      exact ⟨rfl, hn4.trans hlow (fun _ _ h => h)⟩

set_option maxHeartbeats 2000000 in
set_option maxRecDepth 100000 in
theorem r06_seal (src dst : Nat) (s : List UInt8) (h1 : src < 4294967296) (h2 : dst < 4294967296) (h8 : 20 ≤ s.length) (hs : s.length ≤ 100000) (w : World) :
    Calls Tryz.prog 169 #[.int .u32 src, .int .u32 dst, str s] w (Ret1 (str (tcpSeal src dst s)) w) := by
  have l0 : (s.take 16).length ≤ 100000 := by simp; omega
  have l1 : (s.drop 18).length ≤ 100000 := by simp; omega
  obtain ⟨t0, ht0⟩ : ∃ t0, t0 = s.take 16 := ⟨_, rfl⟩
  obtain ⟨t1, ht1⟩ : ∃ t1, t1 = s.drop 18 := ⟨_, rfl⟩
  rw [← ht0] at l0
  rw [← ht1] at l1
  obtain ⟨y1, hy1⟩ : ∃ s : List UInt8, s = t0 ++ [0, 0] := ⟨_, rfl⟩
  have ly1 : y1.length ≤ 100002 := by rw [hy1]; simp [b16_len]; omega
  have ay1 : ∀ W, (Op.stringOp .add ⟨(t0).toArray⟩ ⟨#[0, 0]⟩).run Tryz.prog W = .ok (str y1) W := fun W => by rw [hy1]; exact run_string_add_lists (P := Tryz.prog) W (t0) ([0, 0]) (by first | omega | (simp [b16_len]; done) | (simp [b16_len]; omega)) (by first | omega | (simp [b16_len]; done) | (simp [b16_len]; omega))
  obtain ⟨y2, hy2⟩ : ∃ s : List UInt8, s = y1 ++ t1 := ⟨_, rfl⟩
  have ly2 : y2.length ≤ 200002 := by rw [hy2]; simp [b16_len]; omega
  have ay2 : ∀ W, (Op.stringOp .add ⟨(y1).toArray⟩ ⟨(t1).toArray⟩).run Tryz.prog W = .ok (str y2) W := fun W => by rw [hy2]; exact run_string_add_lists (P := Tryz.prog) W (y1) (t1) (by first | omega | (simp [b16_len]; done) | (simp [b16_len]; omega)) (by first | omega | (simp [b16_len]; done) | (simp [b16_len]; omega))
  obtain ⟨pz, hpz⟩ : ∃ pz, pz = pseudo src dst 6 s.length := ⟨_, rfl⟩
  have lpz : pz.length = 12 := by rw [hpz]; rfl
  have KP := Lib.hid (fun W => r05_pseudo src dst 6 s.length h1 h2 (by omega) (by omega) W)
  rw [← hpz] at KP
  obtain ⟨n, hn⟩ : ∃ n, n = csum [pz, y2] := ⟨_, rfl⟩
  have hn65 : n < 65536 := by rw [hn]; unfold csum; omega
  have KS := Lib.hid (fun g c W T fr hb => @sumB_ok g c [pz, y2] (by simp; omega) (by simp) W T fr hb)
  rw [← hn] at KS
  have KB := Lib.hid (fun W => r01_put16 n (by omega) W)
  obtain ⟨b2, hb2⟩ : ∃ b2, b2 = b16 n := ⟨_, rfl⟩
  have lb2 : b2.length = 2 := by rw [hb2]; rfl
  rw [← hb2] at KB
  obtain ⟨u1, hu1⟩ : ∃ s : List UInt8, s = t0 ++ b2 := ⟨_, rfl⟩
  have lu1 : u1.length ≤ 100002 := by rw [hu1]; simp [b16_len]; omega
  have au1 : ∀ W, (Op.stringOp .add ⟨(t0).toArray⟩ ⟨(b2).toArray⟩).run Tryz.prog W = .ok (str u1) W := fun W => by rw [hu1]; exact run_string_add_lists (P := Tryz.prog) W (t0) (b2) (by first | omega | (simp [b16_len]; done) | (simp [b16_len]; omega)) (by first | omega | (simp [b16_len]; done) | (simp [b16_len]; omega))
  obtain ⟨u2, hu2⟩ : ∃ s : List UInt8, s = u1 ++ t1 := ⟨_, rfl⟩
  have lu2 : u2.length ≤ 200002 := by rw [hu2]; simp [b16_len]; omega
  have au2 : ∀ W, (Op.stringOp .add ⟨(u1).toArray⟩ ⟨(t1).toArray⟩).run Tryz.prog W = .ok (str u2) W := fun W => by rw [hu2]; exact run_string_add_lists (P := Tryz.prog) W (u1) (t1) (by first | omega | (simp [b16_len]; done) | (simp [b16_len]; omega)) (by first | omega | (simp [b16_len]; done) | (simp [b16_len]; omega))
  have hfin : tcpSeal src dst s = u2 := by
    rw [hu2, hu1, hb2]
    rw [hn, hpz]
    rw [hy2, hy1, ht0, ht1]
    exact if_neg (by omega)
  rw [hfin]
  have ex0 : (⟨s.toArray⟩ : ByteArray).extract 0 16 = ⟨t0.toArray⟩ := by rw [ext_cut, List.drop_zero, ht0]
  have ex1 : (⟨s.toArray⟩ : ByteArray).extract 18 s.length = ⟨t1.toArray⟩ := by rw [ext_cut, List.take_length, ht1]
  have i0 : (16 : Int) ≤ (s.length : Int) := by omega
  have i1 : (18 : Int) ≤ (s.length : Int) := by omega
  have i2 : ¬ (s.length : Int) < 20 := by omega
  have r0 := run_cutTo s (j := 16) rfl (by omega)
  have r1 := run_cutFrom s (i := 18) rfl (by omega)
  rw [← ht0] at r0
  rw [← ht1] at r1
  clear hfin hy1 hy2 hu1 hu2 ht0 ht1 hb2 ly1 ly2 lu1 lu2 l0 l1 lb2 hpz lpz hn
  go_enter Tryz.func169, Tryz.ntmps169
  go_upto_region 3 with fail
  go_cut [7] (fun s7 wx => s7 = .int .u16 (n : Nat) ∧ NoW w wx)
  case first =>
    refine wp_region_held_drew (S := fun wx => NoW w wx) (by kernel_rfl) (Fp.drew (Fp.refl _ _)) (fun hHeld => ?_)
    generalize w.drew = wd at *
    (refine tk 0 (some 12) ?_ ?_ ?_; rotate_left; (focus (intro wS hSw; go_simp; try with_reducible rfl)); (try simp only [Act.put, List.setIfInBounds_toArray, List.set_cons_zero, List.set_cons_succ]))
    (refine tk 1 (some 13) ?_ ?_ ?_; rotate_left; (focus (intro wS hSw; go_simp; try with_reducible rfl)); (try simp only [Act.put, List.setIfInBounds_toArray, List.set_cons_zero, List.set_cons_succ]))
    (refine tk 2 (some 14) ?_ ?_ ?_; rotate_left; (focus (intro wS hSw; go_simp; try with_reducible rfl)); (try simp only [Act.put, List.setIfInBounds_toArray, List.set_cons_zero, List.set_cons_succ]))
    (refine tk 3 (some 15) ?_ ?_ ?_; rotate_left; (focus (intro wS hSw; go_simp; try with_reducible rfl)); (try simp only [Act.put, List.setIfInBounds_toArray, List.set_cons_zero, List.set_cons_succ]))
    (refine tk 5 (some 17) ?_ ?_ ?_; rotate_left; (focus (intro wS hSw; go_simp; try with_reducible rfl)); (try simp only [Act.put, List.setIfInBounds_toArray, List.set_cons_zero, List.set_cons_succ]))
    (refine tk 6 (some 18) ?_ ?_ ?_; rotate_left; (focus (intro wS hSw; go_simp; try with_reducible rfl)); (try simp only [Act.put, List.setIfInBounds_toArray, List.set_cons_zero, List.set_cons_succ]))
    (refine tk 7 (some 19) ?_ ?_ ?_; rotate_left; (focus (intro wS hSw; go_simp; try with_reducible rfl)); (try simp only [Act.put, List.setIfInBounds_toArray, List.set_cons_zero, List.set_cons_succ]))
    (refine tk 8 (some 20) ?_ ?_ ?_; rotate_left; (focus (intro wS hSw; go_simp; try with_reducible rfl)); (try simp only [Act.put, List.setIfInBounds_toArray, List.set_cons_zero, List.set_cons_succ]))
    (refine tk 9 (some 21) ?_ ?_ ?_; rotate_left; (focus (intro wS hSw; go_simp; try with_reducible rfl)); (try simp only [Act.put, List.setIfInBounds_toArray, List.set_cons_zero, List.set_cons_succ]))
    (refine tk 10 (some 22) ?_ ?_ ?_; rotate_left; (focus (intro wS hSw; go_simp; try with_reducible rfl)); (try simp only [Act.put, List.setIfInBounds_toArray, List.set_cons_zero, List.set_cons_succ]))
    refine wpAnyH_ready (rs := [4]) (by kernel_rfl) (by simp) ?_
    refine AllReadyH.cons rfl (fun K hK => ?_) AllReadyH.nil
    go_simp
    go_at_call 227
    refine (show Calls _ _ _ _ _ from KP.out _).mono ?_
    rintro e w1 ⟨rfl, hp⟩
    have hn : NoW w w1 := Fp.trans hHeld hp (fun _ _ h => h)
    refine hK.out _ _ hn (fun hHeld => ?_)
    clear hK K hn hp
    try simp only [Act.put, List.setIfInBounds_toArray, List.set_cons_zero, List.set_cons_succ]
    refine wpAnyH_ready (rs := [11]) (by kernel_rfl) (by simp) ?_
    refine AllReadyH.cons rfl (fun K hK => ?_) AllReadyH.nil
    go_simp
    have hbgS := heap_alloc_new w1 (.cells #[str pz, str y2] 9)
    refine hK.out _ _ (hHeld.alloc _) (fun hHeld2 => ?_)
    clear hK K hHeld
    try simp only [Act.put, List.setIfInBounds_toArray, List.set_cons_zero, List.set_cons_succ]
    generalize w1.alloc (.cells #[str pz, str y2] 9) = w2 at *
    obtain ⟨gS, hgS⟩ : ∃ gS, gS = w1.heap.size := ⟨_, rfl⟩
    rw [← hgS] at hbgS ⊢
    clear hgS
    have hHeld := hHeld2
    clear hHeld2
    refine wpAnyH_ready (rs := [12]) (by kernel_rfl) (by simp) ?_
    refine AllReadyH.cons rfl (fun K hK => ?_) AllReadyH.nil
    go_simp
    go_at_call 166
    refine (show Calls _ _ _ _ _ from KS.out gS _ _ _ _ hbgS).mono ?_
    rintro e w' ⟨rfl, rfl⟩
    refine hK.out _ _ hHeld (fun hHeld => ?_)
    clear hK K
    try simp only [Act.put, List.setIfInBounds_toArray, List.set_cons_zero, List.set_cons_succ]
    (refine tk 13 (some 7) ?_ ?_ ?_; rotate_left; (focus (intro wS hSw; go_simp; try with_reducible rfl)); (try simp only [Act.put, List.setIfInBounds_toArray, List.set_cons_zero, List.set_cons_succ]))
    refine wpAnyH_done (by kernel_rfl) ?_ _
    go_wp2_with fail
    go_meet
    exact ⟨rfl, hHeld⟩
  case rest =>
    obtain ⟨rfl, hn4⟩ := hcut
    generalize wc = w4 at *
    go_wp2_with fail
    (refine wp_region_quiet_below (by kernel_rfl) (by kernel_rfl) ?_; (repeat (quiet_step (exact low_call _ (fun W _ => KB.out W) _ _))); refine wpQuiet_nil ?_; intro wq hw'; have hlow := low_of hw'; clear hw')
    go_wp2_with fail
    go_ret
    exact ⟨rfl, hn4.trans hlow (fun _ _ h => h)⟩

set_option maxHeartbeats 2000000 in
set_option maxRecDepth 100000 in
theorem r07_seal (s : List UInt8) (h8 : 8 ≤ s.length) (hs : s.length ≤ 100000) (w : World) :
    Calls Tryz.prog 119 #[str s] w (Ret1 (str (icmpSeal s)) w) := by
  have l0 : (s.take 2).length ≤ 100000 := by simp; omega
  have l1 : (s.drop 4).length ≤ 100000 := by simp; omega
  obtain ⟨t0, ht0⟩ : ∃ t0, t0 = s.take 2 := ⟨_, rfl⟩
  obtain ⟨t1, ht1⟩ : ∃ t1, t1 = s.drop 4 := ⟨_, rfl⟩
  rw [← ht0] at l0
  rw [← ht1] at l1
  obtain ⟨y1, hy1⟩ : ∃ s : List UInt8, s = t0 ++ [0, 0] := ⟨_, rfl⟩
  have ly1 : y1.length ≤ 100002 := by rw [hy1]; simp [b16_len]; omega
  have ay1 : ∀ W, (Op.stringOp .add ⟨(t0).toArray⟩ ⟨#[0, 0]⟩).run Tryz.prog W = .ok (str y1) W := fun W => by rw [hy1]; exact run_string_add_lists (P := Tryz.prog) W (t0) ([0, 0]) (by first | omega | (simp [b16_len]; done) | (simp [b16_len]; omega)) (by first | omega | (simp [b16_len]; done) | (simp [b16_len]; omega))
  obtain ⟨y2, hy2⟩ : ∃ s : List UInt8, s = y1 ++ t1 := ⟨_, rfl⟩
  have ly2 : y2.length ≤ 200002 := by rw [hy2]; simp [b16_len]; omega
  have ay2 : ∀ W, (Op.stringOp .add ⟨(y1).toArray⟩ ⟨(t1).toArray⟩).run Tryz.prog W = .ok (str y2) W := fun W => by rw [hy2]; exact run_string_add_lists (P := Tryz.prog) W (y1) (t1) (by first | omega | (simp [b16_len]; done) | (simp [b16_len]; omega)) (by first | omega | (simp [b16_len]; done) | (simp [b16_len]; omega))
  obtain ⟨n, hn⟩ : ∃ n, n = csum [y2] := ⟨_, rfl⟩
  have hn65 : n < 65536 := by rw [hn]; unfold csum; omega
  have KS := Lib.hid (fun g c W T fr hb => @sumB_ok g c [y2] (by simp; omega) (by simp) W T fr hb)
  rw [← hn] at KS
  have KB := Lib.hid (fun W => r01_put16 n (by omega) W)
  obtain ⟨b2, hb2⟩ : ∃ b2, b2 = b16 n := ⟨_, rfl⟩
  have lb2 : b2.length = 2 := by rw [hb2]; rfl
  rw [← hb2] at KB
  obtain ⟨u1, hu1⟩ : ∃ s : List UInt8, s = t0 ++ b2 := ⟨_, rfl⟩
  have lu1 : u1.length ≤ 100002 := by rw [hu1]; simp [b16_len]; omega
  have au1 : ∀ W, (Op.stringOp .add ⟨(t0).toArray⟩ ⟨(b2).toArray⟩).run Tryz.prog W = .ok (str u1) W := fun W => by rw [hu1]; exact run_string_add_lists (P := Tryz.prog) W (t0) (b2) (by first | omega | (simp [b16_len]; done) | (simp [b16_len]; omega)) (by first | omega | (simp [b16_len]; done) | (simp [b16_len]; omega))
  obtain ⟨u2, hu2⟩ : ∃ s : List UInt8, s = u1 ++ t1 := ⟨_, rfl⟩
  have lu2 : u2.length ≤ 200002 := by rw [hu2]; simp [b16_len]; omega
  have au2 : ∀ W, (Op.stringOp .add ⟨(u1).toArray⟩ ⟨(t1).toArray⟩).run Tryz.prog W = .ok (str u2) W := fun W => by rw [hu2]; exact run_string_add_lists (P := Tryz.prog) W (u1) (t1) (by first | omega | (simp [b16_len]; done) | (simp [b16_len]; omega)) (by first | omega | (simp [b16_len]; done) | (simp [b16_len]; omega))
  have hfin : icmpSeal s = u2 := by
    rw [hu2, hu1, hb2]
    rw [hn]
    rw [hy2, hy1, ht0, ht1]
    exact if_neg (by omega)
  rw [hfin]
  have ex0 : (⟨s.toArray⟩ : ByteArray).extract 0 2 = ⟨t0.toArray⟩ := by rw [ext_cut, List.drop_zero, ht0]
  have ex1 : (⟨s.toArray⟩ : ByteArray).extract 4 s.length = ⟨t1.toArray⟩ := by rw [ext_cut, List.take_length, ht1]
  have i0 : (2 : Int) ≤ (s.length : Int) := by omega
  have i1 : (4 : Int) ≤ (s.length : Int) := by omega
  have i2 : ¬ (s.length : Int) < 8 := by omega
  have r0 := run_cutTo s (j := 2) rfl (by omega)
  have r1 := run_cutFrom s (i := 4) rfl (by omega)
  rw [← ht0] at r0
  rw [← ht1] at r1
  clear hfin hy1 hy2 hu1 hu2 ht0 ht1 hb2 ly1 ly2 lu1 lu2 l0 l1 lb2 hn
  go_enter Tryz.func119, Tryz.ntmps119
  go_upto_region 3 with fail
  go_cut [3] (fun s3 wx => s3 = .int .u16 (n : Nat) ∧ NoW w wx)
  case first =>
    refine wp_region_held_drew (S := fun wx => NoW w wx) (by kernel_rfl) (Fp.drew (Fp.refl _ _)) (fun hHeld => ?_)
    generalize w.drew = wd at *
    (refine tk 0 (some 8) ?_ ?_ ?_; rotate_left; (focus (intro wS hSw; go_simp; try with_reducible rfl)); (try simp only [Act.put, List.setIfInBounds_toArray, List.set_cons_zero, List.set_cons_succ]))
    (refine tk 1 (some 9) ?_ ?_ ?_; rotate_left; (focus (intro wS hSw; go_simp; try with_reducible rfl)); (try simp only [Act.put, List.setIfInBounds_toArray, List.set_cons_zero, List.set_cons_succ]))
    (refine tk 2 (some 10) ?_ ?_ ?_; rotate_left; (focus (intro wS hSw; go_simp; try with_reducible rfl)); (try simp only [Act.put, List.setIfInBounds_toArray, List.set_cons_zero, List.set_cons_succ]))
    (refine tk 3 (some 11) ?_ ?_ ?_; rotate_left; (focus (intro wS hSw; go_simp; try with_reducible rfl)); (try simp only [Act.put, List.setIfInBounds_toArray, List.set_cons_zero, List.set_cons_succ]))
    (refine tk 4 (some 12) ?_ ?_ ?_; rotate_left; (focus (intro wS hSw; go_simp; try with_reducible rfl)); (try simp only [Act.put, List.setIfInBounds_toArray, List.set_cons_zero, List.set_cons_succ]))
    (refine tk 5 (some 13) ?_ ?_ ?_; rotate_left; (focus (intro wS hSw; go_simp; try with_reducible rfl)); (try simp only [Act.put, List.setIfInBounds_toArray, List.set_cons_zero, List.set_cons_succ]))
    refine wpAnyH_ready (rs := [6]) (by kernel_rfl) (by simp) ?_
    refine AllReadyH.cons rfl (fun K hK => ?_) AllReadyH.nil
    go_simp
    have hbgS := heap_alloc_new wd (.cells #[str y2] 9)
    refine hK.out _ _ (hHeld.alloc _) (fun hHeld2 => ?_)
    clear hK K hHeld
    try simp only [Act.put, List.setIfInBounds_toArray, List.set_cons_zero, List.set_cons_succ]
    generalize wd.alloc (.cells #[str y2] 9) = w2 at *
    obtain ⟨gS, hgS⟩ : ∃ gS, gS = wd.heap.size := ⟨_, rfl⟩
    rw [← hgS] at hbgS ⊢
    clear hgS
    have hHeld := hHeld2
    clear hHeld2
    refine wpAnyH_ready (rs := [7]) (by kernel_rfl) (by simp) ?_
    refine AllReadyH.cons rfl (fun K hK => ?_) AllReadyH.nil
    go_simp
    go_at_call 166
    refine (show Calls _ _ _ _ _ from KS.out gS _ _ _ _ hbgS).mono ?_
    rintro e w' ⟨rfl, rfl⟩
    refine hK.out _ _ hHeld (fun hHeld => ?_)
    clear hK K
    try simp only [Act.put, List.setIfInBounds_toArray, List.set_cons_zero, List.set_cons_succ]
    (refine tk 8 (some 3) ?_ ?_ ?_; rotate_left; (focus (intro wS hSw; go_simp; try with_reducible rfl)); (try simp only [Act.put, List.setIfInBounds_toArray, List.set_cons_zero, List.set_cons_succ]))
    refine wpAnyH_done (by kernel_rfl) ?_ _
    go_wp2_with fail
    go_meet
    exact ⟨rfl, hHeld⟩
  case rest =>
    obtain ⟨rfl, hn4⟩ := hcut
    generalize wc = w4 at *
    go_wp2_with fail
    (refine wp_region_quiet_below (by kernel_rfl) (by kernel_rfl) ?_; (repeat (quiet_step (exact low_call _ (fun W _ => KB.out W) _ _))); refine wpQuiet_nil ?_; intro wq hw'; have hlow := low_of hw'; clear hw')
    go_wp2_with fail
    go_ret
    exact ⟨rfl, hn4.trans hlow (fun _ _ h => h)⟩

theorem bytes2g {w : World} {g : Nat} {T : TypeId} {fr : Nat × Nat} {x y : Int} (hb : w.heap[g]? = some (.cells #[.int .u8 x, .int .u8 y] T fr)) {a b : Nat} (hx : x = (a : Int)) (hy : y = (b : Int)) (ha : a < 256) (hbb : b < 256) : (convert 355 9 (.slice (some ⟨g, 0, none⟩) 2 2)).run Tryz.prog w = .ok (str [UInt8.ofNat a, UInt8.ofNat b]) w := by
  subst hx; subst hy
  have e0 : (UInt8.ofNat a).toNat = a := by rw [UInt8.toNat_ofNat']; omega
  have e1 : (UInt8.ofNat b).toNat = b := by rw [UInt8.toNat_ofNat']; omega
  exact run_convert_bytes_back (P := Tryz.prog) w 355 9 5 ⟨g, 0, none⟩ 2 [UInt8.ofNat a, UInt8.ofNat b] Tryz.underlying355 Tryz.underlying5 Tryz.underlying9 (fun j hj => by
    have : j = 0 ∨ j = 1 := by simp at hj; omega
    rcases this with rfl | rfl
    · rw [add_eq]; simp [World.cell?, hb, e0]
    · rw [add_eq]; simp [World.cell?, hb, e1])

set_option maxHeartbeats 2000000 in
set_option maxRecDepth 100000 in
theorem r07_put (ty : Nat) (re da : List UInt8) (hty : ty < 256) (hre : re.length = 4) (hd : da.length ≤ 100000) (w : World) :
    Calls Tryz.prog 117 #[.agg #[.int .u8 ty, .int .u8 0, .int .u16 0, str re, str da]] w (Ret1 (.tuple #[str ([UInt8.ofNat ty, 0, 0, 0] ++ re ++ da), .int .i64 0]) w) := by
  have K0 := Lib.hid (fun W => r01_put16 0 (by omega) W)
  obtain ⟨t0, ht0⟩ : ∃ t0 : List UInt8, t0 = [UInt8.ofNat ty, UInt8.ofNat 0] := ⟨_, rfl⟩
  have lt0 : t0.length = 2 := by rw [ht0]; rfl
  obtain ⟨z0, hz0⟩ : ∃ z0, z0 = b16 0 := ⟨_, rfl⟩
  have lz0 : z0.length = 2 := by rw [hz0]; rfl
  rw [← hz0] at K0
  obtain ⟨s1, hs1⟩ : ∃ s : List UInt8, s = t0 ++ z0 := ⟨_, rfl⟩
  have ls1 : s1.length ≤ 4 := by rw [hs1]; simp [b16_len]; omega
  have as1 : ∀ W, (Op.stringOp .add ⟨(t0).toArray⟩ ⟨(z0).toArray⟩).run Tryz.prog W = .ok (str s1) W := fun W => by rw [hs1]; exact run_string_add_lists (P := Tryz.prog) W (t0) (z0) (by first | omega | (simp [b16_len]; done) | (simp [b16_len]; omega)) (by first | omega | (simp [b16_len]; done) | (simp [b16_len]; omega))
  obtain ⟨s2, hs2⟩ : ∃ s : List UInt8, s = s1 ++ re := ⟨_, rfl⟩
  have ls2 : s2.length ≤ 8 := by rw [hs2]; simp [b16_len]; omega
  have as2 : ∀ W, (Op.stringOp .add ⟨(s1).toArray⟩ ⟨(re).toArray⟩).run Tryz.prog W = .ok (str s2) W := fun W => by rw [hs2]; exact run_string_add_lists (P := Tryz.prog) W (s1) (re) (by first | omega | (simp [b16_len]; done) | (simp [b16_len]; omega)) (by first | omega | (simp [b16_len]; done) | (simp [b16_len]; omega))
  obtain ⟨s3, hs3⟩ : ∃ s : List UInt8, s = s2 ++ da := ⟨_, rfl⟩
  have ls3 : s3.length ≤ 100008 := by rw [hs3]; simp [b16_len]; omega
  have as3 : ∀ W, (Op.stringOp .add ⟨(s2).toArray⟩ ⟨(da).toArray⟩).run Tryz.prog W = .ok (str s3) W := fun W => by rw [hs3]; exact run_string_add_lists (P := Tryz.prog) W (s2) (da) (by first | omega | (simp [b16_len]; done) | (simp [b16_len]; omega)) (by first | omega | (simp [b16_len]; done) | (simp [b16_len]; omega))
  have hfin : [UInt8.ofNat ty, 0, 0, 0] ++ re ++ da = s3 := by rw [hs3, hs2, hs1, ht0, hz0]; rfl
  rw [hfin]
  have i0 : ((re.length : Int) != 4) = false := by simp [bne]; omega
  have hcv := Lib.hid (fun (W : World) (g : Nat) (T : TypeId) (fr : Nat × Nat) (hb : W.heap[g]? = some (.cells #[.int .u8 (ty : Nat), .int .u8 0] T fr)) => bytes2g hb (a := ty) (b := 0) rfl rfl hty (by omega))
  rw [← ht0] at hcv
  clear hfin ht0 hz0 lt0 lz0 hs1 hs2 hs3 ls1 ls2 ls3
  go_enter Tryz.func117, Tryz.ntmps117
  go_upto_region 3 with fail
  have hb0 := heap_alloc_new w (.cells #[.int .u8 (ty : Nat), .int .u8 0, .int .u16 0, str re, str da] 280)
  have hn0 : NoW w (w.alloc (.cells #[.int .u8 (ty : Nat), .int .u8 0, .int .u16 0, str re, str da] 280)) := (Fp.refl _ _).alloc _
  generalize w.alloc (.cells #[.int .u8 (ty : Nat), .int .u8 0, .int .u16 0, str re, str da] 280) = w0 at *
  obtain ⟨gB, hgB⟩ : ∃ gB, gB = w.heap.size := ⟨_, rfl⟩
  rw [← hgB] at hb0 ⊢
  clear hgB
  have f0 : w0.cell? ⟨gB, 0, none⟩ = some (.int .u8 (ty : Nat)) := by simp [World.cell?, hb0]
  have f1 : w0.cell? ⟨gB, 1, none⟩ = some (.int .u8 0) := by simp [World.cell?, hb0]
  have f2 : w0.cell? ⟨gB, 2, none⟩ = some (.int .u16 0) := by simp [World.cell?, hb0]
  have f3 : w0.cell? ⟨gB, 3, none⟩ = some (str re) := by simp [World.cell?, hb0]
  have f4 : w0.cell? ⟨gB, 4, none⟩ = some (str da) := by simp [World.cell?, hb0]
  have lB := cell_lt f0
  clear hb0
  go_cut [2, 3] (fun s2 s3' wx => s2 = str s3 ∧ s3' = .int .i64 0 ∧ NoW w0 wx)
  case first =>
    refine wp_region_held_drew (S := fun wx => NoW w0 wx) (by kernel_rfl) (Fp.drew (Fp.refl _ _)) (fun hHeld => ?_)
    generalize w0.drew = wd at *
    (refine tk 0 (some 8) ?_ ?_ ?_; rotate_left; (focus (intro wS hSw; go_simp; try with_reducible rfl)); (try simp only [Act.put, List.setIfInBounds_toArray, List.set_cons_zero, List.set_cons_succ]))
    (refine tk 1 (some 9) ?_ ?_ ?_; rotate_left; (focus (intro wS hSw; (have qt := (hSw.cell (p := ⟨gB, 0, none⟩) lB id).trans f0); go_simp; try with_reducible rfl)); (try simp only [Act.put, List.setIfInBounds_toArray, List.set_cons_zero, List.set_cons_succ]))
    (refine tk 2 (some 10) ?_ ?_ ?_; rotate_left; (focus (intro wS hSw; go_simp; try with_reducible rfl)); (try simp only [Act.put, List.setIfInBounds_toArray, List.set_cons_zero, List.set_cons_succ]))
    (refine tk 3 (some 11) ?_ ?_ ?_; rotate_left; (focus (intro wS hSw; (have qt := (hSw.cell (p := ⟨gB, 1, none⟩) lB id).trans f1); go_simp; try with_reducible rfl)); (try simp only [Act.put, List.setIfInBounds_toArray, List.set_cons_zero, List.set_cons_succ]))
    (refine tk 6 (some 14) ?_ ?_ ?_; rotate_left; (focus (intro wS hSw; go_simp; try with_reducible rfl)); (try simp only [Act.put, List.setIfInBounds_toArray, List.set_cons_zero, List.set_cons_succ]))
    (refine tk 7 (some 15) ?_ ?_ ?_; rotate_left; (focus (intro wS hSw; (have qt := (hSw.cell (p := ⟨gB, 2, none⟩) lB id).trans f2); go_simp; try with_reducible rfl)); (try simp only [Act.put, List.setIfInBounds_toArray, List.set_cons_zero, List.set_cons_succ]))
    (refine tk 10 (some 18) ?_ ?_ ?_; rotate_left; (focus (intro wS hSw; go_simp; try with_reducible rfl)); (try simp only [Act.put, List.setIfInBounds_toArray, List.set_cons_zero, List.set_cons_succ]))
    (refine tk 11 (some 19) ?_ ?_ ?_; rotate_left; (focus (intro wS hSw; (have qt := (hSw.cell (p := ⟨gB, 3, none⟩) lB id).trans f3); go_simp; try with_reducible rfl)); (try simp only [Act.put, List.setIfInBounds_toArray, List.set_cons_zero, List.set_cons_succ]))
    (refine tk 13 (some 21) ?_ ?_ ?_; rotate_left; (focus (intro wS hSw; go_simp; try with_reducible rfl)); (try simp only [Act.put, List.setIfInBounds_toArray, List.set_cons_zero, List.set_cons_succ]))
    (refine tk 14 (some 22) ?_ ?_ ?_; rotate_left; (focus (intro wS hSw; (have qt := (hSw.cell (p := ⟨gB, 4, none⟩) lB id).trans f4); go_simp; try with_reducible rfl)); (try simp only [Act.put, List.setIfInBounds_toArray, List.set_cons_zero, List.set_cons_succ]))
    refine wpAnyH_ready (rs := [4, 8]) (by kernel_rfl) (by simp) ?_
    refine AllReadyH.cons rfl (fun K hK => ?_) (AllReadyH.cons rfl (fun K hK => ?_) AllReadyH.nil)
    · go_simp
      have hbS := heap_alloc_new wd (.cells #[.int .u8 (ty : Nat), .int .u8 0] 5)
      refine hK.out _ _ (hHeld.alloc _) (fun hHeld2 => ?_)
      clear hK K hHeld
      try simp only [Act.put, List.setIfInBounds_toArray, List.set_cons_zero, List.set_cons_succ]
      generalize wd.alloc (.cells #[.int .u8 (ty : Nat), .int .u8 0] 5) = w1 at *
      obtain ⟨gS, hgS⟩ : ∃ gS, gS = wd.heap.size := ⟨_, rfl⟩
      rw [← hgS] at hbS ⊢
      clear hgS
      have hHeld := hHeld2
      clear hHeld2
      refine wpAnyH_ready (rs := [5, 8]) (by kernel_rfl) (by simp) ?_
      refine AllReadyH.cons rfl (fun K hK => ?_) (AllReadyH.cons rfl (fun K hK => ?_) AllReadyH.nil)
      · have cv := hcv.out w1 gS _ _ hbS
        go_simp
        refine hK.out _ _ hHeld (fun hHeld => ?_)
        clear hK K cv
        try simp only [Act.put, List.setIfInBounds_toArray, List.set_cons_zero, List.set_cons_succ]
        refine wpAnyH_ready (rs := [8]) (by kernel_rfl) (by simp) ?_
        refine AllReadyH.cons rfl (fun K hK => ?_) AllReadyH.nil
        go_simp
        go_at_call 165
        refine (show Calls _ _ _ _ _ from K0.out _).mono ?_
        rintro e w2 ⟨rfl, hp⟩
        have hn : NoW w0 w2 := Fp.trans hHeld hp (fun _ _ h => h)
        clear hp
        refine hK.out _ _ hn (fun hHeld => ?_)
        clear hK K hn
        try simp only [Act.put, List.setIfInBounds_toArray, List.set_cons_zero, List.set_cons_succ]
        (refine tk 9 (some 17) ?_ ?_ ?_; rotate_left; (focus (intro wS hSw; go_simp; try with_reducible rfl)); (try simp only [Act.put, List.setIfInBounds_toArray, List.set_cons_zero, List.set_cons_succ]))
        (refine tk 12 (some 20) ?_ ?_ ?_; rotate_left; (focus (intro wS hSw; go_simp; try with_reducible rfl)); (try simp only [Act.put, List.setIfInBounds_toArray, List.set_cons_zero, List.set_cons_succ]))
        (refine tk 15 (some 23) ?_ ?_ ?_; rotate_left; (focus (intro wS hSw; go_simp; try with_reducible rfl)); (try simp only [Act.put, List.setIfInBounds_toArray, List.set_cons_zero, List.set_cons_succ]))
        (refine tk 16 (some 2) ?_ ?_ ?_; rotate_left; (focus (intro wS hSw; go_simp; try with_reducible rfl)); (try simp only [Act.put, List.setIfInBounds_toArray, List.set_cons_zero, List.set_cons_succ]))
        (refine tk 17 (some 3) ?_ ?_ ?_; rotate_left; (focus (intro wS hSw; go_simp; try with_reducible rfl)); (try simp only [Act.put, List.setIfInBounds_toArray, List.set_cons_zero, List.set_cons_succ]))
        refine wpAnyH_done (by kernel_rfl) ?_ _
        go_wp2_with fail
        go_meet
        exact ⟨rfl, rfl, hHeld⟩
      · go_simp
        go_at_call 165
        refine (show Calls _ _ _ _ _ from K0.out _).mono ?_
        rintro e w2 ⟨rfl, hp⟩
        have hn : NoW w0 w2 := Fp.trans hHeld hp (fun _ _ h => h)
        have hbS := (hp.block _ (Array.getElem?_eq_some_iff.1 hbS).1 id).trans hbS
        clear hp
        refine hK.out _ _ hn (fun hHeld => ?_)
        clear hK K hn
        try simp only [Act.put, List.setIfInBounds_toArray, List.set_cons_zero, List.set_cons_succ]
        refine wpAnyH_ready (rs := [5]) (by kernel_rfl) (by simp) ?_
        refine AllReadyH.cons rfl (fun K hK => ?_) AllReadyH.nil
        have cv := hcv.out w2 gS _ _ hbS
        go_simp
        refine hK.out _ _ hHeld (fun hHeld => ?_)
        clear hK K cv
        try simp only [Act.put, List.setIfInBounds_toArray, List.set_cons_zero, List.set_cons_succ]
        (refine tk 9 (some 17) ?_ ?_ ?_; rotate_left; (focus (intro wS hSw; go_simp; try with_reducible rfl)); (try simp only [Act.put, List.setIfInBounds_toArray, List.set_cons_zero, List.set_cons_succ]))
        (refine tk 12 (some 20) ?_ ?_ ?_; rotate_left; (focus (intro wS hSw; go_simp; try with_reducible rfl)); (try simp only [Act.put, List.setIfInBounds_toArray, List.set_cons_zero, List.set_cons_succ]))
        (refine tk 15 (some 23) ?_ ?_ ?_; rotate_left; (focus (intro wS hSw; go_simp; try with_reducible rfl)); (try simp only [Act.put, List.setIfInBounds_toArray, List.set_cons_zero, List.set_cons_succ]))
        (refine tk 16 (some 2) ?_ ?_ ?_; rotate_left; (focus (intro wS hSw; go_simp; try with_reducible rfl)); (try simp only [Act.put, List.setIfInBounds_toArray, List.set_cons_zero, List.set_cons_succ]))
        (refine tk 17 (some 3) ?_ ?_ ?_; rotate_left; (focus (intro wS hSw; go_simp; try with_reducible rfl)); (try simp only [Act.put, List.setIfInBounds_toArray, List.set_cons_zero, List.set_cons_succ]))
        refine wpAnyH_done (by kernel_rfl) ?_ _
        go_wp2_with fail
        go_meet
        exact ⟨rfl, rfl, hHeld⟩
    · go_simp
      go_at_call 165
      refine (show Calls _ _ _ _ _ from K0.out _).mono ?_
      rintro e w1 ⟨rfl, hp⟩
      have hn : NoW w0 w1 := Fp.trans hHeld hp (fun _ _ h => h)
      clear hp
      refine hK.out _ _ hn (fun hHeld => ?_)
      clear hK K hn
      try simp only [Act.put, List.setIfInBounds_toArray, List.set_cons_zero, List.set_cons_succ]
      refine wpAnyH_ready (rs := [4]) (by kernel_rfl) (by simp) ?_
      refine AllReadyH.cons rfl (fun K hK => ?_) AllReadyH.nil
      go_simp
      have hbS := heap_alloc_new w1 (.cells #[.int .u8 (ty : Nat), .int .u8 0] 5)
      refine hK.out _ _ (hHeld.alloc _) (fun hHeld2 => ?_)
      clear hK K hHeld
      try simp only [Act.put, List.setIfInBounds_toArray, List.set_cons_zero, List.set_cons_succ]
      generalize w1.alloc (.cells #[.int .u8 (ty : Nat), .int .u8 0] 5) = w2 at *
      obtain ⟨gS, hgS⟩ : ∃ gS, gS = w1.heap.size := ⟨_, rfl⟩
      rw [← hgS] at hbS ⊢
      clear hgS
      have hHeld := hHeld2
      clear hHeld2
      refine wpAnyH_ready (rs := [5]) (by kernel_rfl) (by simp) ?_
      refine AllReadyH.cons rfl (fun K hK => ?_) AllReadyH.nil
      have cv := hcv.out w2 gS _ _ hbS
      go_simp
      refine hK.out _ _ hHeld (fun hHeld => ?_)
      clear hK K cv
      try simp only [Act.put, List.setIfInBounds_toArray, List.set_cons_zero, List.set_cons_succ]
      (refine tk 9 (some 17) ?_ ?_ ?_; rotate_left; (focus (intro wS hSw; go_simp; try with_reducible rfl)); (try simp only [Act.put, List.setIfInBounds_toArray, List.set_cons_zero, List.set_cons_succ]))
      (refine tk 12 (some 20) ?_ ?_ ?_; rotate_left; (focus (intro wS hSw; go_simp; try with_reducible rfl)); (try simp only [Act.put, List.setIfInBounds_toArray, List.set_cons_zero, List.set_cons_succ]))
      (refine tk 15 (some 23) ?_ ?_ ?_; rotate_left; (focus (intro wS hSw; go_simp; try with_reducible rfl)); (try simp only [Act.put, List.setIfInBounds_toArray, List.set_cons_zero, List.set_cons_succ]))
      (refine tk 16 (some 2) ?_ ?_ ?_; rotate_left; (focus (intro wS hSw; go_simp; try with_reducible rfl)); (try simp only [Act.put, List.setIfInBounds_toArray, List.set_cons_zero, List.set_cons_succ]))
      (refine tk 17 (some 3) ?_ ?_ ?_; rotate_left; (focus (intro wS hSw; go_simp; try with_reducible rfl)); (try simp only [Act.put, List.setIfInBounds_toArray, List.set_cons_zero, List.set_cons_succ]))
      refine wpAnyH_done (by kernel_rfl) ?_ _
      go_wp2_with fail
      go_meet
      exact ⟨rfl, rfl, hHeld⟩
  case rest =>
    obtain ⟨rfl, rfl, hn4⟩ := hcut
    generalize wc = w4 at *
    go_wp2_with fail
    refine bodyPost_ret (v := .tuple #[str s3, .int .i64 0]) (by simp [results, Tryz.results117, go_sem]) rfl ⟨rfl, hn0.trans hn4 (fun _ _ h => h)⟩

set_option maxHeartbeats 2000000 in
set_option maxRecDepth 100000 in
theorem r07_withid (ty n : Nat) (re da : List UInt8) (hn : n < 65536) (hre : re.length = 4) (w : World) :
    Calls Tryz.prog 172 #[.agg #[.int .u8 ty, .int .u8 0, .int .u16 0, str re, str da], .int .u16 n] w (Ret1 (.agg #[.int .u8 ty, .int .u8 0, .int .u16 0, str (b16 n ++ re.drop 2), str da]) w) := by
  have K0 := Lib.hid (fun W => r01_put16 n hn W)
  obtain ⟨z0, hz0⟩ : ∃ z0, z0 = b16 n := ⟨_, rfl⟩
  have lz0 : z0.length = 2 := by rw [hz0]; rfl
  rw [← hz0] at K0
  obtain ⟨rd2, hrd⟩ : ∃ t, t = re.drop 2 := ⟨_, rfl⟩
  have lrd : rd2.length ≤ 4 := by rw [hrd]; simp; omega
  obtain ⟨r2, hr2⟩ : ∃ s : List UInt8, s = z0 ++ rd2 := ⟨_, rfl⟩
  have lr2 : r2.length ≤ 6 := by rw [hr2]; simp [b16_len]; omega
  have ar2 : ∀ W, (Op.stringOp .add ⟨(z0).toArray⟩ ⟨(rd2).toArray⟩).run Tryz.prog W = .ok (str r2) W := fun W => by rw [hr2]; exact run_string_add_lists (P := Tryz.prog) W (z0) (rd2) (by first | omega | (simp [b16_len]; done) | (simp [b16_len]; omega)) (by first | omega | (simp [b16_len]; done) | (simp [b16_len]; omega))
  have hfin : b16 n ++ re.drop 2 = r2 := by rw [hr2, hz0, hrd]
  rw [hfin]
  have i0 : (2 : Int) ≤ (re.length : Int) := by omega
  have ex1 : (⟨re.toArray⟩ : ByteArray).extract 2 re.length = ⟨rd2.toArray⟩ := by rw [ext_cut, List.take_length, hrd]
  clear hfin hz0 lz0 hr2 lr2 lrd hrd hre
  go_enter Tryz.func172, Tryz.ntmps172
  go_upto_region 2 with fail
  have hb0 := heap_alloc_new w (.cells #[.int .u8 (ty : Nat), .int .u8 0, .int .u16 0, str re, str da] 280)
  have hn0 : NoW w (w.alloc (.cells #[.int .u8 (ty : Nat), .int .u8 0, .int .u16 0, str re, str da] 280)) := (Fp.refl _ _).alloc _
  have hsz := World.size_alloc w (.cells #[.int .u8 (ty : Nat), .int .u8 0, .int .u16 0, str re, str da] 280)
  generalize w.alloc (.cells #[.int .u8 (ty : Nat), .int .u8 0, .int .u16 0, str re, str da] 280) = wb at *
  have hbr := heap_alloc_new wb (.cells #[.int .u8 0, .int .u8 0, .int .u16 0, .string ⟨#[]⟩, .string ⟨#[]⟩] 280)
  have hnr : NoW wb (wb.alloc (.cells #[.int .u8 0, .int .u8 0, .int .u16 0, .string ⟨#[]⟩, .string ⟨#[]⟩] 280)) := (Fp.refl _ _).alloc _
  have hbb := (hnr.block _ (Array.getElem?_eq_some_iff.1 hb0).1 id).trans hb0
  have hnw := hn0.trans hnr (fun _ _ h => h)
  rw [hsz] at hbr
  generalize wb.alloc (.cells #[.int .u8 0, .int .u8 0, .int .u16 0, .string ⟨#[]⟩, .string ⟨#[]⟩] 280) = w0 at *
  obtain ⟨gB, hgB⟩ : ∃ gB, gB = w.heap.size := ⟨_, rfl⟩
  rw [← hgB] at hbb hbr ⊢
  have HgB := Lib.hid (show w.heap.size ≤ gB by omega)
  clear hb0 hn0 hsz hnr hgB
  have B0 := Lib.hid hbb
  have R0 := Lib.hid hbr
  have N0 := Lib.hid hnw
  clear hbb hbr hnw
  refine wp_region_held_drew (S := fun wx => Fp (fun b => b = gB) w0 wx) (by kernel_rfl) (Fp.drew (Fp.refl _ _)) (fun hHeld => ?_)
  have Bd : w0.drew.heap[gB]? = some (.cells #[.int .u8 (ty : Nat), .int .u8 0, .int .u16 0, str re, str da] 280) := B0.out
  generalize w0.drew = wd at *
  (refine tk 0 (some 9) ?_ ?_ ?_; rotate_left; (focus (intro wS hSw; go_simp; try with_reducible rfl)); (try simp only [Act.put, List.setIfInBounds_toArray, List.set_cons_zero, List.set_cons_succ]))
  (refine tk 2 (some 11) ?_ ?_ ?_; rotate_left; (focus (intro wS hSw; go_simp; try with_reducible rfl)); (try simp only [Act.put, List.setIfInBounds_toArray, List.set_cons_zero, List.set_cons_succ]))
  refine wpAnyH_ready (rs := [1, 3]) (by kernel_rfl) (by simp) ?_
  refine AllReadyH.cons rfl (fun K hK => ?_) (AllReadyH.cons rfl (fun K hK => ?_) AllReadyH.nil)
  · go_simp
    go_at_call 165
    refine (show Calls _ _ _ _ _ from K0.out _).mono ?_
    rintro e w1 ⟨rfl, hp⟩
    have hn' : Fp (fun b => b = gB) w0 w1 := hHeld.trans hp (fun _ _ h => absurd h id)
    have Bd := (hp.block _ (Array.getElem?_eq_some_iff.1 Bd).1 id).trans Bd
    clear hp
    refine hK.out _ _ hn' (fun hHeld => ?_)
    clear hK K hn'
    try simp only [Act.put, List.setIfInBounds_toArray, List.set_cons_zero, List.set_cons_succ]
    refine wpAnyH_ready (rs := [3]) (by kernel_rfl) (by simp) ?_
    refine AllReadyH.cons rfl (fun K hK => ?_) AllReadyH.nil
    have f3 : w1.cell? ⟨gB, 3, none⟩ = some (str re) := by simp [World.cell?, Bd]
    go_simp
    refine hK.out _ _ hHeld (fun hHeld => ?_)
    clear hK K f3
    try simp only [Act.put, List.setIfInBounds_toArray, List.set_cons_zero, List.set_cons_succ]
    (refine tk 4 (some 13) ?_ ?_ ?_; rotate_left; (focus (intro wS hSw; go_simp; try with_reducible rfl)); (try simp only [Act.put, List.setIfInBounds_toArray, List.set_cons_zero, List.set_cons_succ]))
    (refine tk 5 (some 14) ?_ ?_ ?_; rotate_left; (focus (intro wS hSw; go_simp; try with_reducible rfl)); (try simp only [Act.put, List.setIfInBounds_toArray, List.set_cons_zero, List.set_cons_succ]))
    (refine tk 6 (some 15) ?_ ?_ ?_; rotate_left; (focus (intro wS hSw; go_simp; try with_reducible rfl)); (try simp only [Act.put, List.setIfInBounds_toArray, List.set_cons_zero, List.set_cons_succ]))
    have f3 : w1.cell? ⟨gB, 3, none⟩ = some (str re) := by simp [World.cell?, Bd]
    have zf3 : w1.frozen? ⟨gB, 3, none⟩ = false := by simp [World.frozen?, Bd]
    refine wpAnyH_ready (rs := [7]) (by kernel_rfl) (by simp) ?_
    refine AllReadyH.cons rfl (fun K hK => ?_) AllReadyH.nil
    go_simp
    have hset := heap_set w1 gB 3 _ _ (str r2) Bd
    simp only [List.setIfInBounds_toArray, List.set_cons_zero, List.set_cons_succ] at hset
    have hn3 := hHeld.setCell (p := ⟨gB, 3, none⟩) (Or.inr rfl) (str r2)
    refine hK.out _ _ hn3 (fun hHeld3 => ?_)
    clear hK K hHeld hHeld3 f3 zf3
    try simp only [Act.put, List.setIfInBounds_toArray, List.set_cons_zero, List.set_cons_succ]
    generalize w1.setCell ⟨gB, 3, none⟩ (str r2) = w3 at *
    refine wpAnyH_done (by kernel_rfl) ?_ _
    have hR3 := (hn3.block (gB + 1) (Array.getElem?_eq_some_iff.1 R0.out).1 (by omega)).trans R0.out
    have hN3 := N0.out.trans hn3 (fun i hi e => by have h1 : i = gB := e; have h2 := HgB.out; omega)
    clear hn3 Bd
    have f0 : w3.cell? ⟨gB, 0, none⟩ = some (.int .u8 (ty : Nat)) := by simp [World.cell?, hset]
    have f1 : w3.cell? ⟨gB, 1, none⟩ = some (.int .u8 0) := by simp [World.cell?, hset]
    have f2 : w3.cell? ⟨gB, 2, none⟩ = some (.int .u16 0) := by simp [World.cell?, hset]
    have f3 : w3.cell? ⟨gB, 3, none⟩ = some (str r2) := by simp [World.cell?, hset]
    have f4 : w3.cell? ⟨gB, 4, none⟩ = some (str da) := by simp [World.cell?, hset]
    have lB := cell_lt f0
    have yr0 : w3.cell? ⟨gB + 1, 0, none⟩ = some (.int .u8 0) := by simp [World.cell?, hR3]
    have zyr0 : w3.frozen? ⟨gB + 1, 0, none⟩ = false := by simp [World.frozen?, hR3]
    have yr1 : w3.cell? ⟨gB + 1, 1, none⟩ = some (.int .u8 0) := by simp [World.cell?, hR3]
    have zyr1 : w3.frozen? ⟨gB + 1, 1, none⟩ = false := by simp [World.frozen?, hR3]
    have yr2 : w3.cell? ⟨gB + 1, 2, none⟩ = some (.int .u16 0) := by simp [World.cell?, hR3]
    have zyr2 : w3.frozen? ⟨gB + 1, 2, none⟩ = false := by simp [World.frozen?, hR3]
    have yr3 : w3.cell? ⟨gB + 1, 3, none⟩ = some (.string ⟨#[]⟩) := by simp [World.cell?, hR3]
    have zyr3 : w3.frozen? ⟨gB + 1, 3, none⟩ = false := by simp [World.frozen?, hR3]
    have yr4 : w3.cell? ⟨gB + 1, 4, none⟩ = some (.string ⟨#[]⟩) := by simp [World.cell?, hR3]
    have zyr4 : w3.frozen? ⟨gB + 1, 4, none⟩ = false := by simp [World.frozen?, hR3]
    have lR := cell_lt yr0
    have HR3 := Lib.hid hR3
    have HN3 := Lib.hid hN3
    clear hset hR3 hN3
    go_wp2_with fail
    obtain ⟨W, hW, hb2, hf2⟩ := set5 w3 (gB + 1) 280 (.int .u8 0) (.int .u8 0) (.int .u16 0) (.string ⟨#[]⟩) (.string ⟨#[]⟩) HR3.out (.int .u8 (ty : Nat)) (.int .u8 0) (.int .u16 0) (str r2) (str da)
    rw [← hW]
    clear hW lR lB yr0 zyr0 f0 yr1 zyr1 f1 yr2 zyr2 f2 yr3 zyr3 f3 yr4 zyr4 f4
    have yr0 : W.cell? ⟨gB + 1, 0, none⟩ = some (.int .u8 (ty : Nat)) := by simp [World.cell?, hb2]
    have yr1 : W.cell? ⟨gB + 1, 1, none⟩ = some (.int .u8 0) := by simp [World.cell?, hb2]
    have yr2 : W.cell? ⟨gB + 1, 2, none⟩ = some (.int .u16 0) := by simp [World.cell?, hb2]
    have yr3 : W.cell? ⟨gB + 1, 3, none⟩ = some (str r2) := by simp [World.cell?, hb2]
    have yr4 : W.cell? ⟨gB + 1, 4, none⟩ = some (str da) := by simp [World.cell?, hb2]
    have lR : gB + 1 < W.heap.size := cell_lt yr0
    have HF := Lib.hid (HN3.out.trans hf2 (fun i hi e => by have h1 : i = gB + 1 := e; have h2 := HgB.out; omega))
    clear hf2 hb2
    refine bodyPost_ret (v := .agg #[.int .u8 (ty : Nat), .int .u8 0, .int .u16 0, str r2, str da]) (by simp only [results, Tryz.results172]; go_simp) rfl ⟨rfl, HF.out⟩
  · have f3 : wd.cell? ⟨gB, 3, none⟩ = some (str re) := by simp [World.cell?, Bd]
    go_simp
    refine hK.out _ _ hHeld (fun hHeld => ?_)
    clear hK K f3
    try simp only [Act.put, List.setIfInBounds_toArray, List.set_cons_zero, List.set_cons_succ]
    (refine tk 4 (some 13) ?_ ?_ ?_; rotate_left; (focus (intro wS hSw; go_simp; try with_reducible rfl)); (try simp only [Act.put, List.setIfInBounds_toArray, List.set_cons_zero, List.set_cons_succ]))
    refine wpAnyH_ready (rs := [1]) (by kernel_rfl) (by simp) ?_
    refine AllReadyH.cons rfl (fun K hK => ?_) AllReadyH.nil
    go_simp
    go_at_call 165
    refine (show Calls _ _ _ _ _ from K0.out _).mono ?_
    rintro e w1 ⟨rfl, hp⟩
    have hn' : Fp (fun b => b = gB) w0 w1 := hHeld.trans hp (fun _ _ h => absurd h id)
    have Bd := (hp.block _ (Array.getElem?_eq_some_iff.1 Bd).1 id).trans Bd
    clear hp
    refine hK.out _ _ hn' (fun hHeld => ?_)
    clear hK K hn'
    try simp only [Act.put, List.setIfInBounds_toArray, List.set_cons_zero, List.set_cons_succ]
    (refine tk 5 (some 14) ?_ ?_ ?_; rotate_left; (focus (intro wS hSw; go_simp; try with_reducible rfl)); (try simp only [Act.put, List.setIfInBounds_toArray, List.set_cons_zero, List.set_cons_succ]))
    (refine tk 6 (some 15) ?_ ?_ ?_; rotate_left; (focus (intro wS hSw; go_simp; try with_reducible rfl)); (try simp only [Act.put, List.setIfInBounds_toArray, List.set_cons_zero, List.set_cons_succ]))
    have f3 : w1.cell? ⟨gB, 3, none⟩ = some (str re) := by simp [World.cell?, Bd]
    have zf3 : w1.frozen? ⟨gB, 3, none⟩ = false := by simp [World.frozen?, Bd]
    refine wpAnyH_ready (rs := [7]) (by kernel_rfl) (by simp) ?_
    refine AllReadyH.cons rfl (fun K hK => ?_) AllReadyH.nil
    go_simp
    have hset := heap_set w1 gB 3 _ _ (str r2) Bd
    simp only [List.setIfInBounds_toArray, List.set_cons_zero, List.set_cons_succ] at hset
    have hn3 := hHeld.setCell (p := ⟨gB, 3, none⟩) (Or.inr rfl) (str r2)
    refine hK.out _ _ hn3 (fun hHeld3 => ?_)
    clear hK K hHeld hHeld3 f3 zf3
    try simp only [Act.put, List.setIfInBounds_toArray, List.set_cons_zero, List.set_cons_succ]
    generalize w1.setCell ⟨gB, 3, none⟩ (str r2) = w3 at *
    refine wpAnyH_done (by kernel_rfl) ?_ _
    have hR3 := (hn3.block (gB + 1) (Array.getElem?_eq_some_iff.1 R0.out).1 (by omega)).trans R0.out
    have hN3 := N0.out.trans hn3 (fun i hi e => by have h1 : i = gB := e; have h2 := HgB.out; omega)
    clear hn3 Bd
    have f0 : w3.cell? ⟨gB, 0, none⟩ = some (.int .u8 (ty : Nat)) := by simp [World.cell?, hset]
    have f1 : w3.cell? ⟨gB, 1, none⟩ = some (.int .u8 0) := by simp [World.cell?, hset]
    have f2 : w3.cell? ⟨gB, 2, none⟩ = some (.int .u16 0) := by simp [World.cell?, hset]
    have f3 : w3.cell? ⟨gB, 3, none⟩ = some (str r2) := by simp [World.cell?, hset]
    have f4 : w3.cell? ⟨gB, 4, none⟩ = some (str da) := by simp [World.cell?, hset]
    have lB := cell_lt f0
    have yr0 : w3.cell? ⟨gB + 1, 0, none⟩ = some (.int .u8 0) := by simp [World.cell?, hR3]
    have zyr0 : w3.frozen? ⟨gB + 1, 0, none⟩ = false := by simp [World.frozen?, hR3]
    have yr1 : w3.cell? ⟨gB + 1, 1, none⟩ = some (.int .u8 0) := by simp [World.cell?, hR3]
    have zyr1 : w3.frozen? ⟨gB + 1, 1, none⟩ = false := by simp [World.frozen?, hR3]
    have yr2 : w3.cell? ⟨gB + 1, 2, none⟩ = some (.int .u16 0) := by simp [World.cell?, hR3]
    have zyr2 : w3.frozen? ⟨gB + 1, 2, none⟩ = false := by simp [World.frozen?, hR3]
    have yr3 : w3.cell? ⟨gB + 1, 3, none⟩ = some (.string ⟨#[]⟩) := by simp [World.cell?, hR3]
    have zyr3 : w3.frozen? ⟨gB + 1, 3, none⟩ = false := by simp [World.frozen?, hR3]
    have yr4 : w3.cell? ⟨gB + 1, 4, none⟩ = some (.string ⟨#[]⟩) := by simp [World.cell?, hR3]
    have zyr4 : w3.frozen? ⟨gB + 1, 4, none⟩ = false := by simp [World.frozen?, hR3]
    have lR := cell_lt yr0
    have HR3 := Lib.hid hR3
    have HN3 := Lib.hid hN3
    clear hset hR3 hN3
    go_wp2_with fail
    obtain ⟨W, hW, hb2, hf2⟩ := set5 w3 (gB + 1) 280 (.int .u8 0) (.int .u8 0) (.int .u16 0) (.string ⟨#[]⟩) (.string ⟨#[]⟩) HR3.out (.int .u8 (ty : Nat)) (.int .u8 0) (.int .u16 0) (str r2) (str da)
    rw [← hW]
    clear hW lR lB yr0 zyr0 f0 yr1 zyr1 f1 yr2 zyr2 f2 yr3 zyr3 f3 yr4 zyr4 f4
    have yr0 : W.cell? ⟨gB + 1, 0, none⟩ = some (.int .u8 (ty : Nat)) := by simp [World.cell?, hb2]
    have yr1 : W.cell? ⟨gB + 1, 1, none⟩ = some (.int .u8 0) := by simp [World.cell?, hb2]
    have yr2 : W.cell? ⟨gB + 1, 2, none⟩ = some (.int .u16 0) := by simp [World.cell?, hb2]
    have yr3 : W.cell? ⟨gB + 1, 3, none⟩ = some (str r2) := by simp [World.cell?, hb2]
    have yr4 : W.cell? ⟨gB + 1, 4, none⟩ = some (str da) := by simp [World.cell?, hb2]
    have lR : gB + 1 < W.heap.size := cell_lt yr0
    have HF := Lib.hid (HN3.out.trans hf2 (fun i hi e => by have h1 : i = gB + 1 := e; have h2 := HgB.out; omega))
    clear hf2 hb2
    refine bodyPost_ret (v := .agg #[.int .u8 (ty : Nat), .int .u8 0, .int .u16 0, str r2, str da]) (by simp only [results, Tryz.results172]; go_simp) rfl ⟨rfl, HF.out⟩

set_option maxHeartbeats 4000000 in
set_option maxRecDepth 100000 in
theorem r06_put (a b fl : Nat) (d : List UInt8) (ha : a < 65536) (hb : b < 65536) (hf : fl < 256) (hd : d.length ≤ 100000) (w : World) :
    Calls Tryz.prog 168 #[.agg #[.int .u16 (a : Nat), .int .u16 (b : Nat), .int .u32 1000, .int .u32 2000, .int .u8 0, .int .u8 (fl : Nat), .int .u16 512, .int .u16 0, .int .u16 0, .string ⟨#[]⟩], str d] w (Ret1 (.tuple #[str (tcpRaw a b fl d), .int .i64 0]) w) := by
  have K1 := Lib.hid (fun W => r01_put32 1000 (by omega) W)
  have K2 := Lib.hid (fun W => r01_put32 2000 (by omega) W)
  have KWa := Lib.hid (fun g c W T fr hb => @wordB_ok g c [a, b] (by simp; omega) (by simp) W T fr hb)
  have KWb := Lib.hid (fun g c W T fr hb => @wordB_ok g c [512, 0, 0] (by simp) (by simp) W T fr hb)
  obtain ⟨p1, hp1⟩ : ∃ t, t = b32 1000 := ⟨_, rfl⟩
  have lp1 : p1.length = 4 := by rw [hp1]; rfl
  rw [← hp1] at K1
  obtain ⟨p2, hp2⟩ : ∃ t, t = b32 2000 := ⟨_, rfl⟩
  have lp2 : p2.length = 4 := by rw [hp2]; rfl
  rw [← hp2] at K2
  obtain ⟨y1, hy1⟩ : ∃ t, t = wordsB [a, b] := ⟨_, rfl⟩
  have ly1 : y1.length = 4 := by rw [hy1]; rfl
  rw [← hy1] at KWa
  obtain ⟨y2, hy2⟩ : ∃ t, t = wordsB [512, 0, 0] := ⟨_, rfl⟩
  have ly2 : y2.length = 6 := by rw [hy2]; rfl
  rw [← hy2] at KWb
  obtain ⟨t0, ht0⟩ : ∃ t : List UInt8, t = [UInt8.ofNat 80, UInt8.ofNat fl] := ⟨_, rfl⟩
  have lt0 : t0.length = 2 := by rw [ht0]; rfl
  obtain ⟨s1, hs1⟩ : ∃ s : List UInt8, s = y1 ++ p1 := ⟨_, rfl⟩
  have ls1 : s1.length ≤ 8 := by rw [hs1]; simp [b16_len]; omega
  have as1 : ∀ W, (Op.stringOp .add ⟨(y1).toArray⟩ ⟨(p1).toArray⟩).run Tryz.prog W = .ok (str s1) W := fun W => by rw [hs1]; exact run_string_add_lists (P := Tryz.prog) W (y1) (p1) (by first | omega | (simp [b16_len]; done) | (simp [b16_len]; omega)) (by first | omega | (simp [b16_len]; done) | (simp [b16_len]; omega))
  obtain ⟨s2, hs2⟩ : ∃ s : List UInt8, s = s1 ++ p2 := ⟨_, rfl⟩
  have ls2 : s2.length ≤ 12 := by rw [hs2]; simp [b16_len]; omega
  have as2 : ∀ W, (Op.stringOp .add ⟨(s1).toArray⟩ ⟨(p2).toArray⟩).run Tryz.prog W = .ok (str s2) W := fun W => by rw [hs2]; exact run_string_add_lists (P := Tryz.prog) W (s1) (p2) (by first | omega | (simp [b16_len]; done) | (simp [b16_len]; omega)) (by first | omega | (simp [b16_len]; done) | (simp [b16_len]; omega))
  obtain ⟨s3, hs3⟩ : ∃ s : List UInt8, s = s2 ++ t0 := ⟨_, rfl⟩
  have ls3 : s3.length ≤ 14 := by rw [hs3]; simp [b16_len]; omega
  have as3 : ∀ W, (Op.stringOp .add ⟨(s2).toArray⟩ ⟨(t0).toArray⟩).run Tryz.prog W = .ok (str s3) W := fun W => by rw [hs3]; exact run_string_add_lists (P := Tryz.prog) W (s2) (t0) (by first | omega | (simp [b16_len]; done) | (simp [b16_len]; omega)) (by first | omega | (simp [b16_len]; done) | (simp [b16_len]; omega))
  obtain ⟨s4, hs4⟩ : ∃ s : List UInt8, s = s3 ++ y2 := ⟨_, rfl⟩
  have ls4 : s4.length ≤ 20 := by rw [hs4]; simp [b16_len]; omega
  have as4 : ∀ W, (Op.stringOp .add ⟨(s3).toArray⟩ ⟨(y2).toArray⟩).run Tryz.prog W = .ok (str s4) W := fun W => by rw [hs4]; exact run_string_add_lists (P := Tryz.prog) W (s3) (y2) (by first | omega | (simp [b16_len]; done) | (simp [b16_len]; omega)) (by first | omega | (simp [b16_len]; done) | (simp [b16_len]; omega))
  obtain ⟨s5, hs5⟩ : ∃ s : List UInt8, s = s4 ++ d := ⟨_, rfl⟩
  have ls5 : s5.length ≤ 100020 := by rw [hs5]; simp [b16_len]; omega
  have as5 : ∀ W, (Op.stringOp .add ⟨(s4).toArray⟩ ⟨(d).toArray⟩).run Tryz.prog W = .ok (str s5) W := fun W => by rw [hs5]; exact run_string_add_lists (P := Tryz.prog) W (s4) (d) (by first | omega | (simp [b16_len]; done) | (simp [b16_len]; omega)) (by first | omega | (simp [b16_len]; done) | (simp [b16_len]; omega))
  have as4' : ∀ W, (Op.stringOp .add ⟨s4.toArray⟩ ⟨#[]⟩).run Tryz.prog W = .ok (str s4) W := fun W => by have := run_string_add_lists (P := Tryz.prog) W s4 [] (by omega) (by simp); rw [List.append_nil] at this; exact this
  have hfin : tcpRaw a b fl d = s5 := by rw [hs5, hs4, hs3, hs2, hs1, hy1, hy2, hp1, hp2, ht0]; simp [tcpRaw, wordsB]; try rfl
  rw [hfin]
  have hcv := Lib.hid (fun (W : World) (g : Nat) (T : TypeId) (fr : Nat × Nat) (hb : W.heap[g]? = some (.cells #[.int .u8 80, .int .u8 (fl : Nat)] T fr)) => bytes2g hb (a := 80) (b := fl) rfl rfl (by omega) hf)
  rw [← ht0] at hcv
  clear hfin hs1 ls1 hs2 ls2 hs3 ls3 hs4 ls4 hs5 ls5 hp1 hp2 hy1 hy2 ht0 lp1 lp2 ly1 ly2 lt0
  go_enter Tryz.func168, Tryz.ntmps168
  go_upto_region 3 with fail
  have hb0 := heap_alloc_new w (.cells #[.int .u16 (a : Nat), .int .u16 (b : Nat), .int .u32 1000, .int .u32 2000, .int .u8 0, .int .u8 (fl : Nat), .int .u16 512, .int .u16 0, .int .u16 0, .string ⟨#[]⟩] 362)
  have hn0 : NoW w (w.alloc (.cells #[.int .u16 (a : Nat), .int .u16 (b : Nat), .int .u32 1000, .int .u32 2000, .int .u8 0, .int .u8 (fl : Nat), .int .u16 512, .int .u16 0, .int .u16 0, .string ⟨#[]⟩] 362)) := (Fp.refl _ _).alloc _
  generalize w.alloc (.cells #[.int .u16 (a : Nat), .int .u16 (b : Nat), .int .u32 1000, .int .u32 2000, .int .u8 0, .int .u8 (fl : Nat), .int .u16 512, .int .u16 0, .int .u16 0, .string ⟨#[]⟩] 362) = w0 at *
  obtain ⟨gB, hgB⟩ : ∃ gB, gB = w.heap.size := ⟨_, rfl⟩
  rw [← hgB] at hb0 ⊢
  clear hgB
  have B0 := Lib.hid hb0
  have N0 := Lib.hid hn0
  clear hb0 hn0
  have f0 : w0.cell? ⟨gB, 0, none⟩ = some (.int .u16 (a : Nat)) := by simp [World.cell?, B0.out]
  have f1 : w0.cell? ⟨gB, 1, none⟩ = some (.int .u16 (b : Nat)) := by simp [World.cell?, B0.out]
  have f2 : w0.cell? ⟨gB, 2, none⟩ = some (.int .u32 1000) := by simp [World.cell?, B0.out]
  have f3 : w0.cell? ⟨gB, 3, none⟩ = some (.int .u32 2000) := by simp [World.cell?, B0.out]
  have f4 : w0.cell? ⟨gB, 4, none⟩ = some (.int .u8 0) := by simp [World.cell?, B0.out]
  have f5 : w0.cell? ⟨gB, 5, none⟩ = some (.int .u8 (fl : Nat)) := by simp [World.cell?, B0.out]
  have f6 : w0.cell? ⟨gB, 6, none⟩ = some (.int .u16 512) := by simp [World.cell?, B0.out]
  have f7 : w0.cell? ⟨gB, 7, none⟩ = some (.int .u16 0) := by simp [World.cell?, B0.out]
  have f8 : w0.cell? ⟨gB, 8, none⟩ = some (.int .u16 0) := by simp [World.cell?, B0.out]
  have f9 : w0.cell? ⟨gB, 9, none⟩ = some (.string ⟨#[]⟩) := by simp [World.cell?, B0.out]
  have lB := cell_lt f0
  go_cut [6] (fun s6 wx => s6 = str s2 ∧ NoW w0 wx)
  case first =>
    refine wp_region_held_drew (S := fun wx => NoW w0 wx) (by kernel_rfl) (Fp.drew (Fp.refl _ _)) (fun hHeld => ?_)
    generalize w0.drew = wd at *
    (refine tk 0 (some 23) ?_ ?_ ?_; rotate_left; (focus (intro wS hSw; go_simp; try with_reducible rfl)); (try simp only [Act.put, List.setIfInBounds_toArray, List.set_cons_zero, List.set_cons_succ]))
    (refine tk 1 (some 24) ?_ ?_ ?_; rotate_left; (focus (intro wS hSw; (have qt := (hSw.cell (p := ⟨gB, 0, none⟩) lB id).trans f0); go_simp; try with_reducible rfl)); (try simp only [Act.put, List.setIfInBounds_toArray, List.set_cons_zero, List.set_cons_succ]))
    (refine tk 2 (some 25) ?_ ?_ ?_; rotate_left; (focus (intro wS hSw; go_simp; try with_reducible rfl)); (try simp only [Act.put, List.setIfInBounds_toArray, List.set_cons_zero, List.set_cons_succ]))
    (refine tk 3 (some 26) ?_ ?_ ?_; rotate_left; (focus (intro wS hSw; (have qt := (hSw.cell (p := ⟨gB, 1, none⟩) lB id).trans f1); go_simp; try with_reducible rfl)); (try simp only [Act.put, List.setIfInBounds_toArray, List.set_cons_zero, List.set_cons_succ]))
    (refine tk 6 (some 29) ?_ ?_ ?_; rotate_left; (focus (intro wS hSw; go_simp; try with_reducible rfl)); (try simp only [Act.put, List.setIfInBounds_toArray, List.set_cons_zero, List.set_cons_succ]))
    (refine tk 7 (some 30) ?_ ?_ ?_; rotate_left; (focus (intro wS hSw; (have qt := (hSw.cell (p := ⟨gB, 2, none⟩) lB id).trans f2); go_simp; try with_reducible rfl)); (try simp only [Act.put, List.setIfInBounds_toArray, List.set_cons_zero, List.set_cons_succ]))
    (refine tk 10 (some 33) ?_ ?_ ?_; rotate_left; (focus (intro wS hSw; go_simp; try with_reducible rfl)); (try simp only [Act.put, List.setIfInBounds_toArray, List.set_cons_zero, List.set_cons_succ]))
    (refine tk 11 (some 34) ?_ ?_ ?_; rotate_left; (focus (intro wS hSw; (have qt := (hSw.cell (p := ⟨gB, 3, none⟩) lB id).trans f3); go_simp; try with_reducible rfl)); (try simp only [Act.put, List.setIfInBounds_toArray, List.set_cons_zero, List.set_cons_succ]))
    refine wpAnyH_ready (rs := [4]) (by kernel_rfl) (by simp) ?_
    refine AllReadyH.cons rfl (fun K hK => ?_) AllReadyH.nil
    go_simp
    have hbgS := heap_alloc_new wd (.cells #[.int .u16 (a : Nat), .int .u16 (b : Nat)] 32)
    refine hK.out _ _ (hHeld.alloc _) (fun hHeld2 => ?_)
    clear hK K hHeld
    try simp only [Act.put, List.setIfInBounds_toArray, List.set_cons_zero, List.set_cons_succ]
    generalize wd.alloc (.cells #[.int .u16 (a : Nat), .int .u16 (b : Nat)] 32) = w1 at *
    obtain ⟨gS, hgS⟩ : ∃ gS, gS = wd.heap.size := ⟨_, rfl⟩
    rw [← hgS] at hbgS ⊢
    clear hgS
    have hHeld := hHeld2
    clear hHeld2
    have hbw : w1.heap[gS]? = some (.cells (([a, b] : List Nat).map fun n => Value.int .u16 (n : Nat)).toArray 32 (0, 0)) := by rw [hbgS]; simp
    refine wpAnyH_ready (rs := [5]) (by kernel_rfl) (by simp) ?_
    refine AllReadyH.cons rfl (fun K hK => ?_) AllReadyH.nil
    go_simp
    go_at_call 225
    refine (show Calls _ _ _ _ _ from KWa.out gS _ _ _ _ hbw).mono ?_
    rintro e w2 ⟨rfl, hp⟩
    have hn : NoW w0 w2 := Fp.trans hHeld hp (fun _ _ h => h)
    refine hK.out _ _ hn (fun hHeld => ?_)
    clear hK K hn hp
    try simp only [Act.put, List.setIfInBounds_toArray, List.set_cons_zero, List.set_cons_succ]
    clear hbw hbgS
    refine wpAnyH_ready (rs := [8]) (by kernel_rfl) (by simp) ?_
    refine AllReadyH.cons rfl (fun K hK => ?_) AllReadyH.nil
    go_simp
    go_at_call 226
    refine (show Calls _ _ _ _ _ from K1.out _).mono ?_
    rintro e w3 ⟨rfl, hp⟩
    have hn : NoW w0 w3 := Fp.trans hHeld hp (fun _ _ h => h)
    refine hK.out _ _ hn (fun hHeld => ?_)
    clear hK K hn hp
    try simp only [Act.put, List.setIfInBounds_toArray, List.set_cons_zero, List.set_cons_succ]
    (refine tk 9 (some 32) ?_ ?_ ?_; rotate_left; (focus (intro wS hSw; go_simp; try with_reducible rfl)); (try simp only [Act.put, List.setIfInBounds_toArray, List.set_cons_zero, List.set_cons_succ]))
    refine wpAnyH_ready (rs := [12]) (by kernel_rfl) (by simp) ?_
    refine AllReadyH.cons rfl (fun K hK => ?_) AllReadyH.nil
    go_simp
    go_at_call 226
    refine (show Calls _ _ _ _ _ from K2.out _).mono ?_
    rintro e w4 ⟨rfl, hp⟩
    have hn : NoW w0 w4 := Fp.trans hHeld hp (fun _ _ h => h)
    refine hK.out _ _ hn (fun hHeld => ?_)
    clear hK K hn hp
    try simp only [Act.put, List.setIfInBounds_toArray, List.set_cons_zero, List.set_cons_succ]
    (refine tk 13 (some 36) ?_ ?_ ?_; rotate_left; (focus (intro wS hSw; go_simp; try with_reducible rfl)); (try simp only [Act.put, List.setIfInBounds_toArray, List.set_cons_zero, List.set_cons_succ]))
    (refine tk 14 (some 6) ?_ ?_ ?_; rotate_left; (focus (intro wS hSw; go_simp; try with_reducible rfl)); (try simp only [Act.put, List.setIfInBounds_toArray, List.set_cons_zero, List.set_cons_succ]))
    refine wpAnyH_done (by kernel_rfl) ?_ _
    go_wp2_with fail
    go_meet
    exact ⟨rfl, hHeld⟩
  case rest =>
    obtain ⟨rfl, hn4⟩ := hcut
    generalize wc = w4 at *
    have B4 := Lib.hid ((hn4.block _ (Array.getElem?_eq_some_iff.1 B0.out).1 id).trans B0.out)
    have N4 := Lib.hid (N0.out.trans hn4 (fun _ _ h => h))
    clear hn4 B0 N0 lB f0 f1 f2 f3 f4 f5 f6 f7 f8 f9
    have f0 : w4.cell? ⟨gB, 0, none⟩ = some (.int .u16 (a : Nat)) := by simp [World.cell?, B4.out]
    have f1 : w4.cell? ⟨gB, 1, none⟩ = some (.int .u16 (b : Nat)) := by simp [World.cell?, B4.out]
    have f2 : w4.cell? ⟨gB, 2, none⟩ = some (.int .u32 1000) := by simp [World.cell?, B4.out]
    have f3 : w4.cell? ⟨gB, 3, none⟩ = some (.int .u32 2000) := by simp [World.cell?, B4.out]
    have f4 : w4.cell? ⟨gB, 4, none⟩ = some (.int .u8 0) := by simp [World.cell?, B4.out]
    have f5 : w4.cell? ⟨gB, 5, none⟩ = some (.int .u8 (fl : Nat)) := by simp [World.cell?, B4.out]
    have f6 : w4.cell? ⟨gB, 6, none⟩ = some (.int .u16 512) := by simp [World.cell?, B4.out]
    have f7 : w4.cell? ⟨gB, 7, none⟩ = some (.int .u16 0) := by simp [World.cell?, B4.out]
    have f8 : w4.cell? ⟨gB, 8, none⟩ = some (.int .u16 0) := by simp [World.cell?, B4.out]
    have f9 : w4.cell? ⟨gB, 9, none⟩ = some (.string ⟨#[]⟩) := by simp [World.cell?, B4.out]
    have lB := cell_lt f0
    have hbT := heap_alloc_new w4 (.cells #[.int .u8 80, .int .u8 (fl : Nat)] 5)
    have cv := hcv.out _ _ _ _ hbT
    clear hbT
    go_upto_region 5 with fail
    have hnT : NoW w4 (w4.alloc (.cells #[.int .u8 80, .int .u8 (fl : Nat)] 5)) := (Fp.refl _ _).alloc _
    generalize w4.alloc (.cells #[.int .u8 80, .int .u8 (fl : Nat)] 5) = w5 at *
    have B5 := Lib.hid ((hnT.block _ (Array.getElem?_eq_some_iff.1 B4.out).1 id).trans B4.out)
    have N5 := Lib.hid (N4.out.trans hnT (fun _ _ h => h))
    clear hnT cv B4 N4 lB f0 f1 f2 f3 f4 f5 f6 f7 f8 f9
    have f0 : w5.cell? ⟨gB, 0, none⟩ = some (.int .u16 (a : Nat)) := by simp [World.cell?, B5.out]
    have f1 : w5.cell? ⟨gB, 1, none⟩ = some (.int .u16 (b : Nat)) := by simp [World.cell?, B5.out]
    have f2 : w5.cell? ⟨gB, 2, none⟩ = some (.int .u32 1000) := by simp [World.cell?, B5.out]
    have f3 : w5.cell? ⟨gB, 3, none⟩ = some (.int .u32 2000) := by simp [World.cell?, B5.out]
    have f4 : w5.cell? ⟨gB, 4, none⟩ = some (.int .u8 0) := by simp [World.cell?, B5.out]
    have f5 : w5.cell? ⟨gB, 5, none⟩ = some (.int .u8 (fl : Nat)) := by simp [World.cell?, B5.out]
    have f6 : w5.cell? ⟨gB, 6, none⟩ = some (.int .u16 512) := by simp [World.cell?, B5.out]
    have f7 : w5.cell? ⟨gB, 7, none⟩ = some (.int .u16 0) := by simp [World.cell?, B5.out]
    have f8 : w5.cell? ⟨gB, 8, none⟩ = some (.int .u16 0) := by simp [World.cell?, B5.out]
    have f9 : w5.cell? ⟨gB, 9, none⟩ = some (.string ⟨#[]⟩) := by simp [World.cell?, B5.out]
    have lB := cell_lt f0
    refine wp_region_held_drew (S := fun wx => NoW w5 wx) (by kernel_rfl) (Fp.drew (Fp.refl _ _)) (fun hHeld => ?_)
    generalize w5.drew = wd at *
    (refine tk 0 (some 52) ?_ ?_ ?_; rotate_left; (focus (intro wS hSw; go_simp; try with_reducible rfl)); (try simp only [Act.put, List.setIfInBounds_toArray, List.set_cons_zero, List.set_cons_succ]))
    (refine tk 1 (some 53) ?_ ?_ ?_; rotate_left; (focus (intro wS hSw; go_simp; try with_reducible rfl)); (try simp only [Act.put, List.setIfInBounds_toArray, List.set_cons_zero, List.set_cons_succ]))
    (refine tk 2 (some 54) ?_ ?_ ?_; rotate_left; (focus (intro wS hSw; (have qt := (hSw.cell (p := ⟨gB, 6, none⟩) lB id).trans f6); go_simp; try with_reducible rfl)); (try simp only [Act.put, List.setIfInBounds_toArray, List.set_cons_zero, List.set_cons_succ]))
    (refine tk 3 (some 55) ?_ ?_ ?_; rotate_left; (focus (intro wS hSw; go_simp; try with_reducible rfl)); (try simp only [Act.put, List.setIfInBounds_toArray, List.set_cons_zero, List.set_cons_succ]))
    (refine tk 4 (some 56) ?_ ?_ ?_; rotate_left; (focus (intro wS hSw; (have qt := (hSw.cell (p := ⟨gB, 7, none⟩) lB id).trans f7); go_simp; try with_reducible rfl)); (try simp only [Act.put, List.setIfInBounds_toArray, List.set_cons_zero, List.set_cons_succ]))
    (refine tk 5 (some 57) ?_ ?_ ?_; rotate_left; (focus (intro wS hSw; go_simp; try with_reducible rfl)); (try simp only [Act.put, List.setIfInBounds_toArray, List.set_cons_zero, List.set_cons_succ]))
    (refine tk 6 (some 58) ?_ ?_ ?_; rotate_left; (focus (intro wS hSw; (have qt := (hSw.cell (p := ⟨gB, 8, none⟩) lB id).trans f8); go_simp; try with_reducible rfl)); (try simp only [Act.put, List.setIfInBounds_toArray, List.set_cons_zero, List.set_cons_succ]))
    (refine tk 10 (some 62) ?_ ?_ ?_; rotate_left; (focus (intro wS hSw; go_simp; try with_reducible rfl)); (try simp only [Act.put, List.setIfInBounds_toArray, List.set_cons_zero, List.set_cons_succ]))
    (refine tk 11 (some 63) ?_ ?_ ?_; rotate_left; (focus (intro wS hSw; (have qt := (hSw.cell (p := ⟨gB, 9, none⟩) lB id).trans f9); go_simp; try with_reducible rfl)); (try simp only [Act.put, List.setIfInBounds_toArray, List.set_cons_zero, List.set_cons_succ]))
    (refine tk 13 (some 65) ?_ ?_ ?_; rotate_left; (focus (intro wS hSw; go_simp; try with_reducible rfl)); (try simp only [Act.put, List.setIfInBounds_toArray, List.set_cons_zero, List.set_cons_succ]))
    refine wpAnyH_ready (rs := [7]) (by kernel_rfl) (by simp) ?_
    refine AllReadyH.cons rfl (fun K hK => ?_) AllReadyH.nil
    go_simp
    have hbgS := heap_alloc_new wd (.cells #[.int .u16 512, .int .u16 0, .int .u16 0] 32)
    refine hK.out _ _ (hHeld.alloc _) (fun hHeld2 => ?_)
    clear hK K hHeld
    try simp only [Act.put, List.setIfInBounds_toArray, List.set_cons_zero, List.set_cons_succ]
    generalize wd.alloc (.cells #[.int .u16 512, .int .u16 0, .int .u16 0] 32) = w6 at *
    obtain ⟨gS, hgS⟩ : ∃ gS, gS = wd.heap.size := ⟨_, rfl⟩
    rw [← hgS] at hbgS ⊢
    clear hgS
    have hHeld := hHeld2
    clear hHeld2
    have hbw : w6.heap[gS]? = some (.cells (([512, 0, 0] : List Nat).map fun n => Value.int .u16 (n : Nat)).toArray 32 (0, 0)) := by rw [hbgS]; simp
    refine wpAnyH_ready (rs := [8]) (by kernel_rfl) (by simp) ?_
    refine AllReadyH.cons rfl (fun K hK => ?_) AllReadyH.nil
    go_simp
    go_at_call 225
    refine (show Calls _ _ _ _ _ from KWb.out gS _ _ _ _ hbw).mono ?_
    rintro e w7 ⟨rfl, hp⟩
    have hn : NoW w5 w7 := Fp.trans hHeld hp (fun _ _ h => h)
    refine hK.out _ _ hn (fun hHeld => ?_)
    clear hK K hn hp
    try simp only [Act.put, List.setIfInBounds_toArray, List.set_cons_zero, List.set_cons_succ]
    (refine tk 9 (some 61) ?_ ?_ ?_; rotate_left; (focus (intro wS hSw; go_simp; try with_reducible rfl)); (try simp only [Act.put, List.setIfInBounds_toArray, List.set_cons_zero, List.set_cons_succ]))
    (refine tk 12 (some 64) ?_ ?_ ?_; rotate_left; (focus (intro wS hSw; go_simp; try with_reducible rfl)); (try simp only [Act.put, List.setIfInBounds_toArray, List.set_cons_zero, List.set_cons_succ]))
    (refine tk 14 (some 66) ?_ ?_ ?_; rotate_left; (focus (intro wS hSw; go_simp; try with_reducible rfl)); (try simp only [Act.put, List.setIfInBounds_toArray, List.set_cons_zero, List.set_cons_succ]))
    (refine tk 15 (some 4) ?_ ?_ ?_; rotate_left; (focus (intro wS hSw; go_simp; try with_reducible rfl)); (try simp only [Act.put, List.setIfInBounds_toArray, List.set_cons_zero, List.set_cons_succ]))
    (refine tk 16 (some 5) ?_ ?_ ?_; rotate_left; (focus (intro wS hSw; go_simp; try with_reducible rfl)); (try simp only [Act.put, List.setIfInBounds_toArray, List.set_cons_zero, List.set_cons_succ]))
    refine wpAnyH_done (by kernel_rfl) ?_ _
    have hnf := N5.out.trans hHeld (fun _ _ h => h)
    clear hHeld hbgS hbw lB f0 f1 f2 f3 f4 f5 f6 f7 f8 f9
    go_wp2_with fail
    refine bodyPost_ret (v := .tuple #[str s5, .int .i64 0]) (by simp [results, Tryz.results168, go_sem]) rfl ⟨rfl, hnf⟩

set_option maxHeartbeats 4000000 in
set_option maxRecDepth 100000 in
theorem r04_bytes (ttl pr sr ds size sum : Nat) (httl : ttl < 256) (hpr : pr < 256) (hsr : sr < 4294967296) (hds : ds < 4294967296) (hsize : size < 65536) (hsum : sum < 65536) (w : World) :
    Calls Tryz.prog 167 #[.agg #[.int .u8 0, .int .u16 0, .bool false, .int .u8 (ttl : Nat), .int .u8 (pr : Nat), .int .u32 (sr : Nat), .int .u32 (ds : Nat), .string ⟨#[]⟩], .int .i64 size, .int .u16 sum] w (Ret1 (str (ipHead 0 0 false ttl pr sr ds [] size sum)) w) := by
  have KW := Lib.hid (fun g c W T fr hb => @wordB_ok g c [size, 0, 0] (by simp; omega) (by simp) W T fr hb)
  have K1 := Lib.hid (fun W => r01_put16 sum hsum W)
  have K2 := Lib.hid (fun W => r01_put32 sr hsr W)
  have K3 := Lib.hid (fun W => r01_put32 ds hds W)
  obtain ⟨t0, ht0⟩ : ∃ t : List UInt8, t = [UInt8.ofNat 69, UInt8.ofNat 0] := ⟨_, rfl⟩
  have lt0 : t0.length = 2 := by rw [ht0]; rfl
  obtain ⟨y1, hy1⟩ : ∃ t, t = wordsB [size, 0, 0] := ⟨_, rfl⟩
  have ly1 : y1.length = 6 := by rw [hy1]; rfl
  rw [← hy1] at KW
  obtain ⟨t1, ht1⟩ : ∃ t : List UInt8, t = [UInt8.ofNat ttl, UInt8.ofNat pr] := ⟨_, rfl⟩
  have lt1 : t1.length = 2 := by rw [ht1]; rfl
  obtain ⟨z1, hz1⟩ : ∃ t, t = b16 sum := ⟨_, rfl⟩
  have lz1 : z1.length = 2 := by rw [hz1]; rfl
  rw [← hz1] at K1
  obtain ⟨z2, hz2⟩ : ∃ t, t = b32 sr := ⟨_, rfl⟩
  have lz2 : z2.length = 4 := by rw [hz2]; rfl
  rw [← hz2] at K2
  obtain ⟨z3, hz3⟩ : ∃ t, t = b32 ds := ⟨_, rfl⟩
  have lz3 : z3.length = 4 := by rw [hz3]; rfl
  rw [← hz3] at K3
  obtain ⟨s1, hs1⟩ : ∃ s : List UInt8, s = t0 ++ y1 := ⟨_, rfl⟩
  have ls1 : s1.length ≤ 8 := by rw [hs1]; simp [b16_len]; omega
  have as1 : ∀ W, (Op.stringOp .add ⟨(t0).toArray⟩ ⟨(y1).toArray⟩).run Tryz.prog W = .ok (str s1) W := fun W => by rw [hs1]; exact run_string_add_lists (P := Tryz.prog) W (t0) (y1) (by first | omega | (simp [b16_len]; done) | (simp [b16_len]; omega)) (by first | omega | (simp [b16_len]; done) | (simp [b16_len]; omega))
  obtain ⟨s2, hs2⟩ : ∃ s : List UInt8, s = s1 ++ t1 := ⟨_, rfl⟩
  have ls2 : s2.length ≤ 10 := by rw [hs2]; simp [b16_len]; omega
  have as2 : ∀ W, (Op.stringOp .add ⟨(s1).toArray⟩ ⟨(t1).toArray⟩).run Tryz.prog W = .ok (str s2) W := fun W => by rw [hs2]; exact run_string_add_lists (P := Tryz.prog) W (s1) (t1) (by first | omega | (simp [b16_len]; done) | (simp [b16_len]; omega)) (by first | omega | (simp [b16_len]; done) | (simp [b16_len]; omega))
  obtain ⟨s3, hs3⟩ : ∃ s : List UInt8, s = s2 ++ z1 := ⟨_, rfl⟩
  have ls3 : s3.length ≤ 12 := by rw [hs3]; simp [b16_len]; omega
  have as3 : ∀ W, (Op.stringOp .add ⟨(s2).toArray⟩ ⟨(z1).toArray⟩).run Tryz.prog W = .ok (str s3) W := fun W => by rw [hs3]; exact run_string_add_lists (P := Tryz.prog) W (s2) (z1) (by first | omega | (simp [b16_len]; done) | (simp [b16_len]; omega)) (by first | omega | (simp [b16_len]; done) | (simp [b16_len]; omega))
  obtain ⟨s4, hs4⟩ : ∃ s : List UInt8, s = s3 ++ z2 := ⟨_, rfl⟩
  have ls4 : s4.length ≤ 16 := by rw [hs4]; simp [b16_len]; omega
  have as4 : ∀ W, (Op.stringOp .add ⟨(s3).toArray⟩ ⟨(z2).toArray⟩).run Tryz.prog W = .ok (str s4) W := fun W => by rw [hs4]; exact run_string_add_lists (P := Tryz.prog) W (s3) (z2) (by first | omega | (simp [b16_len]; done) | (simp [b16_len]; omega)) (by first | omega | (simp [b16_len]; done) | (simp [b16_len]; omega))
  obtain ⟨s5, hs5⟩ : ∃ s : List UInt8, s = s4 ++ z3 := ⟨_, rfl⟩
  have ls5 : s5.length ≤ 20 := by rw [hs5]; simp [b16_len]; omega
  have as5 : ∀ W, (Op.stringOp .add ⟨(s4).toArray⟩ ⟨(z3).toArray⟩).run Tryz.prog W = .ok (str s5) W := fun W => by rw [hs5]; exact run_string_add_lists (P := Tryz.prog) W (s4) (z3) (by first | omega | (simp [b16_len]; done) | (simp [b16_len]; omega)) (by first | omega | (simp [b16_len]; done) | (simp [b16_len]; omega))
  have as5' : ∀ W, (Op.stringOp .add ⟨s5.toArray⟩ ⟨#[]⟩).run Tryz.prog W = .ok (str s5) W := fun W => by have := run_string_add_lists (P := Tryz.prog) W s5 [] (by omega) (by simp); rw [List.append_nil] at this; exact this
  have hfin : ipHead 0 0 false ttl pr sr ds [] size sum = s5 := by rw [hs5, hs4, hs3, hs2, hs1, ht0, ht1, hy1, hz1, hz2, hz3]; simp [ipHead, wordsB]; try rfl
  rw [hfin]
  have c0 : IntKind.u16.wrap (size : Int) = (size : Int) := IntWalk.u16_in _ (by omega)
  have hcv := Lib.hid (fun (W : World) (g : Nat) (T : TypeId) (fr : Nat × Nat) (hb : W.heap[g]? = some (.cells #[.int .u8 69, .int .u8 0] T fr)) => bytes2g hb (a := 69) (b := 0) rfl rfl (by omega) (by omega))
  rw [← ht0] at hcv
  have hcw := Lib.hid (fun (W : World) (g : Nat) (T : TypeId) (fr : Nat × Nat) (hb : W.heap[g]? = some (.cells #[.int .u8 (ttl : Nat), .int .u8 (pr : Nat)] T fr)) => bytes2g hb (a := ttl) (b := pr) rfl rfl httl hpr)
  rw [← ht1] at hcw
  clear hfin hs1 ls1 hs2 ls2 hs3 ls3 hs4 ls4 hs5 ls5 ht0 ht1 hy1 hz1 hz2 hz3 lt0 lt1 ly1 lz1 lz2 lz3
  go_enter Tryz.func167, Tryz.ntmps167
  go_upto_region 4 with fail
  have hb0 := heap_alloc_new w (.cells #[.int .u8 0, .int .u16 0, .bool false, .int .u8 (ttl : Nat), .int .u8 (pr : Nat), .int .u32 (sr : Nat), .int .u32 (ds : Nat), .string ⟨#[]⟩] 283)
  have hn0 : NoW w (w.alloc (.cells #[.int .u8 0, .int .u16 0, .bool false, .int .u8 (ttl : Nat), .int .u8 (pr : Nat), .int .u32 (sr : Nat), .int .u32 (ds : Nat), .string ⟨#[]⟩] 283)) := (Fp.refl _ _).alloc _
  generalize w.alloc (.cells #[.int .u8 0, .int .u16 0, .bool false, .int .u8 (ttl : Nat), .int .u8 (pr : Nat), .int .u32 (sr : Nat), .int .u32 (ds : Nat), .string ⟨#[]⟩] 283) = w0 at *
  obtain ⟨gB, hgB⟩ : ∃ gB, gB = w.heap.size := ⟨_, rfl⟩
  rw [← hgB] at hb0 ⊢
  clear hgB
  have B0 := Lib.hid hb0
  have N0 := Lib.hid hn0
  clear hb0 hn0
  have f0 : w0.cell? ⟨gB, 0, none⟩ = some (.int .u8 0) := by simp [World.cell?, B0.out]
  have f1 : w0.cell? ⟨gB, 1, none⟩ = some (.int .u16 0) := by simp [World.cell?, B0.out]
  have f2 : w0.cell? ⟨gB, 2, none⟩ = some (.bool false) := by simp [World.cell?, B0.out]
  have f3 : w0.cell? ⟨gB, 3, none⟩ = some (.int .u8 (ttl : Nat)) := by simp [World.cell?, B0.out]
  have f4 : w0.cell? ⟨gB, 4, none⟩ = some (.int .u8 (pr : Nat)) := by simp [World.cell?, B0.out]
  have f5 : w0.cell? ⟨gB, 5, none⟩ = some (.int .u32 (sr : Nat)) := by simp [World.cell?, B0.out]
  have f6 : w0.cell? ⟨gB, 6, none⟩ = some (.int .u32 (ds : Nat)) := by simp [World.cell?, B0.out]
  have f7 : w0.cell? ⟨gB, 7, none⟩ = some (.string ⟨#[]⟩) := by simp [World.cell?, B0.out]
  have lB := cell_lt f0
  have hbT := heap_alloc_new w0 (.cells #[.int .u8 69, .int .u8 0] 5)
  have cv := hcv.out _ _ _ _ hbT
  clear hbT
  go_upto_region 5 with fail
  have hnT : NoW w0 (w0.alloc (.cells #[.int .u8 69, .int .u8 0] 5)) := (Fp.refl _ _).alloc _
  generalize w0.alloc (.cells #[.int .u8 69, .int .u8 0] 5) = w1 at *
  have B1 := Lib.hid ((hnT.block _ (Array.getElem?_eq_some_iff.1 B0.out).1 id).trans B0.out)
  have N1 := Lib.hid (N0.out.trans hnT (fun _ _ h => h))
  clear hnT cv B0 N0 lB f0 f1 f2 f3 f4 f5 f6 f7
  have f0 : w1.cell? ⟨gB, 0, none⟩ = some (.int .u8 0) := by simp [World.cell?, B1.out]
  have f1 : w1.cell? ⟨gB, 1, none⟩ = some (.int .u16 0) := by simp [World.cell?, B1.out]
  have f2 : w1.cell? ⟨gB, 2, none⟩ = some (.bool false) := by simp [World.cell?, B1.out]
  have f3 : w1.cell? ⟨gB, 3, none⟩ = some (.int .u8 (ttl : Nat)) := by simp [World.cell?, B1.out]
  have f4 : w1.cell? ⟨gB, 4, none⟩ = some (.int .u8 (pr : Nat)) := by simp [World.cell?, B1.out]
  have f5 : w1.cell? ⟨gB, 5, none⟩ = some (.int .u32 (sr : Nat)) := by simp [World.cell?, B1.out]
  have f6 : w1.cell? ⟨gB, 6, none⟩ = some (.int .u32 (ds : Nat)) := by simp [World.cell?, B1.out]
  have f7 : w1.cell? ⟨gB, 7, none⟩ = some (.string ⟨#[]⟩) := by simp [World.cell?, B1.out]
  have lB := cell_lt f0
  go_wp2_with fail
  have hbS := heap_alloc_new w1 (.cells #[.int .u16 (size : Nat), .int .u16 0, .int .u16 0] 32)
  have hnS : NoW w1 (w1.alloc (.cells #[.int .u16 (size : Nat), .int .u16 0, .int .u16 0] 32)) := (Fp.refl _ _).alloc _
  have hbw : (w1.alloc (.cells #[.int .u16 (size : Nat), .int .u16 0, .int .u16 0] 32)).heap[w1.heap.size]? = some (.cells (([size, 0, 0] : List Nat).map fun n => Value.int .u16 (n : Nat)).toArray 32 (0, 0)) := by rw [hbS]; simp
  refine (show Calls _ _ _ _ _ from KW.out _ _ _ _ _ hbw).mono ?_
  rintro e w2 ⟨rfl, hp⟩
  have hn2 := hnS.trans hp (fun _ _ h => h)
  have B2 := Lib.hid ((hn2.block _ (Array.getElem?_eq_some_iff.1 B1.out).1 id).trans B1.out)
  have N2 := Lib.hid (N1.out.trans hn2 (fun _ _ h => h))
  clear hnS hp hn2 hbS hbw B1 N1 lB f0 f1 f2 f3 f4 f5 f6 f7
  have f0 : w2.cell? ⟨gB, 0, none⟩ = some (.int .u8 0) := by simp [World.cell?, B2.out]
  have f1 : w2.cell? ⟨gB, 1, none⟩ = some (.int .u16 0) := by simp [World.cell?, B2.out]
  have f2 : w2.cell? ⟨gB, 2, none⟩ = some (.bool false) := by simp [World.cell?, B2.out]
  have f3 : w2.cell? ⟨gB, 3, none⟩ = some (.int .u8 (ttl : Nat)) := by simp [World.cell?, B2.out]
  have f4 : w2.cell? ⟨gB, 4, none⟩ = some (.int .u8 (pr : Nat)) := by simp [World.cell?, B2.out]
  have f5 : w2.cell? ⟨gB, 5, none⟩ = some (.int .u32 (sr : Nat)) := by simp [World.cell?, B2.out]
  have f6 : w2.cell? ⟨gB, 6, none⟩ = some (.int .u32 (ds : Nat)) := by simp [World.cell?, B2.out]
  have f7 : w2.cell? ⟨gB, 7, none⟩ = some (.string ⟨#[]⟩) := by simp [World.cell?, B2.out]
  have lB := cell_lt f0
  go_upto_region 6 with fail
  have hbT := heap_alloc_new w2 (.cells #[.int .u8 (ttl : Nat), .int .u8 (pr : Nat)] 5)
  have cv := hcw.out _ _ _ _ hbT
  clear hbT
  go_upto_region 7 with fail
  have hnT : NoW w2 (w2.alloc (.cells #[.int .u8 (ttl : Nat), .int .u8 (pr : Nat)] 5)) := (Fp.refl _ _).alloc _
  generalize w2.alloc (.cells #[.int .u8 (ttl : Nat), .int .u8 (pr : Nat)] 5) = w3 at *
  have B3 := Lib.hid ((hnT.block _ (Array.getElem?_eq_some_iff.1 B2.out).1 id).trans B2.out)
  have N3 := Lib.hid (N2.out.trans hnT (fun _ _ h => h))
  clear hnT cv B2 N2 lB f0 f1 f2 f3 f4 f5 f6 f7
  have f0 : w3.cell? ⟨gB, 0, none⟩ = some (.int .u8 0) := by simp [World.cell?, B3.out]
  have f1 : w3.cell? ⟨gB, 1, none⟩ = some (.int .u16 0) := by simp [World.cell?, B3.out]
  have f2 : w3.cell? ⟨gB, 2, none⟩ = some (.bool false) := by simp [World.cell?, B3.out]
  have f3 : w3.cell? ⟨gB, 3, none⟩ = some (.int .u8 (ttl : Nat)) := by simp [World.cell?, B3.out]
  have f4 : w3.cell? ⟨gB, 4, none⟩ = some (.int .u8 (pr : Nat)) := by simp [World.cell?, B3.out]
  have f5 : w3.cell? ⟨gB, 5, none⟩ = some (.int .u32 (sr : Nat)) := by simp [World.cell?, B3.out]
  have f6 : w3.cell? ⟨gB, 6, none⟩ = some (.int .u32 (ds : Nat)) := by simp [World.cell?, B3.out]
  have f7 : w3.cell? ⟨gB, 7, none⟩ = some (.string ⟨#[]⟩) := by simp [World.cell?, B3.out]
  have lB := cell_lt f0
  refine wp_region_held_drew (S := fun wx => NoW w3 wx) (by kernel_rfl) (Fp.drew (Fp.refl _ _)) (fun hHeld => ?_)
  generalize w3.drew = wd at *
  (refine tk 0 (some 38) ?_ ?_ ?_; rotate_left; (focus (intro wS hSw; go_simp; try with_reducible rfl)); (try simp only [Act.put, List.setIfInBounds_toArray, List.set_cons_zero, List.set_cons_succ]))
  (refine tk 1 (some 39) ?_ ?_ ?_; rotate_left; (focus (intro wS hSw; go_simp; try with_reducible rfl)); (try simp only [Act.put, List.setIfInBounds_toArray, List.set_cons_zero, List.set_cons_succ]))
  (refine tk 4 (some 42) ?_ ?_ ?_; rotate_left; (focus (intro wS hSw; go_simp; try with_reducible rfl)); (try simp only [Act.put, List.setIfInBounds_toArray, List.set_cons_zero, List.set_cons_succ]))
  (refine tk 5 (some 43) ?_ ?_ ?_; rotate_left; (focus (intro wS hSw; (have qt := (hSw.cell (p := ⟨gB, 5, none⟩) lB id).trans f5); go_simp; try with_reducible rfl)); (try simp only [Act.put, List.setIfInBounds_toArray, List.set_cons_zero, List.set_cons_succ]))
  (refine tk 8 (some 46) ?_ ?_ ?_; rotate_left; (focus (intro wS hSw; go_simp; try with_reducible rfl)); (try simp only [Act.put, List.setIfInBounds_toArray, List.set_cons_zero, List.set_cons_succ]))
  (refine tk 9 (some 47) ?_ ?_ ?_; rotate_left; (focus (intro wS hSw; (have qt := (hSw.cell (p := ⟨gB, 6, none⟩) lB id).trans f6); go_simp; try with_reducible rfl)); (try simp only [Act.put, List.setIfInBounds_toArray, List.set_cons_zero, List.set_cons_succ]))
  refine wpAnyH_ready (rs := [2]) (by kernel_rfl) (by simp) ?_
  refine AllReadyH.cons rfl (fun K hK => ?_) AllReadyH.nil
  go_simp
  go_at_call 165
  refine (show Calls _ _ _ _ _ from K1.out _).mono ?_
  rintro e x1 ⟨rfl, hp⟩
  have hn : NoW w3 x1 := Fp.trans hHeld hp (fun _ _ h => h)
  refine hK.out _ _ hn (fun hHeld => ?_)
  clear hK K hn hp
  try simp only [Act.put, List.setIfInBounds_toArray, List.set_cons_zero, List.set_cons_succ]
  (refine tk 3 (some 41) ?_ ?_ ?_; rotate_left; (focus (intro wS hSw; go_simp; try with_reducible rfl)); (try simp only [Act.put, List.setIfInBounds_toArray, List.set_cons_zero, List.set_cons_succ]))
  refine wpAnyH_ready (rs := [6]) (by kernel_rfl) (by simp) ?_
  refine AllReadyH.cons rfl (fun K hK => ?_) AllReadyH.nil
  go_simp
  go_at_call 226
  refine (show Calls _ _ _ _ _ from K2.out _).mono ?_
  rintro e x2 ⟨rfl, hp⟩
  have hn : NoW w3 x2 := Fp.trans hHeld hp (fun _ _ h => h)
  refine hK.out _ _ hn (fun hHeld => ?_)
  clear hK K hn hp
  try simp only [Act.put, List.setIfInBounds_toArray, List.set_cons_zero, List.set_cons_succ]
  (refine tk 7 (some 45) ?_ ?_ ?_; rotate_left; (focus (intro wS hSw; go_simp; try with_reducible rfl)); (try simp only [Act.put, List.setIfInBounds_toArray, List.set_cons_zero, List.set_cons_succ]))
  refine wpAnyH_ready (rs := [10]) (by kernel_rfl) (by simp) ?_
  refine AllReadyH.cons rfl (fun K hK => ?_) AllReadyH.nil
  go_simp
  go_at_call 226
  refine (show Calls _ _ _ _ _ from K3.out _).mono ?_
  rintro e x3 ⟨rfl, hp⟩
  have hn : NoW w3 x3 := Fp.trans hHeld hp (fun _ _ h => h)
  refine hK.out _ _ hn (fun hHeld => ?_)
  clear hK K hn hp
  try simp only [Act.put, List.setIfInBounds_toArray, List.set_cons_zero, List.set_cons_succ]
  (refine tk 11 (some 49) ?_ ?_ ?_; rotate_left; (focus (intro wS hSw; go_simp; try with_reducible rfl)); (try simp only [Act.put, List.setIfInBounds_toArray, List.set_cons_zero, List.set_cons_succ]))
  (refine tk 12 (some 8) ?_ ?_ ?_; rotate_left; (focus (intro wS hSw; go_simp; try with_reducible rfl)); (try simp only [Act.put, List.setIfInBounds_toArray, List.set_cons_zero, List.set_cons_succ]))
  refine wpAnyH_done (by kernel_rfl) ?_ _
  have B4 := Lib.hid ((hHeld.block _ (Array.getElem?_eq_some_iff.1 B3.out).1 id).trans B3.out)
  have N4 := Lib.hid (N3.out.trans hHeld (fun _ _ h => h))
  clear hHeld B3 N3 lB f0 f1 f2 f3 f4 f5 f6 f7
  have f0 : x3.cell? ⟨gB, 0, none⟩ = some (.int .u8 0) := by simp [World.cell?, B4.out]
  have f1 : x3.cell? ⟨gB, 1, none⟩ = some (.int .u16 0) := by simp [World.cell?, B4.out]
  have f2 : x3.cell? ⟨gB, 2, none⟩ = some (.bool false) := by simp [World.cell?, B4.out]
  have f3 : x3.cell? ⟨gB, 3, none⟩ = some (.int .u8 (ttl : Nat)) := by simp [World.cell?, B4.out]
  have f4 : x3.cell? ⟨gB, 4, none⟩ = some (.int .u8 (pr : Nat)) := by simp [World.cell?, B4.out]
  have f5 : x3.cell? ⟨gB, 5, none⟩ = some (.int .u32 (sr : Nat)) := by simp [World.cell?, B4.out]
  have f6 : x3.cell? ⟨gB, 6, none⟩ = some (.int .u32 (ds : Nat)) := by simp [World.cell?, B4.out]
  have f7 : x3.cell? ⟨gB, 7, none⟩ = some (.string ⟨#[]⟩) := by simp [World.cell?, B4.out]
  have lB := cell_lt f0
  go_wp2_with fail
  go_ret
  exact ⟨rfl, N4.out⟩
end Go.Proofs.YthmokdfigjffjaaGreatDoor
