/- Texts of this proof, merged: To. -/
import Derived.Test.YthmokdfigjffjaaGreatDoorMaz
namespace Go.Proofs.YthmokdfigjffjaaGreatDoor
set_option linter.unusedVariables false
set_option linter.unusedSimpArgs false
open Go.RowKit Go.Lib Go.Sort

set_option maxHeartbeats 4000000 in
set_option maxRecDepth 100000 in
theorem r04_put (ttl pr sr ds : Nat) (d : List UInt8) (httl : ttl < 256) (hpr : pr < 256) (hsr : sr < 4294967296) (hds : ds < 4294967296) (hd : d.length ≤ 2028) (w : World) :
    Calls Tryz.prog 118 #[.agg #[.int .u8 0, .int .u16 0, .bool false, .int .u8 (ttl : Nat), .int .u8 (pr : Nat), .int .u32 (sr : Nat), .int .u32 (ds : Nat), .string ⟨#[]⟩], str d] w (Ret1 (.tuple #[str (ipPut ttl pr sr ds d), .int .i64 0]) w) := by
  obtain ⟨size, hsz⟩ : ∃ size, size = 20 + d.length := ⟨_, rfl⟩
  obtain ⟨h0, hh0⟩ : ∃ t, t = ipHead 0 0 false ttl pr sr ds [] size 0 := ⟨_, rfl⟩
  have lh0 : h0.length ≤ 100 := by rw [hh0]; simp [ipHead, b16_len, b32]
  obtain ⟨sum, hsu⟩ : ∃ t, t = csum [h0] := ⟨_, rfl⟩
  have hsum : sum < 65536 := by rw [hsu]; unfold csum; omega
  have K0 := Lib.hid (fun W => r04_bytes ttl pr sr ds size 0 httl hpr hsr hds (by omega) (by omega) W)
  rw [← hh0] at K0
  have KS := Lib.hid (fun g c W T fr hb => @sumB_ok g c [h0] (by simp; omega) (by simp) W T fr hb)
  rw [← hsu] at KS
  have K1 := Lib.hid (fun W => r04_bytes ttl pr sr ds size sum httl hpr hsr hds (by omega) hsum W)
  obtain ⟨h1, hh1⟩ : ∃ t, t = ipHead 0 0 false ttl pr sr ds [] size sum := ⟨_, rfl⟩
  have lh1 : h1.length ≤ 100 := by rw [hh1]; simp [ipHead, b16_len, b32]
  rw [← hh1] at K1
  obtain ⟨r, hr⟩ : ∃ s : List UInt8, s = h1 ++ d := ⟨_, rfl⟩
  have lr : r.length ≤ 3000 := by rw [hr]; simp [b16_len]; omega
  have ar : ∀ W, (Op.stringOp .add ⟨(h1).toArray⟩ ⟨(d).toArray⟩).run Tryz.prog W = .ok (str r) W := fun W => by rw [hr]; exact run_string_add_lists (P := Tryz.prog) W (h1) (d) (by first | omega | (simp [b16_len]; done) | (simp [b16_len]; omega)) (by first | omega | (simp [b16_len]; done) | (simp [b16_len]; omega))
  have hfin : ipPut ttl pr sr ds d = r := by rw [hr, hh1, hsu, hh0, hsz]; rfl
  rw [hfin]
  have c0 : IntKind.i64.wrap (20 + (d.length : Int)) = (size : Int) := (IntWalk.i64_in _ (by omega)).trans (by omega)
  have i0 : (d.length : Int) ≤ 2028 := by omega
  clear hfin hr lr hh0 hh1 hsu lh0 lh1 hsz
  go_enter Tryz.func118, Tryz.ntmps118
  go_upto_region 6 with fail
  have hb0 := heap_alloc_new w (.cells #[.int .u8 0, .int .u16 0, .bool false, .int .u8 (ttl : Nat), .int .u8 (pr : Nat), .int .u32 (sr : Nat), .int .u32 (ds : Nat), .string ⟨#[]⟩] 283)
  have hn0 : NoW w (w.alloc (.cells #[.int .u8 0, .int .u16 0, .bool false, .int .u8 (ttl : Nat), .int .u8 (pr : Nat), .int .u32 (sr : Nat), .int .u32 (ds : Nat), .string ⟨#[]⟩] 283)) := (Fp.refl _ _).alloc _
  generalize w.alloc (.cells #[.int .u8 0, .int .u16 0, .bool false, .int .u8 (ttl : Nat), .int .u8 (pr : Nat), .int .u32 (sr : Nat), .int .u32 (ds : Nat), .string ⟨#[]⟩] 283) = w0 at *
  obtain ⟨gB, hgB⟩ : ∃ gB, gB = w.heap.size := ⟨_, rfl⟩
  rw [← hgB] at hb0 ⊢
  clear hgB
  have B0 := Lib.hid hb0
  have N0 := Lib.hid hn0
  clear hb0 hn0
  have f0 : w0.cell? ⟨gB, 0, none⟩ = some (.int .u8 0) := by simp [World.cell?, B0.out]
  have f1 : w0.cell? ⟨gB, 1, none⟩ = some (.int .u16 0) := by simp [World.cell?, B0.out]
  have f2 : w0.cell? ⟨gB, 2, none⟩ = some (.bool false) := by simp [World.cell?, B0.out]
  have f3 : w0.cell? ⟨gB, 3, none⟩ = some (.int .u8 (ttl : Nat)) := by simp [World.cell?, B0.out]
  have f4 : w0.cell? ⟨gB, 4, none⟩ = some (.int .u8 (pr : Nat)) := by simp [World.cell?, B0.out]
  have f5 : w0.cell? ⟨gB, 5, none⟩ = some (.int .u32 (sr : Nat)) := by simp [World.cell?, B0.out]
  have f6 : w0.cell? ⟨gB, 6, none⟩ = some (.int .u32 (ds : Nat)) := by simp [World.cell?, B0.out]
  have f7 : w0.cell? ⟨gB, 7, none⟩ = some (.string ⟨#[]⟩) := by simp [World.cell?, B0.out]
  have lB := cell_lt f0
  go_wp2_with fail
  refine (show Calls _ _ _ _ _ from K0.out _).mono ?_
  rintro e w1 ⟨rfl, hp⟩
  have B1 := Lib.hid ((hp.block _ (Array.getElem?_eq_some_iff.1 B0.out).1 id).trans B0.out)
  have N1 := Lib.hid (N0.out.trans hp (fun _ _ h => h))
  clear hp lB f0 f1 f2 f3 f4 f5 f6 f7
  have f0 : w1.cell? ⟨gB, 0, none⟩ = some (.int .u8 0) := by simp [World.cell?, B1.out]
  have f1 : w1.cell? ⟨gB, 1, none⟩ = some (.int .u16 0) := by simp [World.cell?, B1.out]
  have f2 : w1.cell? ⟨gB, 2, none⟩ = some (.bool false) := by simp [World.cell?, B1.out]
  have f3 : w1.cell? ⟨gB, 3, none⟩ = some (.int .u8 (ttl : Nat)) := by simp [World.cell?, B1.out]
  have f4 : w1.cell? ⟨gB, 4, none⟩ = some (.int .u8 (pr : Nat)) := by simp [World.cell?, B1.out]
  have f5 : w1.cell? ⟨gB, 5, none⟩ = some (.int .u32 (sr : Nat)) := by simp [World.cell?, B1.out]
  have f6 : w1.cell? ⟨gB, 6, none⟩ = some (.int .u32 (ds : Nat)) := by simp [World.cell?, B1.out]
  have f7 : w1.cell? ⟨gB, 7, none⟩ = some (.string ⟨#[]⟩) := by simp [World.cell?, B1.out]
  have lB := cell_lt f0
  go_wp2_with fail
  have hbS := heap_alloc_new w1 (.cells #[str h0] 9)
  have hnS : NoW w1 (w1.alloc (.cells #[str h0] 9)) := (Fp.refl _ _).alloc _
  have KK := KS.out w1.heap.size 1 (w1.alloc (.cells #[str h0] 9)) _ _ hbS
  generalize w1.alloc (.cells #[str h0] 9) = w2 at *
  refine (show Calls _ _ _ _ _ from KK).mono ?_
  rintro e w' ⟨rfl, rfl⟩
  have B2 := Lib.hid ((hnS.block _ (Array.getElem?_eq_some_iff.1 B1.out).1 id).trans B1.out)
  have N2 := Lib.hid (N1.out.trans hnS (fun _ _ h => h))
  clear hnS hbS KK lB f0 f1 f2 f3 f4 f5 f6 f7
  have f0 : w'.cell? ⟨gB, 0, none⟩ = some (.int .u8 0) := by simp [World.cell?, B2.out]
  have f1 : w'.cell? ⟨gB, 1, none⟩ = some (.int .u16 0) := by simp [World.cell?, B2.out]
  have f2 : w'.cell? ⟨gB, 2, none⟩ = some (.bool false) := by simp [World.cell?, B2.out]
  have f3 : w'.cell? ⟨gB, 3, none⟩ = some (.int .u8 (ttl : Nat)) := by simp [World.cell?, B2.out]
  have f4 : w'.cell? ⟨gB, 4, none⟩ = some (.int .u8 (pr : Nat)) := by simp [World.cell?, B2.out]
  have f5 : w'.cell? ⟨gB, 5, none⟩ = some (.int .u32 (sr : Nat)) := by simp [World.cell?, B2.out]
  have f6 : w'.cell? ⟨gB, 6, none⟩ = some (.int .u32 (ds : Nat)) := by simp [World.cell?, B2.out]
  have f7 : w'.cell? ⟨gB, 7, none⟩ = some (.string ⟨#[]⟩) := by simp [World.cell?, B2.out]
  have lB := cell_lt f0
  go_wp2_with fail
  refine (show Calls _ _ _ _ _ from K1.out _).mono ?_
  rintro e w3 ⟨rfl, hp⟩
  have B3 := Lib.hid ((hp.block _ (Array.getElem?_eq_some_iff.1 B2.out).1 id).trans B2.out)
  have N3 := Lib.hid (N2.out.trans hp (fun _ _ h => h))
  clear hp lB f0 f1 f2 f3 f4 f5 f6 f7
  go_wp2_with fail
  refine bodyPost_ret (v := .tuple #[str r, .int .i64 0]) (by simp [results, Tryz.results118, go_sem]) rfl ⟨rfl, N3.out⟩

set_option maxHeartbeats 2000000 in
set_option maxRecDepth 100000 in
theorem load_tcp (sr ds a b fl : Nat) (d : List UInt8) (ha : a < 65536) (hb : b < 65536) (hsr : sr < 4294967296) (hds : ds < 4294967296) (hf : fl < 256) (hd : d.length ≤ 1000) (w : World) :
    Calls Tryz.prog 120 #[.agg #[.int .u8 6, .int .u32 (sr : Nat), .int .u16 (a : Nat), .int .u32 (ds : Nat), .int .u16 (b : Nat)], .int .u8 fl, str d] w (Ret1 (str (tcpSeal sr ds (tcpRaw a b fl d))) w) := by
  have KP := Lib.hid (fun W => r06_put a b fl d ha hb hf (by omega) W)
  have lt : (tcpRaw a b fl d).length = 20 + d.length := by simp [tcpRaw, b16_len, b32]; omega
  have KS := Lib.hid (fun W => r06_seal sr ds (tcpRaw a b fl d) hsr hds (by omega) (by omega) W)
  generalize tcpRaw a b fl d = raw at *
  generalize tcpSeal sr ds raw = out at *
  clear lt
  go_enter Tryz.func120, Tryz.ntmps120
  go_upto_region 3 with fail
  have hb0 := heap_alloc_new w (.cells #[.int .u8 6, .int .u32 (sr : Nat), .int .u16 (a : Nat), .int .u32 (ds : Nat), .int .u16 (b : Nat)] 40)
  have hn0 : NoW w (w.alloc (.cells #[.int .u8 6, .int .u32 (sr : Nat), .int .u16 (a : Nat), .int .u32 (ds : Nat), .int .u16 (b : Nat)] 40)) := (Fp.refl _ _).alloc _
  generalize w.alloc (.cells #[.int .u8 6, .int .u32 (sr : Nat), .int .u16 (a : Nat), .int .u32 (ds : Nat), .int .u16 (b : Nat)] 40) = w0 at *
  obtain ⟨gB, hgB⟩ : ∃ gB, gB = w.heap.size := ⟨_, rfl⟩
  rw [← hgB] at hb0 ⊢
  have HgB := Lib.hid (show w.heap.size ≤ gB by omega)
  clear hgB
  have B0 := Lib.hid hb0
  have N0 := Lib.hid hn0
  clear hb0 hn0
  have f0 : w0.cell? ⟨gB, 0, none⟩ = some (.int .u8 6) := by simp [World.cell?, B0.out]
  have f1 : w0.cell? ⟨gB, 1, none⟩ = some (.int .u32 (sr : Nat)) := by simp [World.cell?, B0.out]
  have f2 : w0.cell? ⟨gB, 2, none⟩ = some (.int .u16 (a : Nat)) := by simp [World.cell?, B0.out]
  have f3 : w0.cell? ⟨gB, 3, none⟩ = some (.int .u32 (ds : Nat)) := by simp [World.cell?, B0.out]
  have f4 : w0.cell? ⟨gB, 4, none⟩ = some (.int .u16 (b : Nat)) := by simp [World.cell?, B0.out]
  have lB := cell_lt f0
  go_wp2_with fail
  refine (show Calls _ _ _ _ _ from KP.out _).mono ?_
  rintro e w1 ⟨rfl, hp⟩
  have B1 := Lib.hid ((hp.block _ (Array.getElem?_eq_some_iff.1 B0.out).1 id).trans B0.out)
  have N1 := Lib.hid (N0.out.trans hp (fun _ _ h => h))
  clear hp lB f0 f1 f2 f3 f4
  have f0 : w1.cell? ⟨gB, 0, none⟩ = some (.int .u8 6) := by simp [World.cell?, B1.out]
  have f1 : w1.cell? ⟨gB, 1, none⟩ = some (.int .u32 (sr : Nat)) := by simp [World.cell?, B1.out]
  have f2 : w1.cell? ⟨gB, 2, none⟩ = some (.int .u16 (a : Nat)) := by simp [World.cell?, B1.out]
  have f3 : w1.cell? ⟨gB, 3, none⟩ = some (.int .u32 (ds : Nat)) := by simp [World.cell?, B1.out]
  have f4 : w1.cell? ⟨gB, 4, none⟩ = some (.int .u16 (b : Nat)) := by simp [World.cell?, B1.out]
  have lB := cell_lt f0
  go_wp2_with fail
  refine (KS.out _).mono ?_
  rintro e w2 ⟨rfl, hp⟩
  go_wp2_with fail
  go_ret
  exact ⟨rfl, N1.out.trans hp (fun _ _ h => h)⟩

set_option maxHeartbeats 2000000 in
set_option maxRecDepth 100000 in
theorem load_udp (sr ds a b fl : Nat) (d : List UInt8) (ha : a < 65536) (hb : b < 65536) (hsr : sr < 4294967296) (hds : ds < 4294967296) (hd : d.length ≤ 1000) (w : World) :
    Calls Tryz.prog 120 #[.agg #[.int .u8 17, .int .u32 (sr : Nat), .int .u16 (a : Nat), .int .u32 (ds : Nat), .int .u16 (b : Nat)], .int .u8 fl, str d] w (Ret1 (str (udpSeal sr ds (udpRaw a b d))) w) := by
  have KP := Lib.hid (fun W => r05_put a b d ha hb (by omega) W)
  have lt : (udpRaw a b d).length = 8 + d.length := by simp [udpRaw, b16_len]; omega
  have KS := Lib.hid (fun W => r05_seal sr ds (udpRaw a b d) hsr hds (by omega) (by omega) W)
  generalize udpRaw a b d = raw at *
  generalize udpSeal sr ds raw = out at *
  clear lt
  go_enter Tryz.func120, Tryz.ntmps120
  go_upto_region 6 with fail
  have hb0 := heap_alloc_new w (.cells #[.int .u8 17, .int .u32 (sr : Nat), .int .u16 (a : Nat), .int .u32 (ds : Nat), .int .u16 (b : Nat)] 40)
  have hn0 : NoW w (w.alloc (.cells #[.int .u8 17, .int .u32 (sr : Nat), .int .u16 (a : Nat), .int .u32 (ds : Nat), .int .u16 (b : Nat)] 40)) := (Fp.refl _ _).alloc _
  generalize w.alloc (.cells #[.int .u8 17, .int .u32 (sr : Nat), .int .u16 (a : Nat), .int .u32 (ds : Nat), .int .u16 (b : Nat)] 40) = w0 at *
  obtain ⟨gB, hgB⟩ : ∃ gB, gB = w.heap.size := ⟨_, rfl⟩
  rw [← hgB] at hb0 ⊢
  have HgB := Lib.hid (show w.heap.size ≤ gB by omega)
  clear hgB
  have B0 := Lib.hid hb0
  have N0 := Lib.hid hn0
  clear hb0 hn0
  have f0 : w0.cell? ⟨gB, 0, none⟩ = some (.int .u8 17) := by simp [World.cell?, B0.out]
  have f1 : w0.cell? ⟨gB, 1, none⟩ = some (.int .u32 (sr : Nat)) := by simp [World.cell?, B0.out]
  have f2 : w0.cell? ⟨gB, 2, none⟩ = some (.int .u16 (a : Nat)) := by simp [World.cell?, B0.out]
  have f3 : w0.cell? ⟨gB, 3, none⟩ = some (.int .u32 (ds : Nat)) := by simp [World.cell?, B0.out]
  have f4 : w0.cell? ⟨gB, 4, none⟩ = some (.int .u16 (b : Nat)) := by simp [World.cell?, B0.out]
  have lB := cell_lt f0
  refine wp_region_held_drew (S := fun wx => NoW w0 wx) (by kernel_rfl) (Fp.drew (Fp.refl _ _)) (fun hHeld => ?_)
  generalize w0.drew = wd at *
  (refine tk 0 (some 39) ?_ ?_ ?_; rotate_left; (focus (intro wS hSw; go_simp; try with_reducible rfl)); (try simp only [Act.put, List.setIfInBounds_toArray, List.set_cons_zero, List.set_cons_succ]))
  (refine tk 1 (some 40) ?_ ?_ ?_; rotate_left; (focus (intro wS hSw; go_simp; try with_reducible rfl)); (try simp only [Act.put, List.setIfInBounds_toArray, List.set_cons_zero, List.set_cons_succ]))
  (refine tk 2 (some 41) ?_ ?_ ?_; rotate_left; (focus (intro wS hSw; (have qt := (hSw.cell (p := ⟨gB, 1, none⟩) lB id).trans f1); go_simp; try with_reducible rfl)); (try simp only [Act.put, List.setIfInBounds_toArray, List.set_cons_zero, List.set_cons_succ]))
  (refine tk 3 (some 42) ?_ ?_ ?_; rotate_left; (focus (intro wS hSw; go_simp; try with_reducible rfl)); (try simp only [Act.put, List.setIfInBounds_toArray, List.set_cons_zero, List.set_cons_succ]))
  (refine tk 4 (some 43) ?_ ?_ ?_; rotate_left; (focus (intro wS hSw; go_simp; try with_reducible rfl)); (try simp only [Act.put, List.setIfInBounds_toArray, List.set_cons_zero, List.set_cons_succ]))
  (refine tk 5 (some 44) ?_ ?_ ?_; rotate_left; (focus (intro wS hSw; (have qt := (hSw.cell (p := ⟨gB, 3, none⟩) lB id).trans f3); go_simp; try with_reducible rfl)); (try simp only [Act.put, List.setIfInBounds_toArray, List.set_cons_zero, List.set_cons_succ]))
  (refine tk 6 (some 45) ?_ ?_ ?_; rotate_left; (focus (intro wS hSw; go_simp; try with_reducible rfl)); (try simp only [Act.put, List.setIfInBounds_toArray, List.set_cons_zero, List.set_cons_succ]))
  (refine tk 7 (some 46) ?_ ?_ ?_; rotate_left; (focus (intro wS hSw; go_simp; try with_reducible rfl)); (try simp only [Act.put, List.setIfInBounds_toArray, List.set_cons_zero, List.set_cons_succ]))
  (refine tk 8 (some 47) ?_ ?_ ?_; rotate_left; (focus (intro wS hSw; (have qt := (hSw.cell (p := ⟨gB, 2, none⟩) lB id).trans f2); go_simp; try with_reducible rfl)); (try simp only [Act.put, List.setIfInBounds_toArray, List.set_cons_zero, List.set_cons_succ]))
  (refine tk 9 (some 48) ?_ ?_ ?_; rotate_left; (focus (intro wS hSw; go_simp; try with_reducible rfl)); (try simp only [Act.put, List.setIfInBounds_toArray, List.set_cons_zero, List.set_cons_succ]))
  (refine tk 10 (some 49) ?_ ?_ ?_; rotate_left; (focus (intro wS hSw; go_simp; try with_reducible rfl)); (try simp only [Act.put, List.setIfInBounds_toArray, List.set_cons_zero, List.set_cons_succ]))
  (refine tk 11 (some 50) ?_ ?_ ?_; rotate_left; (focus (intro wS hSw; (have qt := (hSw.cell (p := ⟨gB, 4, none⟩) lB id).trans f4); go_simp; try with_reducible rfl)); (try simp only [Act.put, List.setIfInBounds_toArray, List.set_cons_zero, List.set_cons_succ]))
  (refine tk 12 (some 51) ?_ ?_ ?_; rotate_left; (focus (intro wS hSw; go_simp; try with_reducible rfl)); (try simp only [Act.put, List.setIfInBounds_toArray, List.set_cons_zero, List.set_cons_succ]))
  (refine tk 13 (some 52) ?_ ?_ ?_; rotate_left; (focus (intro wS hSw; go_simp; try with_reducible rfl)); (try simp only [Act.put, List.setIfInBounds_toArray, List.set_cons_zero, List.set_cons_succ]))
  refine wpAnyH_ready (rs := [14]) (by kernel_rfl) (by simp) ?_
  refine AllReadyH.cons rfl (fun K hK => ?_) AllReadyH.nil
  go_simp
  go_at_call 171
  refine (show Calls _ _ _ _ _ from KP.out _).mono ?_
  rintro e x1 ⟨rfl, hp⟩
  have hn : NoW w0 x1 := Fp.trans hHeld hp (fun _ _ h => h)
  refine hK.out _ _ hn (fun hHeld => ?_)
  clear hK K hn hp
  try simp only [Act.put, List.setIfInBounds_toArray, List.set_cons_zero, List.set_cons_succ]
  refine wpAnyH_ready (rs := [15]) (by kernel_rfl) (by simp) ?_
  refine AllReadyH.cons rfl (fun K hK => ?_) AllReadyH.nil
  go_simp
  go_at_call 170
  refine (show Calls _ _ _ _ _ from KS.out _).mono ?_
  rintro e x2 ⟨rfl, hp⟩
  have hn : NoW w0 x2 := Fp.trans hHeld hp (fun _ _ h => h)
  refine hK.out _ _ hn (fun hHeld => ?_)
  clear hK K hn hp
  try simp only [Act.put, List.setIfInBounds_toArray, List.set_cons_zero, List.set_cons_succ]
  (refine tk 16 (some 6) ?_ ?_ ?_; rotate_left; (focus (intro wS hSw; go_simp; try with_reducible rfl)); (try simp only [Act.put, List.setIfInBounds_toArray, List.set_cons_zero, List.set_cons_succ]))
  refine wpAnyH_done (by kernel_rfl) ?_ _
  have hnf := N0.out.trans hHeld (fun _ _ h => h)
  clear hHeld lB f0 f1 f2 f3 f4
  go_wp2_with fail
  go_ret
  exact ⟨rfl, hnf⟩

set_option maxHeartbeats 4000000 in
set_option maxRecDepth 100000 in
theorem load_ask (sr ds a b fl : Nat) (d : List UInt8) (hz : b = 0) (ha : a < 65536) (hb : b < 65536) (hsr : sr < 4294967296) (hds : ds < 4294967296) (hd : d.length ≤ 1000) (w : World) :
    Calls Tryz.prog 120 #[.agg #[.int .u8 1, .int .u32 (sr : Nat), .int .u16 (a : Nat), .int .u32 (ds : Nat), .int .u16 (b : Nat)], .int .u8 fl, str d] w (Ret1 (str (icmpSeal (icmpRaw a b d))) w) := by
  have KW := Lib.hid (fun W => r07_withid 8 a [0, 0, 0, 1] d ha rfl W)
  obtain ⟨re1, hre1⟩ : ∃ t, t = b16 a ++ ([0, 0, 0, 1] : List UInt8).drop 2 := ⟨_, rfl⟩
  have lr1 : re1.length = 4 := by rw [hre1]; rfl
  rw [← hre1] at KW
  have KP := Lib.hid (fun W => r07_put 8 re1 d (by omega) lr1 (by omega) W)
  obtain ⟨raw, hraw⟩ : ∃ t, t = [UInt8.ofNat 8, 0, 0, 0] ++ re1 ++ d := ⟨_, rfl⟩
  have lraw : raw.length = 8 + d.length := by rw [hraw]; simp [lr1]; omega
  rw [← hraw] at KP
  have KS := Lib.hid (fun W => r07_seal raw (by omega) (by omega) W)
  have hr : icmpRaw a b d = raw := by
    rw [hraw, hre1]
    unfold icmpRaw
    subst hz
    rfl
  rw [hr]
  generalize icmpSeal raw = out at *
  subst hz
  clear hr hraw lraw hre1 lr1
  go_enter Tryz.func120, Tryz.ntmps120
  go_upto_region 7 with fail
  have hb0 := heap_alloc_new w (.cells #[.int .u8 1, .int .u32 (sr : Nat), .int .u16 (a : Nat), .int .u32 (ds : Nat), .int .u16 0] 40)
  have hn0 : NoW w (w.alloc (.cells #[.int .u8 1, .int .u32 (sr : Nat), .int .u16 (a : Nat), .int .u32 (ds : Nat), .int .u16 0] 40)) := (Fp.refl _ _).alloc _
  generalize w.alloc (.cells #[.int .u8 1, .int .u32 (sr : Nat), .int .u16 (a : Nat), .int .u32 (ds : Nat), .int .u16 0] 40) = w0 at *
  obtain ⟨gB, hgB⟩ : ∃ gB, gB = w.heap.size := ⟨_, rfl⟩
  rw [← hgB] at hb0 ⊢
  have HgB := Lib.hid (show w.heap.size ≤ gB by omega)
  clear hgB
  have B0 := Lib.hid hb0
  have N0 := Lib.hid hn0
  clear hb0 hn0
  have f0 : w0.cell? ⟨gB, 0, none⟩ = some (.int .u8 1) := by simp [World.cell?, B0.out]
  have f1 : w0.cell? ⟨gB, 1, none⟩ = some (.int .u32 (sr : Nat)) := by simp [World.cell?, B0.out]
  have f2 : w0.cell? ⟨gB, 2, none⟩ = some (.int .u16 (a : Nat)) := by simp [World.cell?, B0.out]
  have f3 : w0.cell? ⟨gB, 3, none⟩ = some (.int .u32 (ds : Nat)) := by simp [World.cell?, B0.out]
  have f4 : w0.cell? ⟨gB, 4, none⟩ = some (.int .u16 0) := by simp [World.cell?, B0.out]
  have lB := cell_lt f0
  go_upto_region 8 with fail
  have hbM := heap_alloc_new w0 (.cells #[.int .u8 8, .int .u8 0, .int .u16 0, .string ⟨#[0, 0, 0, 1]⟩, str d] 280)
  have hnM : NoW w0 (w0.alloc (.cells #[.int .u8 8, .int .u8 0, .int .u16 0, .string ⟨#[0, 0, 0, 1]⟩, str d] 280)) := (Fp.refl _ _).alloc _
  generalize w0.alloc (.cells #[.int .u8 8, .int .u8 0, .int .u16 0, .string ⟨#[0, 0, 0, 1]⟩, str d] 280) = w1 at *
  obtain ⟨gM, hgM⟩ : ∃ gM, gM = w0.heap.size := ⟨_, rfl⟩
  rw [← hgM] at hbM ⊢
  have hBM : gB < gM := by rw [hgM]; exact lB
  have HgM := Lib.hid (show w.heap.size ≤ gM by have := HgB.out; omega)
  have B1 := Lib.hid ((hnM.block _ (Array.getElem?_eq_some_iff.1 B0.out).1 id).trans B0.out)
  have N1 := Lib.hid (N0.out.trans hnM (fun _ _ h => h))
  have M1 := Lib.hid hbM
  clear hbM hnM hgM lB f0 f1 f2 f3 f4
  have f0 : w1.cell? ⟨gB, 0, none⟩ = some (.int .u8 1) := by simp [World.cell?, B1.out]
  have f1 : w1.cell? ⟨gB, 1, none⟩ = some (.int .u32 (sr : Nat)) := by simp [World.cell?, B1.out]
  have f2 : w1.cell? ⟨gB, 2, none⟩ = some (.int .u16 (a : Nat)) := by simp [World.cell?, B1.out]
  have f3 : w1.cell? ⟨gB, 3, none⟩ = some (.int .u32 (ds : Nat)) := by simp [World.cell?, B1.out]
  have f4 : w1.cell? ⟨gB, 4, none⟩ = some (.int .u16 0) := by simp [World.cell?, B1.out]
  have lB := cell_lt f0
  have m0 : w1.cell? ⟨gM, 0, none⟩ = some (.int .u8 8) := by simp [World.cell?, M1.out]
  have zm0 : w1.frozen? ⟨gM, 0, none⟩ = false := by simp [World.frozen?, M1.out]
  have m1 : w1.cell? ⟨gM, 1, none⟩ = some (.int .u8 0) := by simp [World.cell?, M1.out]
  have zm1 : w1.frozen? ⟨gM, 1, none⟩ = false := by simp [World.frozen?, M1.out]
  have m2 : w1.cell? ⟨gM, 2, none⟩ = some (.int .u16 0) := by simp [World.cell?, M1.out]
  have zm2 : w1.frozen? ⟨gM, 2, none⟩ = false := by simp [World.frozen?, M1.out]
  have m3 : w1.cell? ⟨gM, 3, none⟩ = some (.string ⟨#[0, 0, 0, 1]⟩) := by simp [World.cell?, M1.out]
  have zm3 : w1.frozen? ⟨gM, 3, none⟩ = false := by simp [World.frozen?, M1.out]
  have m4 : w1.cell? ⟨gM, 4, none⟩ = some (str d) := by simp [World.cell?, M1.out]
  have zm4 : w1.frozen? ⟨gM, 4, none⟩ = false := by simp [World.frozen?, M1.out]
  have lM := cell_lt m0
  go_wp2_with fail
  refine (show Calls _ _ _ _ _ from KW.out _).mono ?_
  rintro e w2 ⟨rfl, hp⟩
  have B2 := Lib.hid ((hp.block _ (Array.getElem?_eq_some_iff.1 B1.out).1 id).trans B1.out)
  have N2 := Lib.hid (N1.out.trans hp (fun _ _ h => h))
  have M2 := Lib.hid ((hp.block _ (Array.getElem?_eq_some_iff.1 M1.out).1 id).trans M1.out)
  clear hp lB f0 f1 f2 f3 f4 lM m0 zm0 m1 zm1 m2 zm2 m3 zm3 m4 zm4
  have m0 : w2.cell? ⟨gM, 0, none⟩ = some (.int .u8 8) := by simp [World.cell?, M2.out]
  have zm0 : w2.frozen? ⟨gM, 0, none⟩ = false := by simp [World.frozen?, M2.out]
  have m1 : w2.cell? ⟨gM, 1, none⟩ = some (.int .u8 0) := by simp [World.cell?, M2.out]
  have zm1 : w2.frozen? ⟨gM, 1, none⟩ = false := by simp [World.frozen?, M2.out]
  have m2 : w2.cell? ⟨gM, 2, none⟩ = some (.int .u16 0) := by simp [World.cell?, M2.out]
  have zm2 : w2.frozen? ⟨gM, 2, none⟩ = false := by simp [World.frozen?, M2.out]
  have m3 : w2.cell? ⟨gM, 3, none⟩ = some (.string ⟨#[0, 0, 0, 1]⟩) := by simp [World.cell?, M2.out]
  have zm3 : w2.frozen? ⟨gM, 3, none⟩ = false := by simp [World.frozen?, M2.out]
  have m4 : w2.cell? ⟨gM, 4, none⟩ = some (str d) := by simp [World.cell?, M2.out]
  have zm4 : w2.frozen? ⟨gM, 4, none⟩ = false := by simp [World.frozen?, M2.out]
  have lM := cell_lt m0
  go_upto_region 9 with fail
  obtain ⟨W, hW, hb2, hf2⟩ := set5 w2 gM 280 (.int .u8 8) (.int .u8 0) (.int .u16 0) (.string ⟨#[0, 0, 0, 1]⟩) (str d) M2.out (.int .u8 8) (.int .u8 0) (.int .u16 0) (str re1) (str d)
  rw [← hW]
  have B3 := Lib.hid ((hf2.block gB (Array.getElem?_eq_some_iff.1 B2.out).1 (by omega)).trans B2.out)
  have N3 := Lib.hid (N2.out.trans hf2 (fun i hi e => by have h1 : i = gM := e; have h2 := HgM.out; omega))
  have M3 := Lib.hid hb2
  clear hW hf2 hb2 B2 N2 M2 lM m0 zm0 m1 zm1 m2 zm2 m3 zm3 m4 zm4
  obtain ⟨w3, hw⟩ : ∃ w3, w3 = W := ⟨_, rfl⟩
  subst hw
  have f0 : w3.cell? ⟨gB, 0, none⟩ = some (.int .u8 1) := by simp [World.cell?, B3.out]
  have f1 : w3.cell? ⟨gB, 1, none⟩ = some (.int .u32 (sr : Nat)) := by simp [World.cell?, B3.out]
  have f2 : w3.cell? ⟨gB, 2, none⟩ = some (.int .u16 (a : Nat)) := by simp [World.cell?, B3.out]
  have f3 : w3.cell? ⟨gB, 3, none⟩ = some (.int .u32 (ds : Nat)) := by simp [World.cell?, B3.out]
  have f4 : w3.cell? ⟨gB, 4, none⟩ = some (.int .u16 0) := by simp [World.cell?, B3.out]
  have lB := cell_lt f0
  have m0 : w3.cell? ⟨gM, 0, none⟩ = some (.int .u8 8) := by simp [World.cell?, M3.out]
  have zm0 : w3.frozen? ⟨gM, 0, none⟩ = false := by simp [World.frozen?, M3.out]
  have m1 : w3.cell? ⟨gM, 1, none⟩ = some (.int .u8 0) := by simp [World.cell?, M3.out]
  have zm1 : w3.frozen? ⟨gM, 1, none⟩ = false := by simp [World.frozen?, M3.out]
  have m2 : w3.cell? ⟨gM, 2, none⟩ = some (.int .u16 0) := by simp [World.cell?, M3.out]
  have zm2 : w3.frozen? ⟨gM, 2, none⟩ = false := by simp [World.frozen?, M3.out]
  have m3 : w3.cell? ⟨gM, 3, none⟩ = some (str re1) := by simp [World.cell?, M3.out]
  have zm3 : w3.frozen? ⟨gM, 3, none⟩ = false := by simp [World.frozen?, M3.out]
  have m4 : w3.cell? ⟨gM, 4, none⟩ = some (str d) := by simp [World.cell?, M3.out]
  have zm4 : w3.frozen? ⟨gM, 4, none⟩ = false := by simp [World.frozen?, M3.out]
  have lM := cell_lt m0
  go_wp2_with fail
  refine (show Calls _ _ _ _ _ from KP.out _).mono ?_
  rintro e w4 ⟨rfl, hp⟩
  have NF := N3.out.trans hp (fun _ _ h => h)
  clear hp lM m0 zm0 m1 zm1 m2 zm2 m3 zm3 m4 zm4
  go_wp2_with fail
  refine (KS.out _).mono ?_
  rintro e w5 ⟨rfl, hp⟩
  go_wp2_with fail
  go_ret
  exact ⟨rfl, NF.trans hp (fun _ _ h => h)⟩

set_option maxHeartbeats 4000000 in
set_option maxRecDepth 100000 in
theorem load_told (sr ds a b fl : Nat) (d : List UInt8) (hz : b ≠ 0) (ha : a < 65536) (hb : b < 65536) (hsr : sr < 4294967296) (hds : ds < 4294967296) (hd : d.length ≤ 1000) (w : World) :
    Calls Tryz.prog 120 #[.agg #[.int .u8 1, .int .u32 (sr : Nat), .int .u16 (a : Nat), .int .u32 (ds : Nat), .int .u16 (b : Nat)], .int .u8 fl, str d] w (Ret1 (str (icmpSeal (icmpRaw a b d))) w) := by
  have KW := Lib.hid (fun W => r07_withid 8 a [0, 0, 0, 1] d ha rfl W)
  obtain ⟨re1, hre1⟩ : ∃ t, t = b16 a ++ ([0, 0, 0, 1] : List UInt8).drop 2 := ⟨_, rfl⟩
  have lr1 : re1.length = 4 := by rw [hre1]; rfl
  rw [← hre1] at KW
  have KX := Lib.hid (fun W => r07_withid 0 b re1 d hb lr1 W)
  obtain ⟨re2, hre2⟩ : ∃ t, t = b16 b ++ re1.drop 2 := ⟨_, rfl⟩
  have lr2 : re2.length = 4 := by rw [hre2]; simp [b16_len, lr1]
  rw [← hre2] at KX
  have KP := Lib.hid (fun W => r07_put 0 re2 d (by omega) lr2 (by omega) W)
  obtain ⟨raw, hraw⟩ : ∃ t, t = [UInt8.ofNat 0, 0, 0, 0] ++ re2 ++ d := ⟨_, rfl⟩
  have lraw : raw.length = 8 + d.length := by rw [hraw]; simp [lr2]; omega
  rw [← hraw] at KP
  have KS := Lib.hid (fun W => r07_seal raw (by omega) (by omega) W)
  have hr : icmpRaw a b d = raw := by
    rw [hraw, hre2, hre1]
    unfold icmpRaw
    rw [if_neg hz, if_neg hz]
    rfl
  rw [hr]
  generalize icmpSeal raw = out at *
  clear hr hraw lraw hre1 hre2 lr2 lr1
  have e0 : ((b : Int) != 0) = true := by simp [bne]; omega
  go_enter Tryz.func120, Tryz.ntmps120
  go_upto_region 7 with fail
  have hb0 := heap_alloc_new w (.cells #[.int .u8 1, .int .u32 (sr : Nat), .int .u16 (a : Nat), .int .u32 (ds : Nat), .int .u16 (b : Nat)] 40)
  have hn0 : NoW w (w.alloc (.cells #[.int .u8 1, .int .u32 (sr : Nat), .int .u16 (a : Nat), .int .u32 (ds : Nat), .int .u16 (b : Nat)] 40)) := (Fp.refl _ _).alloc _
  generalize w.alloc (.cells #[.int .u8 1, .int .u32 (sr : Nat), .int .u16 (a : Nat), .int .u32 (ds : Nat), .int .u16 (b : Nat)] 40) = w0 at *
  obtain ⟨gB, hgB⟩ : ∃ gB, gB = w.heap.size := ⟨_, rfl⟩
  rw [← hgB] at hb0 ⊢
  have HgB := Lib.hid (show w.heap.size ≤ gB by omega)
  clear hgB
  have B0 := Lib.hid hb0
  have N0 := Lib.hid hn0
  clear hb0 hn0
  have f0 : w0.cell? ⟨gB, 0, none⟩ = some (.int .u8 1) := by simp [World.cell?, B0.out]
  have f1 : w0.cell? ⟨gB, 1, none⟩ = some (.int .u32 (sr : Nat)) := by simp [World.cell?, B0.out]
  have f2 : w0.cell? ⟨gB, 2, none⟩ = some (.int .u16 (a : Nat)) := by simp [World.cell?, B0.out]
  have f3 : w0.cell? ⟨gB, 3, none⟩ = some (.int .u32 (ds : Nat)) := by simp [World.cell?, B0.out]
  have f4 : w0.cell? ⟨gB, 4, none⟩ = some (.int .u16 (b : Nat)) := by simp [World.cell?, B0.out]
  have lB := cell_lt f0
  go_upto_region 8 with fail
  have hbM := heap_alloc_new w0 (.cells #[.int .u8 8, .int .u8 0, .int .u16 0, .string ⟨#[0, 0, 0, 1]⟩, str d] 280)
  have hnM : NoW w0 (w0.alloc (.cells #[.int .u8 8, .int .u8 0, .int .u16 0, .string ⟨#[0, 0, 0, 1]⟩, str d] 280)) := (Fp.refl _ _).alloc _
  generalize w0.alloc (.cells #[.int .u8 8, .int .u8 0, .int .u16 0, .string ⟨#[0, 0, 0, 1]⟩, str d] 280) = w1 at *
  obtain ⟨gM, hgM⟩ : ∃ gM, gM = w0.heap.size := ⟨_, rfl⟩
  rw [← hgM] at hbM ⊢
  have hBM : gB < gM := by rw [hgM]; exact lB
  have HgM := Lib.hid (show w.heap.size ≤ gM by have := HgB.out; omega)
  have B1 := Lib.hid ((hnM.block _ (Array.getElem?_eq_some_iff.1 B0.out).1 id).trans B0.out)
  have N1 := Lib.hid (N0.out.trans hnM (fun _ _ h => h))
  have M1 := Lib.hid hbM
  clear hbM hnM hgM lB f0 f1 f2 f3 f4
  have f0 : w1.cell? ⟨gB, 0, none⟩ = some (.int .u8 1) := by simp [World.cell?, B1.out]
  have f1 : w1.cell? ⟨gB, 1, none⟩ = some (.int .u32 (sr : Nat)) := by simp [World.cell?, B1.out]
  have f2 : w1.cell? ⟨gB, 2, none⟩ = some (.int .u16 (a : Nat)) := by simp [World.cell?, B1.out]
  have f3 : w1.cell? ⟨gB, 3, none⟩ = some (.int .u32 (ds : Nat)) := by simp [World.cell?, B1.out]
  have f4 : w1.cell? ⟨gB, 4, none⟩ = some (.int .u16 (b : Nat)) := by simp [World.cell?, B1.out]
  have lB := cell_lt f0
  have m0 : w1.cell? ⟨gM, 0, none⟩ = some (.int .u8 8) := by simp [World.cell?, M1.out]
  have zm0 : w1.frozen? ⟨gM, 0, none⟩ = false := by simp [World.frozen?, M1.out]
  have m1 : w1.cell? ⟨gM, 1, none⟩ = some (.int .u8 0) := by simp [World.cell?, M1.out]
  have zm1 : w1.frozen? ⟨gM, 1, none⟩ = false := by simp [World.frozen?, M1.out]
  have m2 : w1.cell? ⟨gM, 2, none⟩ = some (.int .u16 0) := by simp [World.cell?, M1.out]
  have zm2 : w1.frozen? ⟨gM, 2, none⟩ = false := by simp [World.frozen?, M1.out]
  have m3 : w1.cell? ⟨gM, 3, none⟩ = some (.string ⟨#[0, 0, 0, 1]⟩) := by simp [World.cell?, M1.out]
  have zm3 : w1.frozen? ⟨gM, 3, none⟩ = false := by simp [World.frozen?, M1.out]
  have m4 : w1.cell? ⟨gM, 4, none⟩ = some (str d) := by simp [World.cell?, M1.out]
  have zm4 : w1.frozen? ⟨gM, 4, none⟩ = false := by simp [World.frozen?, M1.out]
  have lM := cell_lt m0
  go_wp2_with fail
  refine (show Calls _ _ _ _ _ from KW.out _).mono ?_
  rintro e w2 ⟨rfl, hp⟩
  have B2 := Lib.hid ((hp.block _ (Array.getElem?_eq_some_iff.1 B1.out).1 id).trans B1.out)
  have N2 := Lib.hid (N1.out.trans hp (fun _ _ h => h))
  have M2 := Lib.hid ((hp.block _ (Array.getElem?_eq_some_iff.1 M1.out).1 id).trans M1.out)
  clear hp lB f0 f1 f2 f3 f4 lM m0 zm0 m1 zm1 m2 zm2 m3 zm3 m4 zm4
  have m0 : w2.cell? ⟨gM, 0, none⟩ = some (.int .u8 8) := by simp [World.cell?, M2.out]
  have zm0 : w2.frozen? ⟨gM, 0, none⟩ = false := by simp [World.frozen?, M2.out]
  have m1 : w2.cell? ⟨gM, 1, none⟩ = some (.int .u8 0) := by simp [World.cell?, M2.out]
  have zm1 : w2.frozen? ⟨gM, 1, none⟩ = false := by simp [World.frozen?, M2.out]
  have m2 : w2.cell? ⟨gM, 2, none⟩ = some (.int .u16 0) := by simp [World.cell?, M2.out]
  have zm2 : w2.frozen? ⟨gM, 2, none⟩ = false := by simp [World.frozen?, M2.out]
  have m3 : w2.cell? ⟨gM, 3, none⟩ = some (.string ⟨#[0, 0, 0, 1]⟩) := by simp [World.cell?, M2.out]
  have zm3 : w2.frozen? ⟨gM, 3, none⟩ = false := by simp [World.frozen?, M2.out]
  have m4 : w2.cell? ⟨gM, 4, none⟩ = some (str d) := by simp [World.cell?, M2.out]
  have zm4 : w2.frozen? ⟨gM, 4, none⟩ = false := by simp [World.frozen?, M2.out]
  have lM := cell_lt m0
  go_upto_region 9 with fail
  obtain ⟨W, hW, hb2, hf2⟩ := set5 w2 gM 280 (.int .u8 8) (.int .u8 0) (.int .u16 0) (.string ⟨#[0, 0, 0, 1]⟩) (str d) M2.out (.int .u8 8) (.int .u8 0) (.int .u16 0) (str re1) (str d)
  rw [← hW]
  have B3 := Lib.hid ((hf2.block gB (Array.getElem?_eq_some_iff.1 B2.out).1 (by omega)).trans B2.out)
  have N3 := Lib.hid (N2.out.trans hf2 (fun i hi e => by have h1 : i = gM := e; have h2 := HgM.out; omega))
  have M3 := Lib.hid hb2
  clear hW hf2 hb2 B2 N2 M2 lM m0 zm0 m1 zm1 m2 zm2 m3 zm3 m4 zm4
  obtain ⟨w3, hw⟩ : ∃ w3, w3 = W := ⟨_, rfl⟩
  subst hw
  have f0 : w3.cell? ⟨gB, 0, none⟩ = some (.int .u8 1) := by simp [World.cell?, B3.out]
  have f1 : w3.cell? ⟨gB, 1, none⟩ = some (.int .u32 (sr : Nat)) := by simp [World.cell?, B3.out]
  have f2 : w3.cell? ⟨gB, 2, none⟩ = some (.int .u16 (a : Nat)) := by simp [World.cell?, B3.out]
  have f3 : w3.cell? ⟨gB, 3, none⟩ = some (.int .u32 (ds : Nat)) := by simp [World.cell?, B3.out]
  have f4 : w3.cell? ⟨gB, 4, none⟩ = some (.int .u16 (b : Nat)) := by simp [World.cell?, B3.out]
  have lB := cell_lt f0
  have m0 : w3.cell? ⟨gM, 0, none⟩ = some (.int .u8 8) := by simp [World.cell?, M3.out]
  have zm0 : w3.frozen? ⟨gM, 0, none⟩ = false := by simp [World.frozen?, M3.out]
  have m1 : w3.cell? ⟨gM, 1, none⟩ = some (.int .u8 0) := by simp [World.cell?, M3.out]
  have zm1 : w3.frozen? ⟨gM, 1, none⟩ = false := by simp [World.frozen?, M3.out]
  have m2 : w3.cell? ⟨gM, 2, none⟩ = some (.int .u16 0) := by simp [World.cell?, M3.out]
  have zm2 : w3.frozen? ⟨gM, 2, none⟩ = false := by simp [World.frozen?, M3.out]
  have m3 : w3.cell? ⟨gM, 3, none⟩ = some (str re1) := by simp [World.cell?, M3.out]
  have zm3 : w3.frozen? ⟨gM, 3, none⟩ = false := by simp [World.frozen?, M3.out]
  have m4 : w3.cell? ⟨gM, 4, none⟩ = some (str d) := by simp [World.cell?, M3.out]
  have zm4 : w3.frozen? ⟨gM, 4, none⟩ = false := by simp [World.frozen?, M3.out]
  have lM := cell_lt m0
  go_upto_region 11 with fail
  have hset := heap_set w3 gM 0 _ _ (.int .u8 0) M3.out
  simp only [List.setIfInBounds_toArray, List.set_cons_zero, List.set_cons_succ] at hset
  have hn3 := N3.out.setCell (p := ⟨gM, 0, none⟩) (Or.inl HgM.out) (.int .u8 0)
  have hB3 := (heap_set_other w3 gM gB 0 (.int .u8 0) (by omega)).trans B3.out
  generalize w3.setCell ⟨gM, 0, none⟩ (.int .u8 0) = w4 at *
  have B4 := Lib.hid hB3
  have N4 := Lib.hid hn3
  have M4 := Lib.hid hset
  clear hset hn3 hB3 B3 N3 M3 lB f0 f1 f2 f3 f4 lM m0 zm0 m1 zm1 m2 zm2 m3 zm3 m4 zm4
  have f0 : w4.cell? ⟨gB, 0, none⟩ = some (.int .u8 1) := by simp [World.cell?, B4.out]
  have f1 : w4.cell? ⟨gB, 1, none⟩ = some (.int .u32 (sr : Nat)) := by simp [World.cell?, B4.out]
  have f2 : w4.cell? ⟨gB, 2, none⟩ = some (.int .u16 (a : Nat)) := by simp [World.cell?, B4.out]
  have f3 : w4.cell? ⟨gB, 3, none⟩ = some (.int .u32 (ds : Nat)) := by simp [World.cell?, B4.out]
  have f4 : w4.cell? ⟨gB, 4, none⟩ = some (.int .u16 (b : Nat)) := by simp [World.cell?, B4.out]
  have lB := cell_lt f0
  have m0 : w4.cell? ⟨gM, 0, none⟩ = some (.int .u8 0) := by simp [World.cell?, M4.out]
  have zm0 : w4.frozen? ⟨gM, 0, none⟩ = false := by simp [World.frozen?, M4.out]
  have m1 : w4.cell? ⟨gM, 1, none⟩ = some (.int .u8 0) := by simp [World.cell?, M4.out]
  have zm1 : w4.frozen? ⟨gM, 1, none⟩ = false := by simp [World.frozen?, M4.out]
  have m2 : w4.cell? ⟨gM, 2, none⟩ = some (.int .u16 0) := by simp [World.cell?, M4.out]
  have zm2 : w4.frozen? ⟨gM, 2, none⟩ = false := by simp [World.frozen?, M4.out]
  have m3 : w4.cell? ⟨gM, 3, none⟩ = some (str re1) := by simp [World.cell?, M4.out]
  have zm3 : w4.frozen? ⟨gM, 3, none⟩ = false := by simp [World.frozen?, M4.out]
  have m4 : w4.cell? ⟨gM, 4, none⟩ = some (str d) := by simp [World.cell?, M4.out]
  have zm4 : w4.frozen? ⟨gM, 4, none⟩ = false := by simp [World.frozen?, M4.out]
  have lM := cell_lt m0
  go_wp2_with fail
  refine (show Calls _ _ _ _ _ from KX.out _).mono ?_
  rintro e w5 ⟨rfl, hp⟩
  have B5 := Lib.hid ((hp.block _ (Array.getElem?_eq_some_iff.1 B4.out).1 id).trans B4.out)
  have N5 := Lib.hid (N4.out.trans hp (fun _ _ h => h))
  have M5 := Lib.hid ((hp.block _ (Array.getElem?_eq_some_iff.1 M4.out).1 id).trans M4.out)
  clear hp lB f0 f1 f2 f3 f4 lM m0 zm0 m1 zm1 m2 zm2 m3 zm3 m4 zm4
  have m0 : w5.cell? ⟨gM, 0, none⟩ = some (.int .u8 0) := by simp [World.cell?, M5.out]
  have zm0 : w5.frozen? ⟨gM, 0, none⟩ = false := by simp [World.frozen?, M5.out]
  have m1 : w5.cell? ⟨gM, 1, none⟩ = some (.int .u8 0) := by simp [World.cell?, M5.out]
  have zm1 : w5.frozen? ⟨gM, 1, none⟩ = false := by simp [World.frozen?, M5.out]
  have m2 : w5.cell? ⟨gM, 2, none⟩ = some (.int .u16 0) := by simp [World.cell?, M5.out]
  have zm2 : w5.frozen? ⟨gM, 2, none⟩ = false := by simp [World.frozen?, M5.out]
  have m3 : w5.cell? ⟨gM, 3, none⟩ = some (str re1) := by simp [World.cell?, M5.out]
  have zm3 : w5.frozen? ⟨gM, 3, none⟩ = false := by simp [World.frozen?, M5.out]
  have m4 : w5.cell? ⟨gM, 4, none⟩ = some (str d) := by simp [World.cell?, M5.out]
  have zm4 : w5.frozen? ⟨gM, 4, none⟩ = false := by simp [World.frozen?, M5.out]
  have lM := cell_lt m0
  go_upto_region 12 with fail
  obtain ⟨W, hW, hb2, hf2⟩ := set5 w5 gM 280 (.int .u8 0) (.int .u8 0) (.int .u16 0) (str re1) (str d) M5.out (.int .u8 0) (.int .u8 0) (.int .u16 0) (str re2) (str d)
  rw [← hW]
  have B6 := Lib.hid ((hf2.block gB (Array.getElem?_eq_some_iff.1 B5.out).1 (by omega)).trans B5.out)
  have N6 := Lib.hid (N5.out.trans hf2 (fun i hi e => by have h1 : i = gM := e; have h2 := HgM.out; omega))
  have M6 := Lib.hid hb2
  clear hW hf2 hb2 B5 N5 M5 lM m0 zm0 m1 zm1 m2 zm2 m3 zm3 m4 zm4
  obtain ⟨w6, hw⟩ : ∃ w6, w6 = W := ⟨_, rfl⟩
  subst hw
  have m0 : w6.cell? ⟨gM, 0, none⟩ = some (.int .u8 0) := by simp [World.cell?, M6.out]
  have zm0 : w6.frozen? ⟨gM, 0, none⟩ = false := by simp [World.frozen?, M6.out]
  have m1 : w6.cell? ⟨gM, 1, none⟩ = some (.int .u8 0) := by simp [World.cell?, M6.out]
  have zm1 : w6.frozen? ⟨gM, 1, none⟩ = false := by simp [World.frozen?, M6.out]
  have m2 : w6.cell? ⟨gM, 2, none⟩ = some (.int .u16 0) := by simp [World.cell?, M6.out]
  have zm2 : w6.frozen? ⟨gM, 2, none⟩ = false := by simp [World.frozen?, M6.out]
  have m3 : w6.cell? ⟨gM, 3, none⟩ = some (str re2) := by simp [World.cell?, M6.out]
  have zm3 : w6.frozen? ⟨gM, 3, none⟩ = false := by simp [World.frozen?, M6.out]
  have m4 : w6.cell? ⟨gM, 4, none⟩ = some (str d) := by simp [World.cell?, M6.out]
  have zm4 : w6.frozen? ⟨gM, 4, none⟩ = false := by simp [World.frozen?, M6.out]
  have lM := cell_lt m0
  go_wp2_with fail
  refine (show Calls _ _ _ _ _ from KP.out _).mono ?_
  rintro e w7 ⟨rfl, hp⟩
  have NF := N6.out.trans hp (fun _ _ h => h)
  clear hp lM m0 zm0 m1 zm1 m2 zm2 m3 zm3 m4 zm4
  go_wp2_with fail
  refine (KS.out _).mono ?_
  rintro e w8 ⟨rfl, hp⟩
  go_wp2_with fail
  go_ret
  exact ⟨rfl, NF.trans hp (fun _ _ h => h)⟩

set_option maxHeartbeats 2000000 in
set_option maxRecDepth 100000 in
theorem made_ok (pr sr ds a b fl ttl : Nat) (d ld : List UInt8) (httl : ttl < 256) (hpr : pr < 256) (hsr : sr < 4294967296) (hds : ds < 4294967296) (hld : ld.length ≤ 2028)
    (KL : ∀ W, Calls Tryz.prog 120 #[.agg #[.int .u8 (pr : Nat), .int .u32 (sr : Nat), .int .u16 (a : Nat), .int .u32 (ds : Nat), .int .u16 (b : Nat)], .int .u8 (fl : Nat), str d] W (Ret1 (str ld) W)) (w : World) :
    Calls Tryz.prog 59 #[.agg #[.int .u8 (pr : Nat), .int .u32 (sr : Nat), .int .u16 (a : Nat), .int .u32 (ds : Nat), .int .u16 (b : Nat)], .int .u8 (fl : Nat), .int .u8 (ttl : Nat), str d] w (Ret1 (str (ipPut ttl pr sr ds ld)) w) := by
  have KP := Lib.hid (fun W => r04_put ttl pr sr ds ld httl hpr hsr hds hld W)
  generalize ipPut ttl pr sr ds ld = out at *
  have KLL := Lib.hid KL
  clear KL
  go_enter Tryz.func59, Tryz.ntmps59
  go_upto_region 1 with fail
  have hb0 := heap_alloc_new w (.cells #[.int .u8 (pr : Nat), .int .u32 (sr : Nat), .int .u16 (a : Nat), .int .u32 (ds : Nat), .int .u16 (b : Nat)] 40)
  have hn0 : NoW w (w.alloc (.cells #[.int .u8 (pr : Nat), .int .u32 (sr : Nat), .int .u16 (a : Nat), .int .u32 (ds : Nat), .int .u16 (b : Nat)] 40)) := (Fp.refl _ _).alloc _
  generalize w.alloc (.cells #[.int .u8 (pr : Nat), .int .u32 (sr : Nat), .int .u16 (a : Nat), .int .u32 (ds : Nat), .int .u16 (b : Nat)] 40) = w0 at *
  obtain ⟨gB, hgB⟩ : ∃ gB, gB = w.heap.size := ⟨_, rfl⟩
  rw [← hgB] at hb0 ⊢
  clear hgB
  have B0 := Lib.hid hb0
  have N0 := Lib.hid hn0
  clear hb0 hn0
  have f0 : w0.cell? ⟨gB, 0, none⟩ = some (.int .u8 (pr : Nat)) := by simp [World.cell?, B0.out]
  have f1 : w0.cell? ⟨gB, 1, none⟩ = some (.int .u32 (sr : Nat)) := by simp [World.cell?, B0.out]
  have f2 : w0.cell? ⟨gB, 2, none⟩ = some (.int .u16 (a : Nat)) := by simp [World.cell?, B0.out]
  have f3 : w0.cell? ⟨gB, 3, none⟩ = some (.int .u32 (ds : Nat)) := by simp [World.cell?, B0.out]
  have f4 : w0.cell? ⟨gB, 4, none⟩ = some (.int .u16 (b : Nat)) := by simp [World.cell?, B0.out]
  have lB := cell_lt f0
  refine wp_region_held_drew (S := fun wx => NoW w0 wx) (by kernel_rfl) (Fp.drew (Fp.refl _ _)) (fun hHeld => ?_)
  generalize w0.drew = wd at *
  (refine tk 0 (some 12) ?_ ?_ ?_; rotate_left; (focus (intro wS hSw; go_simp; try with_reducible rfl)); (try simp only [Act.put, List.setIfInBounds_toArray, List.set_cons_zero, List.set_cons_succ]))
  (refine tk 1 (some 13) ?_ ?_ ?_; rotate_left; (focus (intro wS hSw; go_simp; try with_reducible rfl)); (try simp only [Act.put, List.setIfInBounds_toArray, List.set_cons_zero, List.set_cons_succ]))
  (refine tk 2 (some 14) ?_ ?_ ?_; rotate_left; (focus (intro wS hSw; (have qt := (hSw.cell (p := ⟨gB, 0, none⟩) lB id).trans f0); go_simp; try with_reducible rfl)); (try simp only [Act.put, List.setIfInBounds_toArray, List.set_cons_zero, List.set_cons_succ]))
  (refine tk 3 (some 15) ?_ ?_ ?_; rotate_left; (focus (intro wS hSw; go_simp; try with_reducible rfl)); (try simp only [Act.put, List.setIfInBounds_toArray, List.set_cons_zero, List.set_cons_succ]))
  (refine tk 4 (some 16) ?_ ?_ ?_; rotate_left; (focus (intro wS hSw; go_simp; try with_reducible rfl)); (try simp only [Act.put, List.setIfInBounds_toArray, List.set_cons_zero, List.set_cons_succ]))
  (refine tk 5 (some 17) ?_ ?_ ?_; rotate_left; (focus (intro wS hSw; (have qt := (hSw.cell (p := ⟨gB, 1, none⟩) lB id).trans f1); go_simp; try with_reducible rfl)); (try simp only [Act.put, List.setIfInBounds_toArray, List.set_cons_zero, List.set_cons_succ]))
  (refine tk 6 (some 18) ?_ ?_ ?_; rotate_left; (focus (intro wS hSw; go_simp; try with_reducible rfl)); (try simp only [Act.put, List.setIfInBounds_toArray, List.set_cons_zero, List.set_cons_succ]))
  (refine tk 7 (some 19) ?_ ?_ ?_; rotate_left; (focus (intro wS hSw; go_simp; try with_reducible rfl)); (try simp only [Act.put, List.setIfInBounds_toArray, List.set_cons_zero, List.set_cons_succ]))
  (refine tk 8 (some 20) ?_ ?_ ?_; rotate_left; (focus (intro wS hSw; (have qt := (hSw.cell (p := ⟨gB, 3, none⟩) lB id).trans f3); go_simp; try with_reducible rfl)); (try simp only [Act.put, List.setIfInBounds_toArray, List.set_cons_zero, List.set_cons_succ]))
  (refine tk 9 (some 21) ?_ ?_ ?_; rotate_left; (focus (intro wS hSw; go_simp; try with_reducible rfl)); (try simp only [Act.put, List.setIfInBounds_toArray, List.set_cons_zero, List.set_cons_succ]))
  (refine tk 10 (some 22) ?_ ?_ ?_; rotate_left; (focus (intro wS hSw; (have qt0 := (hSw.cell (p := ⟨gB, 0, none⟩) lB id).trans f0); (have qt1 := (hSw.cell (p := ⟨gB, 1, none⟩) lB id).trans f1); (have qt2 := (hSw.cell (p := ⟨gB, 2, none⟩) lB id).trans f2); (have qt3 := (hSw.cell (p := ⟨gB, 3, none⟩) lB id).trans f3); (have qt4 := (hSw.cell (p := ⟨gB, 4, none⟩) lB id).trans f4); go_simp; try with_reducible rfl)); (try simp only [Act.put, List.setIfInBounds_toArray, List.set_cons_zero, List.set_cons_succ]))
  (refine tk 11 (some 23) ?_ ?_ ?_; rotate_left; (focus (intro wS hSw; go_simp; try with_reducible rfl)); (try simp only [Act.put, List.setIfInBounds_toArray, List.set_cons_zero, List.set_cons_succ]))
  (refine tk 12 (some 24) ?_ ?_ ?_; rotate_left; (focus (intro wS hSw; go_simp; try with_reducible rfl)); (try simp only [Act.put, List.setIfInBounds_toArray, List.set_cons_zero, List.set_cons_succ]))
  refine wpAnyH_ready (rs := [13]) (by kernel_rfl) (by simp) ?_
  refine AllReadyH.cons rfl (fun K hK => ?_) AllReadyH.nil
  go_simp
  go_at_call 120
  refine (show Calls _ _ _ _ _ from KLL.out _).mono ?_
  rintro e x1 ⟨rfl, hp⟩
  have hn : NoW w0 x1 := Fp.trans hHeld hp (fun _ _ h => h)
  refine hK.out _ _ hn (fun hHeld => ?_)
  clear hK K hn hp
  try simp only [Act.put, List.setIfInBounds_toArray, List.set_cons_zero, List.set_cons_succ]
  refine wpAnyH_ready (rs := [14]) (by kernel_rfl) (by simp) ?_
  refine AllReadyH.cons rfl (fun K hK => ?_) AllReadyH.nil
  go_simp
  go_at_call 118
  refine (show Calls _ _ _ _ _ from KP.out _).mono ?_
  rintro e x2 ⟨rfl, hp⟩
  have hn : NoW w0 x2 := Fp.trans hHeld hp (fun _ _ h => h)
  refine hK.out _ _ hn (fun hHeld => ?_)
  clear hK K hn hp
  try simp only [Act.put, List.setIfInBounds_toArray, List.set_cons_zero, List.set_cons_succ]
  (refine tk 15 (some 11) ?_ ?_ ?_; rotate_left; (focus (intro wS hSw; go_simp; try with_reducible rfl)); (try simp only [Act.put, List.setIfInBounds_toArray, List.set_cons_zero, List.set_cons_succ]))
  (refine tk 16 (some 27) ?_ ?_ ?_; rotate_left; (focus (intro wS hSw; go_simp; try with_reducible rfl)); (try simp only [Act.put, List.setIfInBounds_toArray, List.set_cons_zero, List.set_cons_succ]))
  (refine tk 17 (some 28) ?_ ?_ ?_; rotate_left; (focus (intro wS hSw; go_simp; try with_reducible rfl)); (try simp only [Act.put, List.setIfInBounds_toArray, List.set_cons_zero, List.set_cons_succ]))
  (refine tk 18 (some 9) ?_ ?_ ?_; rotate_left; (focus (intro wS hSw; go_simp; try with_reducible rfl)); (try simp only [Act.put, List.setIfInBounds_toArray, List.set_cons_zero, List.set_cons_succ]))
  (refine tk 19 (some 10) ?_ ?_ ?_; rotate_left; (focus (intro wS hSw; go_simp; try with_reducible rfl)); (try simp only [Act.put, List.setIfInBounds_toArray, List.set_cons_zero, List.set_cons_succ]))
  refine wpAnyH_done (by kernel_rfl) ?_ _
  have hnf := N0.out.trans hHeld (fun _ _ h => h)
  clear hHeld lB f0 f1 f2 f3 f4
  go_wp2_with fail
  go_ret
  exact ⟨rfl, hnf⟩

end Go.Proofs.YthmokdfigjffjaaGreatDoor
