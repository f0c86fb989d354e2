/- Chapter 08: tuples' packets (written by gen8k.py). -/
import Derived.Test.YtmghjaoodnkjlaaGreatDoorTa
import Derived.Test.YtmghjaoodnkjlaaGreatDoorTg
import Derived.Test.YtmghjaoodnkjlaaGreatDoorTh
import Derived.Test.YtmghjaoodnkjlaaGreatDoorTi
import Derived.Test.YtmghjaoodnkjlaaGreatDoorTj
namespace Go.Proofs.YtmghjaoodnkjlaaGreatDoor
set_option linter.unusedVariables false
set_option linter.unusedSimpArgs false
open Go.RowKit Go.Lib Go.Sort
theorem setT (w : World) (g : Nat) (T : TypeId) (z0 z1 z2 z3 z4 z5 z6 z7 z8 z9 z10 z11 z12 z13 z14 z15 z16 z17 : Value) (h : w.heap[g]? = some (.cells #[z0, z1, z2, z3, z4, z5, z6, z7, z8, z9, z10, z11, z12, z13, z14, z15, z16, z17] T (0, 0))) (x0 x1 x2 x3 x4 : Value) :
    ∃ W, W = (((((w.setCell ⟨g, 9, none⟩ x0).setCell ⟨g, 10, none⟩ x1).setCell ⟨g, 11, none⟩ x2).setCell ⟨g, 12, none⟩ x3).setCell ⟨g, 13, none⟩ x4) ∧ W.heap[g]? = some (.cells #[z0, z1, z2, z3, z4, z5, z6, z7, z8, x0, x1, x2, x3, x4, z14, z15, z16, z17] T (0, 0)) ∧ Fp (fun k => k = g) w W := by
  refine ⟨_, rfl, ?_, ?_⟩
  · have h0 := heap_set w g 9 _ T x0 h
    have h1 := heap_set _ g 10 _ T x1 h0
    have h2 := heap_set _ g 11 _ T x2 h1
    have h3 := heap_set _ g 12 _ T x3 h2
    have h4 := heap_set _ g 13 _ T x4 h3
    rw [h4]; simp
  · exact ((((((Fp.refl (fun k => k = g) w).setCell (p := ⟨g, 9, none⟩) (Or.inr rfl) x0).setCell (p := ⟨g, 10, none⟩) (Or.inr rfl) x1).setCell (p := ⟨g, 11, none⟩) (Or.inr rfl) x2).setCell (p := ⟨g, 12, none⟩) (Or.inr rfl) x3).setCell (p := ⟨g, 13, none⟩) (Or.inr rfl) x4)

set_option maxHeartbeats 2000000 in
set_option maxRecDepth 100000 in
theorem between_ok (g : Nat) (h0 h1 h2 h3 h7 s0 s1 s2 s3 s4 ki fl ask tt : Value) (ld : Value) (pr sr ds a b : Nat) (w : World) (hb : w.heap[g]? = some (.cells #[h0, h1, h2, h3, .int .u8 (pr : Nat), .int .u32 (sr : Nat), .int .u32 (ds : Nat), h7, ld, s0, s1, s2, s3, s4, ki, fl, ask, tt] 65 (0, 0))) :
    Calls Tryz.prog 97 #[.pointer (some ⟨g, 0, none⟩), .int .u16 a, .int .u16 b] w fun e w' => (∃ v, e = .returned v) ∧ w'.heap[g]? = some (.cells #[h0, h1, h2, h3, .int .u8 (pr : Nat), .int .u32 (sr : Nat), .int .u32 (ds : Nat), h7, ld, .int .u8 (pr : Nat), .int .u32 (sr : Nat), .int .u16 (a : Nat), .int .u32 (ds : Nat), .int .u16 (b : Nat), ki, fl, ask, tt] 65 (0, 0)) ∧ Fp (fun k => k = g) w w' := by
  have l0 := (Array.getElem?_eq_some_iff.1 hb).1
  have q4 : w.cell? ⟨g, 4, none⟩ = some (.int .u8 (pr : Nat)) := by simp [World.cell?, hb]
  have q5 : w.cell? ⟨g, 5, none⟩ = some (.int .u32 (sr : Nat)) := by simp [World.cell?, hb]
  have q6 : w.cell? ⟨g, 6, none⟩ = some (.int .u32 (ds : Nat)) := by simp [World.cell?, hb]
  have q9 : w.cell? ⟨g, 9, none⟩ = some (s0) := by simp [World.cell?, hb]
  have zq9 : w.frozen? ⟨g, 9, none⟩ = false := by simp [World.frozen?, hb]
  have q10 : w.cell? ⟨g, 10, none⟩ = some (s1) := by simp [World.cell?, hb]
  have zq10 : w.frozen? ⟨g, 10, none⟩ = false := by simp [World.frozen?, hb]
  have q11 : w.cell? ⟨g, 11, none⟩ = some (s2) := by simp [World.cell?, hb]
  have zq11 : w.frozen? ⟨g, 11, none⟩ = false := by simp [World.frozen?, hb]
  have q12 : w.cell? ⟨g, 12, none⟩ = some (s3) := by simp [World.cell?, hb]
  have zq12 : w.frozen? ⟨g, 12, none⟩ = false := by simp [World.frozen?, hb]
  have q13 : w.cell? ⟨g, 13, none⟩ = some (s4) := by simp [World.cell?, hb]
  have zq13 : w.frozen? ⟨g, 13, none⟩ = false := by simp [World.frozen?, hb]
  have HB := Lib.hid hb
  clear hb
  go_enter Tryz.func97, Tryz.ntmps97
  go_upto_region 0 with fail
  (refine wp_still_tail 24 (by kernel_rfl) (by kernel_rfl) ?_; simp only [List.take_succ_cons, List.take_zero, List.drop_succ_cons, List.drop_zero]; (repeat still_step); try refine wpStill_nil ?_)
  go_wp2_with fail
  obtain ⟨W, hW, hb2, hf2⟩ := setT w g 65 (h0) (h1) (h2) (h3) (.int .u8 (pr : Nat)) (.int .u32 (sr : Nat)) (.int .u32 (ds : Nat)) (h7) (ld) (s0) (s1) (s2) (s3) (s4) (ki) (fl) (ask) (tt) HB.out (.int .u8 (pr : Nat)) (.int .u32 (sr : Nat)) (.int .u16 (a : Nat)) (.int .u32 (ds : Nat)) (.int .u16 (b : Nat))
  rw [← hW]
  go_end0
  exact ⟨⟨_, rfl⟩, hb2, hf2.drew⟩

set_option maxHeartbeats 2000000 in
set_option maxRecDepth 100000 in
theorem seg_no (g : Nat) (h0 h1 h2 h3 h7 s0 s1 s2 s3 s4 ki fl ask tt : Value) (pr sr ds : Nat) (d : List UInt8) (hd : d.length ≤ 1000000) (hno : tcpOk d = false) (w : World) (hb : w.heap[g]? = some (.cells #[h0, h1, h2, h3, .int .u8 (pr : Nat), .int .u32 (sr : Nat), .int .u32 (ds : Nat), h7, str d, s0, s1, s2, s3, s4, ki, fl, ask, tt] 65 (0, 0))) :
    Calls Tryz.prog 56 #[.pointer (some ⟨g, 0, none⟩)] w fun e w' => e = .returned (.int .i64 7) ∧ Fp (fun k => k = g) w w' := by
  have q8 : w.cell? ⟨g, 8, none⟩ = some (str d) := by simp [World.cell?, hb]
  have K := Lib.hid (fun W => tcp_ok d hd W)
  rw [show tcV d = .tuple #[tcZ, str [], .bool false] from if_neg (by rw [hno]; exact Bool.false_ne_true)] at K
  unfold tcZ at K
  clear hb
  go_enter Tryz.func56, Tryz.ntmps56
  go_wp2_with fail
  refine (K.out _).mono ?_
  rintro e w1 ⟨rfl, hp⟩
  go_wp2_with fail
  go_ret
  exact ⟨rfl, ((hp.alloc _).mono (fun _ _ h => absurd h id))⟩

set_option maxHeartbeats 2000000 in
set_option maxRecDepth 100000 in
theorem dat_no (g : Nat) (h0 h1 h2 h3 h7 s0 s1 s2 s3 s4 ki fl ask tt : Value) (pr sr ds : Nat) (d : List UInt8) (hd : d.length ≤ 1000000) (hno : udpOk d = false) (w : World) (hb : w.heap[g]? = some (.cells #[h0, h1, h2, h3, .int .u8 (pr : Nat), .int .u32 (sr : Nat), .int .u32 (ds : Nat), h7, str d, s0, s1, s2, s3, s4, ki, fl, ask, tt] 65 (0, 0))) :
    Calls Tryz.prog 57 #[.pointer (some ⟨g, 0, none⟩)] w fun e w' => e = .returned (.int .i64 7) ∧ Fp (fun k => k = g) w w' := by
  have q8 : w.cell? ⟨g, 8, none⟩ = some (str d) := by simp [World.cell?, hb]
  have K := Lib.hid (fun W => udp_ok d hd W)
  rw [show udV d = .tuple #[udZ, str [], .bool false] from if_neg (by rw [hno]; exact Bool.false_ne_true)] at K
  unfold udZ at K
  clear hb
  go_enter Tryz.func57, Tryz.ntmps57
  go_wp2_with fail
  refine (K.out _).mono ?_
  rintro e w1 ⟨rfl, hp⟩
  go_wp2_with fail
  go_ret
  exact ⟨rfl, ((hp.alloc _).mono (fun _ _ h => absurd h id))⟩

set_option maxHeartbeats 2000000 in
set_option maxRecDepth 100000 in
theorem msg_no (g : Nat) (h0 h1 h2 h3 h7 s0 s1 s2 s3 s4 ki fl ask tt : Value) (pr sr ds : Nat) (d : List UInt8) (hd : d.length ≤ 1000000) (hno : d.length < 8) (w : World) (hb : w.heap[g]? = some (.cells #[h0, h1, h2, h3, .int .u8 (pr : Nat), .int .u32 (sr : Nat), .int .u32 (ds : Nat), h7, str d, s0, s1, s2, s3, s4, ki, fl, ask, tt] 65 (0, 0))) :
    Calls Tryz.prog 58 #[.pointer (some ⟨g, 0, none⟩)] w fun e w' => e = .returned (.int .i64 7) ∧ Fp (fun k => k = g) w w' := by
  have q8 : w.cell? ⟨g, 8, none⟩ = some (str d) := by simp [World.cell?, hb]
  have K := Lib.hid (fun W => icmp_short d hno W)
  unfold icZ at K
  clear hb
  go_enter Tryz.func58, Tryz.ntmps58
  go_wp2_with fail
  refine (K.out _).mono ?_
  rintro e w1 ⟨rfl, hp⟩
  go_wp2_with fail
  go_ret
  exact ⟨rfl, ((hp.alloc _).mono (fun _ _ h => absurd h id))⟩

set_option maxHeartbeats 2000000 in
set_option maxRecDepth 100000 in
theorem dat_yes (g : Nat) (h0 h1 h2 h3 h7 s0 s1 s2 s3 s4 ki fl ask tt : Value) (pr sr ds : Nat) (d : List UInt8) (hd : d.length ≤ 1000000) (hok : udpOk d = true) (w : World) (hb : w.heap[g]? = some (.cells #[h0, h1, h2, h3, .int .u8 (pr : Nat), .int .u32 (sr : Nat), .int .u32 (ds : Nat), h7, str d, s0, s1, s2, s3, s4, ki, fl, ask, tt] 65 (0, 0))) :
    Calls Tryz.prog 57 #[.pointer (some ⟨g, 0, none⟩)] w fun e w' => e = .returned (.int .i64 0) ∧ w'.heap[g]? = some (.cells #[h0, h1, h2, h3, .int .u8 (pr : Nat), .int .u32 (sr : Nat), .int .u32 (ds : Nat), h7, str d, .int .u8 (pr : Nat), .int .u32 (sr : Nat), .int .u16 (g16 d 0 : Nat), .int .u32 (ds : Nat), .int .u16 (g16 d 2 : Nat), ki, fl, ask, tt] 65 (0, 0)) ∧ Fp (fun k => k = g) w w' := by
  have lg := (Array.getElem?_eq_some_iff.1 hb).1
  have q8 : w.cell? ⟨g, 8, none⟩ = some (str d) := by simp [World.cell?, hb]
  have HB := Lib.hid hb
  clear hb
  have K := Lib.hid (fun W => udp_ok d hd W)
  rw [show udV d = .tuple #[.agg #[.int .u16 (g16 d 0 : Nat), .int .u16 (g16 d 2 : Nat), .int .u16 (g16 d 4 : Nat), .int .u16 (g16 d 6 : Nat)], str (d.drop 8), .bool true] from if_pos hok] at K
  go_enter Tryz.func57, Tryz.ntmps57
  go_wp2_with fail
  refine (K.out _).mono ?_
  rintro e w1 ⟨rfl, hp⟩
  have B1 := Lib.hid ((hp.block _ lg id).trans HB.out)
  have N1 := Lib.hid hp
  clear hp q8 HB
  go_upto_region 2 with fail
  have hbH := heap_alloc_new w1 (.cells #[.int .u16 (g16 d 0 : Nat), .int .u16 (g16 d 2 : Nat), .int .u16 (g16 d 4 : Nat), .int .u16 (g16 d 6 : Nat)] 100)
  have hnH : NoW w1 (w1.alloc (.cells #[.int .u16 (g16 d 0 : Nat), .int .u16 (g16 d 2 : Nat), .int .u16 (g16 d 4 : Nat), .int .u16 (g16 d 6 : Nat)] 100)) := (Fp.refl _ _).alloc _
  generalize w1.alloc (.cells #[.int .u16 (g16 d 0 : Nat), .int .u16 (g16 d 2 : Nat), .int .u16 (g16 d 4 : Nat), .int .u16 (g16 d 6 : Nat)] 100) = w2 at *
  obtain ⟨gH, hgH⟩ : ∃ gH, gH = w1.heap.size := ⟨_, rfl⟩
  rw [← hgH] at hbH ⊢
  have hgg : g < gH := by rw [hgH]; exact (Array.getElem?_eq_some_iff.1 B1.out).1
  have hwH : w.heap.size ≤ gH := by rw [hgH]; exact N1.out.size
  have H2 := Lib.hid hbH
  have B2 := Lib.hid ((hnH.block _ (Array.getElem?_eq_some_iff.1 B1.out).1 id).trans B1.out)
  have N2 := Lib.hid (N1.out.trans hnH (fun _ _ h => h))
  clear hbH hnH hgH B1 N1
  have N2 := Lib.hid (N2.out.mono (T := fun k => k = g) (fun _ _ h => absurd h id))
  have f0 : w2.cell? ⟨gH, 0, none⟩ = some (.int .u16 (g16 d 0 : Nat)) := by simp [World.cell?, H2.out]
  have f1 : w2.cell? ⟨gH, 1, none⟩ = some (.int .u16 (g16 d 2 : Nat)) := by simp [World.cell?, H2.out]
  have l8 := cell_lt f0
  go_wp2_with fail
  refine (between_ok g _ _ _ _ _ _ _ _ _ _ _ _ _ _ _ _ _ _ (g16 d 0) (g16 d 2) w2 B2.out).mono ?_
  rintro e w3 ⟨⟨ve, rfl⟩, hb3, hf3⟩
  have B3 := Lib.hid hb3
  have H3 := Lib.hid ((hf3.block gH (Array.getElem?_eq_some_iff.1 H2.out).1 (by omega)).trans H2.out)
  have N3 := Lib.hid (N2.out.trans hf3 (fun _ _ h => h))
  clear hb3 hf3
  go_wp2_with fail
  go_ret
  exact ⟨rfl, B3.out, N3.out⟩

theorem first_bits {f : Nat} (hf : f < 256) : (bits .and .u8 (f : Int) 23 == 2) = firstB f := by
  have h := u8_and_nat f 23 hf (by omega)
  have h' : bits .and .u8 (f : Int) 23 = ((f &&& 23 : Nat) : Int) := h
  rw [h']
  have k : ∀ f : Nat, f < 256 → (((f &&& 23 : Nat) : Int) == 2) = firstB f := by decide +kernel
  exact k f hf
set_option maxHeartbeats 2000000 in
set_option maxRecDepth 100000 in
theorem seg_yes (g : Nat) (h0 h1 h2 h3 h7 s0 s1 s2 s3 s4 ki fl ask tt : Value) (pr sr ds : Nat) (d : List UInt8) (hd : d.length ≤ 1000000) (hok : tcpOk d = true) (w : World) (hb : w.heap[g]? = some (.cells #[h0, h1, h2, h3, .int .u8 (pr : Nat), .int .u32 (sr : Nat), .int .u32 (ds : Nat), h7, str d, s0, s1, s2, s3, s4, ki, fl, ask, tt] 65 (0, 0))) :
    Calls Tryz.prog 56 #[.pointer (some ⟨g, 0, none⟩)] w fun e w' => e = .returned (.int .i64 0) ∧ w'.heap[g]? = some (.cells #[h0, h1, h2, h3, .int .u8 (pr : Nat), .int .u32 (sr : Nat), .int .u32 (ds : Nat), h7, str d, .int .u8 (pr : Nat), .int .u32 (sr : Nat), .int .u16 (g16 d 0 : Nat), .int .u32 (ds : Nat), .int .u16 (g16 d 2 : Nat), if firstB (byt d 13) = true then .int .i64 1 else ki, .int .u8 (byt d 13 : Nat), ask, tt] 65 (0, 0)) ∧ Fp (fun k => k = g) w w' := by
  obtain ⟨kv, hkv⟩ : ∃ kv : Value, kv = (if firstB (byt d 13) = true then .int .i64 1 else ki) := ⟨_, rfl⟩
  rw [← hkv]
  have HKV := Lib.hid hkv
  clear hkv
  have lg := (Array.getElem?_eq_some_iff.1 hb).1
  have q8 : w.cell? ⟨g, 8, none⟩ = some (str d) := by simp [World.cell?, hb]
  have HB := Lib.hid hb
  clear hb
  have K := Lib.hid (fun W => tcp_ok d hd W)
  rw [show tcV d = .tuple #[.agg #[.int .u16 (g16 d 0 : Nat), .int .u16 (g16 d 2 : Nat), .int .u32 (g32 d 4 : Nat), .int .u32 (g32 d 8 : Nat), .int .u8 (byt d 12 % 16 : Nat), .int .u8 (byt d 13 : Nat), .int .u16 (g16 d 14 : Nat), .int .u16 (g16 d 16 : Nat), .int .u16 (g16 d 18 : Nat), str ((d.take (byt d 12 / 16 * 4)).drop 20)], str (d.drop (byt d 12 / 16 * 4)), .bool true] from if_pos hok] at K
  obtain ⟨m, hm⟩ : ∃ m, m = byt d 12 % 16 := ⟨_, rfl⟩
  obtain ⟨own, ho⟩ : ∃ own, own = byt d 12 / 16 * 4 := ⟨_, rfl⟩
  rw [← hm, ← ho] at K
  clear hm ho
  have hfb := first_bits (byt_lt d 13)
  go_enter Tryz.func56, Tryz.ntmps56
  go_wp2_with fail
  refine (K.out _).mono ?_
  rintro e w1 ⟨rfl, hp⟩
  have B1 := Lib.hid ((hp.block _ lg id).trans HB.out)
  have N1 := Lib.hid hp
  clear hp q8 HB
  go_upto_region 2 with fail
  have hbH := heap_alloc_new w1 (.cells #[.int .u16 (g16 d 0 : Nat), .int .u16 (g16 d 2 : Nat), .int .u32 (g32 d 4 : Nat), .int .u32 (g32 d 8 : Nat), .int .u8 (m : Nat), .int .u8 (byt d 13 : Nat), .int .u16 (g16 d 14 : Nat), .int .u16 (g16 d 16 : Nat), .int .u16 (g16 d 18 : Nat), str ((d.take own).drop 20)] 51)
  have hnH : NoW w1 (w1.alloc (.cells #[.int .u16 (g16 d 0 : Nat), .int .u16 (g16 d 2 : Nat), .int .u32 (g32 d 4 : Nat), .int .u32 (g32 d 8 : Nat), .int .u8 (m : Nat), .int .u8 (byt d 13 : Nat), .int .u16 (g16 d 14 : Nat), .int .u16 (g16 d 16 : Nat), .int .u16 (g16 d 18 : Nat), str ((d.take own).drop 20)] 51)) := (Fp.refl _ _).alloc _
  generalize w1.alloc (.cells #[.int .u16 (g16 d 0 : Nat), .int .u16 (g16 d 2 : Nat), .int .u32 (g32 d 4 : Nat), .int .u32 (g32 d 8 : Nat), .int .u8 (m : Nat), .int .u8 (byt d 13 : Nat), .int .u16 (g16 d 14 : Nat), .int .u16 (g16 d 16 : Nat), .int .u16 (g16 d 18 : Nat), str ((d.take own).drop 20)] 51) = w2 at *
  obtain ⟨gH, hgH⟩ : ∃ gH, gH = w1.heap.size := ⟨_, rfl⟩
  rw [← hgH] at hbH ⊢
  have hgg : g < gH := by rw [hgH]; exact (Array.getElem?_eq_some_iff.1 B1.out).1
  have hwH : w.heap.size ≤ gH := by rw [hgH]; exact N1.out.size
  have H2 := Lib.hid hbH
  have B2 := Lib.hid ((hnH.block _ (Array.getElem?_eq_some_iff.1 B1.out).1 id).trans B1.out)
  have N2 := Lib.hid (N1.out.trans hnH (fun _ _ h => h))
  clear hbH hnH hgH B1 N1
  have N2 := Lib.hid (N2.out.mono (T := fun k => k = g) (fun _ _ h => absurd h id))
  have f0 : w2.cell? ⟨gH, 0, none⟩ = some (.int .u16 (g16 d 0 : Nat)) := by simp [World.cell?, H2.out]
  have f1 : w2.cell? ⟨gH, 1, none⟩ = some (.int .u16 (g16 d 2 : Nat)) := by simp [World.cell?, H2.out]
  have l8 := cell_lt f0
  go_wp2_with fail
  refine (between_ok g _ _ _ _ _ _ _ _ _ _ _ _ _ _ _ _ _ _ (g16 d 0) (g16 d 2) w2 B2.out).mono ?_
  rintro e w3 ⟨⟨ve, rfl⟩, hb3, hf3⟩
  have B3 := Lib.hid hb3
  have H3 := Lib.hid ((hf3.block gH (Array.getElem?_eq_some_iff.1 H2.out).1 (by omega)).trans H2.out)
  have N3 := Lib.hid (N2.out.trans hf3 (fun _ _ h => h))
  clear hb3 hf3
  clear f0 f1 l8
  have f5 : w3.cell? ⟨gH, 5, none⟩ = some (.int .u8 (byt d 13 : Nat)) := by simp [World.cell?, H3.out]
  have l8 := cell_lt f5
  have y15 : w3.cell? ⟨g, 15, none⟩ = some (fl) := by simp [World.cell?, B3.out]
  have yz15 : w3.frozen? ⟨g, 15, none⟩ = false := by simp [World.frozen?, B3.out]
  go_upto_region 6 with fail
  have hb := heap_set w3 g 15 _ _ (.int .u8 (byt d 13 : Nat)) B3.out
  simp only [List.setIfInBounds_toArray, List.set_cons_zero, List.set_cons_succ] at hb
  have hn2 := N3.out.setCell (p := ⟨g, 15, none⟩) (Or.inr rfl) (.int .u8 (byt d 13 : Nat))
  have hH2 := (heap_set_other w3 g gH 15 (.int .u8 (byt d 13 : Nat)) (by omega)).trans H3.out
  generalize w3.setCell ⟨g, 15, none⟩ (.int .u8 (byt d 13 : Nat)) = w4 at *
  have B4 := Lib.hid hb
  have N4 := Lib.hid hn2
  have H4 := Lib.hid hH2
  clear hb hn2 hH2 B3 N3 H3
  clear f5 l8 y15 yz15
  have f5 : w4.cell? ⟨gH, 5, none⟩ = some (.int .u8 (byt d 13 : Nat)) := by simp [World.cell?, H4.out]
  have l8 := cell_lt f5
  have y14 : w4.cell? ⟨g, 14, none⟩ = some (ki) := by simp [World.cell?, B4.out]
  have yz14 : w4.frozen? ⟨g, 14, none⟩ = false := by simp [World.frozen?, B4.out]
  rcases hfB : firstB (byt d 13) with _ | _
  · rw [hfB] at hfb
    have HfB := Lib.hid hfB
    clear hfB
    go_wp2_with fail
    go_ret
    exact ⟨rfl, by rw [HKV.out, if_neg (by rw [HfB.out]; exact Bool.false_ne_true)]; exact B4.out, N4.out⟩
  · rw [hfB] at hfb
    have HfB := Lib.hid hfB
    clear hfB
    go_upto_region 8 with fail
    have hb := heap_set w4 g 14 _ _ (.int .i64 1) B4.out
    simp only [List.setIfInBounds_toArray, List.set_cons_zero, List.set_cons_succ] at hb
    have hn2 := N4.out.setCell (p := ⟨g, 14, none⟩) (Or.inr rfl) (.int .i64 1)
    have hH2 := (heap_set_other w4 g gH 14 (.int .i64 1) (by omega)).trans H4.out
    generalize w4.setCell ⟨g, 14, none⟩ (.int .i64 1) = w5 at *
    have B5 := Lib.hid hb
    have N5 := Lib.hid hn2
    have H5 := Lib.hid hH2
    clear hb hn2 hH2 B4 N4 H4
    go_wp2_with fail
    go_ret
    exact ⟨rfl, by rw [HKV.out, if_pos HfB.out]; exact B5.out, N5.out⟩

set_option maxHeartbeats 4000000 in
set_option maxRecDepth 100000 in
theorem msg_ask (g : Nat) (h0 h1 h2 h3 h7 s0 s1 s2 s3 s4 ki fl ask tt : Value) (pr sr ds : Nat) (d : List UInt8) (hd : d.length ≤ 1000000) (h8 : 8 ≤ d.length) (EB : Bool) (hA : decide (byt d 1 = 0 ∧ kindOf (byt d 0) = 1) = true) (hQ : decide (byt d 1 = 0 ∧ (kindOf (byt d 0) = 1 ∨ kindOf (byt d 0) = 2)) = true) (hE : decide (kindOf (byt d 0) = 3) = EB) (w : World) (hT : Tb w) (hb : w.heap[g]? = some (.cells #[h0, h1, h2, h3, .int .u8 (pr : Nat), .int .u32 (sr : Nat), .int .u32 (ds : Nat), h7, str d, s0, s1, s2, s3, s4, ki, fl, ask, tt] 65 (0, 0))) :
    Calls Tryz.prog 58 #[.pointer (some ⟨g, 0, none⟩)] w fun e w' => e = .returned (.int .i64 0) ∧ w'.heap[g]? = some (.cells #[h0, h1, h2, h3, .int .u8 (pr : Nat), .int .u32 (sr : Nat), .int .u32 (ds : Nat), h7, str d, .int .u8 (pr : Nat), .int .u32 (sr : Nat), .int .u16 (icmpId d : Nat), .int .u32 (ds : Nat), .int .u16 (0 : Nat), ki, fl, .bool true, tt] 65 (0, 0)) ∧ Fp (fun k => k = g) w w' := by
  have lg := (Array.getElem?_eq_some_iff.1 hb).1
  have q8 : w.cell? ⟨g, 8, none⟩ = some (str d) := by simp [World.cell?, hb]
  have HB := Lib.hid hb
  clear hb
  have K := Lib.hid (fun W => icmp_parse d h8 hd W)
  unfold icM at K
  have KQ := Lib.hid (fun W hW => icmp_query (byt d 0) (byt d 1) (g16 d 2) ((d.take 8).drop 4) (d.drop 8) (byt_lt _ _) W hW)
  unfold msg at KQ
  rw [hA, hQ] at KQ
  have KI := Lib.hid (fun W => icmp_id (byt d 0) (byt d 1) (g16 d 2) ((d.take 8).drop 4) (d.drop 8) (by simp; omega) W)
  unfold msg at KI
  rw [show g16 ((d.take 8).drop 4) 0 = icmpId d from rfl] at KI
  have KE := Lib.hid (fun W hW => icmp_error (byt d 0) (byt d 1) (g16 d 2) ((d.take 8).drop 4) (d.drop 8) (byt_lt _ _) W hW)
  unfold msg at KE
  rw [hE] at KE
  have HT := Lib.hid hT
  clear hA hQ hE hT
  go_enter Tryz.func58, Tryz.ntmps58
  go_wp2_with fail
  refine (K.out _).mono ?_
  rintro e w1 ⟨rfl, hp⟩
  have B1 := Lib.hid ((hp.block _ lg id).trans HB.out)
  have N1 := Lib.hid hp
  clear hp q8 HB
  go_upto_region 2 with fail
  have hbH := heap_alloc_new w1 (.cells #[.int .u8 (byt d 0 : Nat), .int .u8 (byt d 1 : Nat), .int .u16 (g16 d 2 : Nat), str ((d.take 8).drop 4), str (d.drop 8)] 102)
  have hnH : NoW w1 (w1.alloc (.cells #[.int .u8 (byt d 0 : Nat), .int .u8 (byt d 1 : Nat), .int .u16 (g16 d 2 : Nat), str ((d.take 8).drop 4), str (d.drop 8)] 102)) := (Fp.refl _ _).alloc _
  generalize w1.alloc (.cells #[.int .u8 (byt d 0 : Nat), .int .u8 (byt d 1 : Nat), .int .u16 (g16 d 2 : Nat), str ((d.take 8).drop 4), str (d.drop 8)] 102) = w2 at *
  obtain ⟨gH, hgH⟩ : ∃ gH, gH = w1.heap.size := ⟨_, rfl⟩
  rw [← hgH] at hbH ⊢
  have hgg : g < gH := by rw [hgH]; exact (Array.getElem?_eq_some_iff.1 B1.out).1
  have hwH : w.heap.size ≤ gH := by rw [hgH]; exact N1.out.size
  have H2 := Lib.hid hbH
  have B2 := Lib.hid ((hnH.block _ (Array.getElem?_eq_some_iff.1 B1.out).1 id).trans B1.out)
  have N2 := Lib.hid (N1.out.trans hnH (fun _ _ h => h))
  clear hbH hnH hgH B1 N1
  have T2 := Lib.hid (HT.out.low N2.out)
  have NN2 := N2.out
  have N2 := Lib.hid (N2.out.mono (T := fun k => k = g) (fun _ _ h => absurd h id))
  have f0 : w2.cell? ⟨gH, 0, none⟩ = some (.int .u8 (byt d 0 : Nat)) := by simp [World.cell?, H2.out]
  have f1 : w2.cell? ⟨gH, 1, none⟩ = some (.int .u8 (byt d 1 : Nat)) := by simp [World.cell?, H2.out]
  have f2 : w2.cell? ⟨gH, 2, none⟩ = some (.int .u16 (g16 d 2 : Nat)) := by simp [World.cell?, H2.out]
  have f3 : w2.cell? ⟨gH, 3, none⟩ = some (str ((d.take 8).drop 4)) := by simp [World.cell?, H2.out]
  have f4 : w2.cell? ⟨gH, 4, none⟩ = some (str (d.drop 8)) := by simp [World.cell?, H2.out]
  have l8 := cell_lt f0
  go_wp2_with fail
  refine (KQ.out _ T2.out).mono ?_
  rintro e w3 ⟨rfl, hp⟩
  have T3 := Lib.hid (T2.out.low hp)
  have NN3 := NN2.trans hp (fun _ _ h => h)
  clear f0 f1 f2 f3 f4 l8
  have B3 := Lib.hid ((hp.block _ (Array.getElem?_eq_some_iff.1 B2.out).1 id).trans B2.out)
  have H3 := Lib.hid ((hp.block _ (Array.getElem?_eq_some_iff.1 H2.out).1 id).trans H2.out)
  have N3 := Lib.hid (N2.out.trans hp (fun _ _ h => absurd h id))
  clear hp B2 H2 N2
  have y16 : w3.cell? ⟨g, 16, none⟩ = some (ask) := by simp [World.cell?, B3.out]
  have yz16 : w3.frozen? ⟨g, 16, none⟩ = false := by simp [World.frozen?, B3.out]
  go_upto_region 8 with fail
  have hb := heap_set w3 g 16 _ _ (.bool true) B3.out
  simp only [List.setIfInBounds_toArray, List.set_cons_zero, List.set_cons_succ] at hb
  have hn2 := N3.out.setCell (p := ⟨g, 16, none⟩) (Or.inr rfl) (.bool true)
  have hH2 := (heap_set_other w3 g gH 16 (.bool true) (by omega)).trans H3.out
  generalize w3.setCell ⟨g, 16, none⟩ (.bool true) = w4 at *
  have B4 := Lib.hid hb
  have N4 := Lib.hid hn2
  have H4 := Lib.hid hH2
  clear hb hn2 hH2 B3 N3 H3
  clear y16 yz16
  have f0 : w4.cell? ⟨gH, 0, none⟩ = some (.int .u8 (byt d 0 : Nat)) := by simp [World.cell?, H4.out]
  have f1 : w4.cell? ⟨gH, 1, none⟩ = some (.int .u8 (byt d 1 : Nat)) := by simp [World.cell?, H4.out]
  have f2 : w4.cell? ⟨gH, 2, none⟩ = some (.int .u16 (g16 d 2 : Nat)) := by simp [World.cell?, H4.out]
  have f3 : w4.cell? ⟨gH, 3, none⟩ = some (str ((d.take 8).drop 4)) := by simp [World.cell?, H4.out]
  have f4 : w4.cell? ⟨gH, 4, none⟩ = some (str (d.drop 8)) := by simp [World.cell?, H4.out]
  have l8 := cell_lt f0
  go_wp2_with fail
  refine (KI.out _).mono ?_
  rintro e w5 ⟨rfl, hp⟩
  clear f0 f1 f2 f3 f4 l8
  have B5 := Lib.hid ((hp.block _ (Array.getElem?_eq_some_iff.1 B4.out).1 id).trans B4.out)
  have H5 := Lib.hid ((hp.block _ (Array.getElem?_eq_some_iff.1 H4.out).1 id).trans H4.out)
  have N5 := Lib.hid (N4.out.trans hp (fun _ _ h => absurd h id))
  clear hp B4 H4 N4
  go_wp2_with fail
  refine (between_ok g _ _ _ _ _ _ _ _ _ _ _ _ _ _ _ _ _ _ (icmpId d) 0 w5 B5.out).mono ?_
  rintro e w6 ⟨⟨ve, rfl⟩, hb3, hf3⟩
  have B6 := Lib.hid hb3
  have H6 := Lib.hid ((hf3.block gH (Array.getElem?_eq_some_iff.1 H5.out).1 (by omega)).trans H5.out)
  have N6 := Lib.hid (N5.out.trans hf3 (fun _ _ h => h))
  clear hb3 hf3
  go_wp2_with fail
  go_ret
  exact ⟨rfl, B6.out, N6.out⟩

set_option maxHeartbeats 4000000 in
set_option maxRecDepth 100000 in
theorem msg_told (g : Nat) (h0 h1 h2 h3 h7 s0 s1 s2 s3 s4 ki fl ask tt : Value) (pr sr ds : Nat) (d : List UInt8) (hd : d.length ≤ 1000000) (h8 : 8 ≤ d.length) (EB : Bool) (hA : decide (byt d 1 = 0 ∧ kindOf (byt d 0) = 1) = false) (hQ : decide (byt d 1 = 0 ∧ (kindOf (byt d 0) = 1 ∨ kindOf (byt d 0) = 2)) = true) (hE : decide (kindOf (byt d 0) = 3) = EB) (w : World) (hT : Tb w) (hb : w.heap[g]? = some (.cells #[h0, h1, h2, h3, .int .u8 (pr : Nat), .int .u32 (sr : Nat), .int .u32 (ds : Nat), h7, str d, s0, s1, s2, s3, s4, ki, fl, ask, tt] 65 (0, 0))) :
    Calls Tryz.prog 58 #[.pointer (some ⟨g, 0, none⟩)] w fun e w' => e = .returned (.int .i64 0) ∧ w'.heap[g]? = some (.cells #[h0, h1, h2, h3, .int .u8 (pr : Nat), .int .u32 (sr : Nat), .int .u32 (ds : Nat), h7, str d, .int .u8 (pr : Nat), .int .u32 (sr : Nat), .int .u16 (0 : Nat), .int .u32 (ds : Nat), .int .u16 (icmpId d : Nat), ki, fl, ask, tt] 65 (0, 0)) ∧ Fp (fun k => k = g) w w' := by
  have lg := (Array.getElem?_eq_some_iff.1 hb).1
  have q8 : w.cell? ⟨g, 8, none⟩ = some (str d) := by simp [World.cell?, hb]
  have HB := Lib.hid hb
  clear hb
  have K := Lib.hid (fun W => icmp_parse d h8 hd W)
  unfold icM at K
  have KQ := Lib.hid (fun W hW => icmp_query (byt d 0) (byt d 1) (g16 d 2) ((d.take 8).drop 4) (d.drop 8) (byt_lt _ _) W hW)
  unfold msg at KQ
  rw [hA, hQ] at KQ
  have KI := Lib.hid (fun W => icmp_id (byt d 0) (byt d 1) (g16 d 2) ((d.take 8).drop 4) (d.drop 8) (by simp; omega) W)
  unfold msg at KI
  rw [show g16 ((d.take 8).drop 4) 0 = icmpId d from rfl] at KI
  have KE := Lib.hid (fun W hW => icmp_error (byt d 0) (byt d 1) (g16 d 2) ((d.take 8).drop 4) (d.drop 8) (byt_lt _ _) W hW)
  unfold msg at KE
  rw [hE] at KE
  have HT := Lib.hid hT
  clear hA hQ hE hT
  go_enter Tryz.func58, Tryz.ntmps58
  go_wp2_with fail
  refine (K.out _).mono ?_
  rintro e w1 ⟨rfl, hp⟩
  have B1 := Lib.hid ((hp.block _ lg id).trans HB.out)
  have N1 := Lib.hid hp
  clear hp q8 HB
  go_upto_region 2 with fail
  have hbH := heap_alloc_new w1 (.cells #[.int .u8 (byt d 0 : Nat), .int .u8 (byt d 1 : Nat), .int .u16 (g16 d 2 : Nat), str ((d.take 8).drop 4), str (d.drop 8)] 102)
  have hnH : NoW w1 (w1.alloc (.cells #[.int .u8 (byt d 0 : Nat), .int .u8 (byt d 1 : Nat), .int .u16 (g16 d 2 : Nat), str ((d.take 8).drop 4), str (d.drop 8)] 102)) := (Fp.refl _ _).alloc _
  generalize w1.alloc (.cells #[.int .u8 (byt d 0 : Nat), .int .u8 (byt d 1 : Nat), .int .u16 (g16 d 2 : Nat), str ((d.take 8).drop 4), str (d.drop 8)] 102) = w2 at *
  obtain ⟨gH, hgH⟩ : ∃ gH, gH = w1.heap.size := ⟨_, rfl⟩
  rw [← hgH] at hbH ⊢
  have hgg : g < gH := by rw [hgH]; exact (Array.getElem?_eq_some_iff.1 B1.out).1
  have hwH : w.heap.size ≤ gH := by rw [hgH]; exact N1.out.size
  have H2 := Lib.hid hbH
  have B2 := Lib.hid ((hnH.block _ (Array.getElem?_eq_some_iff.1 B1.out).1 id).trans B1.out)
  have N2 := Lib.hid (N1.out.trans hnH (fun _ _ h => h))
  clear hbH hnH hgH B1 N1
  have T2 := Lib.hid (HT.out.low N2.out)
  have NN2 := N2.out
  have N2 := Lib.hid (N2.out.mono (T := fun k => k = g) (fun _ _ h => absurd h id))
  have f0 : w2.cell? ⟨gH, 0, none⟩ = some (.int .u8 (byt d 0 : Nat)) := by simp [World.cell?, H2.out]
  have f1 : w2.cell? ⟨gH, 1, none⟩ = some (.int .u8 (byt d 1 : Nat)) := by simp [World.cell?, H2.out]
  have f2 : w2.cell? ⟨gH, 2, none⟩ = some (.int .u16 (g16 d 2 : Nat)) := by simp [World.cell?, H2.out]
  have f3 : w2.cell? ⟨gH, 3, none⟩ = some (str ((d.take 8).drop 4)) := by simp [World.cell?, H2.out]
  have f4 : w2.cell? ⟨gH, 4, none⟩ = some (str (d.drop 8)) := by simp [World.cell?, H2.out]
  have l8 := cell_lt f0
  go_wp2_with fail
  refine (KQ.out _ T2.out).mono ?_
  rintro e w3 ⟨rfl, hp⟩
  have T3 := Lib.hid (T2.out.low hp)
  have NN3 := NN2.trans hp (fun _ _ h => h)
  clear f0 f1 f2 f3 f4 l8
  have B3 := Lib.hid ((hp.block _ (Array.getElem?_eq_some_iff.1 B2.out).1 id).trans B2.out)
  have H3 := Lib.hid ((hp.block _ (Array.getElem?_eq_some_iff.1 H2.out).1 id).trans H2.out)
  have N3 := Lib.hid (N2.out.trans hp (fun _ _ h => absurd h id))
  clear hp B2 H2 N2
  have f0 : w3.cell? ⟨gH, 0, none⟩ = some (.int .u8 (byt d 0 : Nat)) := by simp [World.cell?, H3.out]
  have f1 : w3.cell? ⟨gH, 1, none⟩ = some (.int .u8 (byt d 1 : Nat)) := by simp [World.cell?, H3.out]
  have f2 : w3.cell? ⟨gH, 2, none⟩ = some (.int .u16 (g16 d 2 : Nat)) := by simp [World.cell?, H3.out]
  have f3 : w3.cell? ⟨gH, 3, none⟩ = some (str ((d.take 8).drop 4)) := by simp [World.cell?, H3.out]
  have f4 : w3.cell? ⟨gH, 4, none⟩ = some (str (d.drop 8)) := by simp [World.cell?, H3.out]
  have l8 := cell_lt f0
  go_wp2_with fail
  refine (KI.out _).mono ?_
  rintro e w4 ⟨rfl, hp⟩
  clear f0 f1 f2 f3 f4 l8
  have B4 := Lib.hid ((hp.block _ (Array.getElem?_eq_some_iff.1 B3.out).1 id).trans B3.out)
  have H4 := Lib.hid ((hp.block _ (Array.getElem?_eq_some_iff.1 H3.out).1 id).trans H3.out)
  have N4 := Lib.hid (N3.out.trans hp (fun _ _ h => absurd h id))
  clear hp B3 H3 N3
  go_wp2_with fail
  refine (between_ok g _ _ _ _ _ _ _ _ _ _ _ _ _ _ _ _ _ _ 0 (icmpId d) w4 B4.out).mono ?_
  rintro e w5 ⟨⟨ve, rfl⟩, hb3, hf3⟩
  have B5 := Lib.hid hb3
  have H5 := Lib.hid ((hf3.block gH (Array.getElem?_eq_some_iff.1 H4.out).1 (by omega)).trans H4.out)
  have N5 := Lib.hid (N4.out.trans hf3 (fun _ _ h => h))
  clear hb3 hf3
  go_wp2_with fail
  go_ret
  exact ⟨rfl, B5.out, N5.out⟩

set_option maxHeartbeats 4000000 in
set_option maxRecDepth 100000 in
theorem msg_err (g : Nat) (h0 h1 h2 h3 h7 s0 s1 s2 s3 s4 ki fl ask tt : Value) (pr sr ds : Nat) (d : List UInt8) (hd : d.length ≤ 1000000) (h8 : 8 ≤ d.length) (EB : Bool) (hA : decide (byt d 1 = 0 ∧ kindOf (byt d 0) = 1) = false) (hQ : decide (byt d 1 = 0 ∧ (kindOf (byt d 0) = 1 ∨ kindOf (byt d 0) = 2)) = false) (hE : decide (kindOf (byt d 0) = 3) = true) (w : World) (hT : Tb w) (hb : w.heap[g]? = some (.cells #[h0, h1, h2, h3, .int .u8 (pr : Nat), .int .u32 (sr : Nat), .int .u32 (ds : Nat), h7, str d, s0, s1, s2, s3, s4, ki, fl, ask, tt] 65 (0, 0))) :
    Calls Tryz.prog 58 #[.pointer (some ⟨g, 0, none⟩)] w fun e w' => e = .returned (.int .i64 0) ∧ w'.heap[g]? = some (.cells #[h0, h1, h2, h3, .int .u8 (pr : Nat), .int .u32 (sr : Nat), .int .u32 (ds : Nat), h7, str d, .int .u8 (pr : Nat), .int .u32 (sr : Nat), .int .u16 (0 : Nat), .int .u32 (ds : Nat), .int .u16 (0 : Nat), .int .i64 3, fl, ask, tt] 65 (0, 0)) ∧ Fp (fun k => k = g) w w' := by
  have lg := (Array.getElem?_eq_some_iff.1 hb).1
  have q8 : w.cell? ⟨g, 8, none⟩ = some (str d) := by simp [World.cell?, hb]
  have HB := Lib.hid hb
  clear hb
  have K := Lib.hid (fun W => icmp_parse d h8 hd W)
  unfold icM at K
  have KQ := Lib.hid (fun W hW => icmp_query (byt d 0) (byt d 1) (g16 d 2) ((d.take 8).drop 4) (d.drop 8) (byt_lt _ _) W hW)
  unfold msg at KQ
  rw [hA, hQ] at KQ
  have KI := Lib.hid (fun W => icmp_id (byt d 0) (byt d 1) (g16 d 2) ((d.take 8).drop 4) (d.drop 8) (by simp; omega) W)
  unfold msg at KI
  rw [show g16 ((d.take 8).drop 4) 0 = icmpId d from rfl] at KI
  have KE := Lib.hid (fun W hW => icmp_error (byt d 0) (byt d 1) (g16 d 2) ((d.take 8).drop 4) (d.drop 8) (byt_lt _ _) W hW)
  unfold msg at KE
  rw [hE] at KE
  have HT := Lib.hid hT
  clear hA hQ hE hT
  go_enter Tryz.func58, Tryz.ntmps58
  go_wp2_with fail
  refine (K.out _).mono ?_
  rintro e w1 ⟨rfl, hp⟩
  have B1 := Lib.hid ((hp.block _ lg id).trans HB.out)
  have N1 := Lib.hid hp
  clear hp q8 HB
  go_upto_region 2 with fail
  have hbH := heap_alloc_new w1 (.cells #[.int .u8 (byt d 0 : Nat), .int .u8 (byt d 1 : Nat), .int .u16 (g16 d 2 : Nat), str ((d.take 8).drop 4), str (d.drop 8)] 102)
  have hnH : NoW w1 (w1.alloc (.cells #[.int .u8 (byt d 0 : Nat), .int .u8 (byt d 1 : Nat), .int .u16 (g16 d 2 : Nat), str ((d.take 8).drop 4), str (d.drop 8)] 102)) := (Fp.refl _ _).alloc _
  generalize w1.alloc (.cells #[.int .u8 (byt d 0 : Nat), .int .u8 (byt d 1 : Nat), .int .u16 (g16 d 2 : Nat), str ((d.take 8).drop 4), str (d.drop 8)] 102) = w2 at *
  obtain ⟨gH, hgH⟩ : ∃ gH, gH = w1.heap.size := ⟨_, rfl⟩
  rw [← hgH] at hbH ⊢
  have hgg : g < gH := by rw [hgH]; exact (Array.getElem?_eq_some_iff.1 B1.out).1
  have hwH : w.heap.size ≤ gH := by rw [hgH]; exact N1.out.size
  have H2 := Lib.hid hbH
  have B2 := Lib.hid ((hnH.block _ (Array.getElem?_eq_some_iff.1 B1.out).1 id).trans B1.out)
  have N2 := Lib.hid (N1.out.trans hnH (fun _ _ h => h))
  clear hbH hnH hgH B1 N1
  have T2 := Lib.hid (HT.out.low N2.out)
  have NN2 := N2.out
  have N2 := Lib.hid (N2.out.mono (T := fun k => k = g) (fun _ _ h => absurd h id))
  have f0 : w2.cell? ⟨gH, 0, none⟩ = some (.int .u8 (byt d 0 : Nat)) := by simp [World.cell?, H2.out]
  have f1 : w2.cell? ⟨gH, 1, none⟩ = some (.int .u8 (byt d 1 : Nat)) := by simp [World.cell?, H2.out]
  have f2 : w2.cell? ⟨gH, 2, none⟩ = some (.int .u16 (g16 d 2 : Nat)) := by simp [World.cell?, H2.out]
  have f3 : w2.cell? ⟨gH, 3, none⟩ = some (str ((d.take 8).drop 4)) := by simp [World.cell?, H2.out]
  have f4 : w2.cell? ⟨gH, 4, none⟩ = some (str (d.drop 8)) := by simp [World.cell?, H2.out]
  have l8 := cell_lt f0
  go_wp2_with fail
  refine (KQ.out _ T2.out).mono ?_
  rintro e w3 ⟨rfl, hp⟩
  have T3 := Lib.hid (T2.out.low hp)
  have NN3 := NN2.trans hp (fun _ _ h => h)
  clear f0 f1 f2 f3 f4 l8
  have B3 := Lib.hid ((hp.block _ (Array.getElem?_eq_some_iff.1 B2.out).1 id).trans B2.out)
  have H3 := Lib.hid ((hp.block _ (Array.getElem?_eq_some_iff.1 H2.out).1 id).trans H2.out)
  have N3 := Lib.hid (N2.out.trans hp (fun _ _ h => absurd h id))
  clear hp B2 H2 N2
  have f0 : w3.cell? ⟨gH, 0, none⟩ = some (.int .u8 (byt d 0 : Nat)) := by simp [World.cell?, H3.out]
  have f1 : w3.cell? ⟨gH, 1, none⟩ = some (.int .u8 (byt d 1 : Nat)) := by simp [World.cell?, H3.out]
  have f2 : w3.cell? ⟨gH, 2, none⟩ = some (.int .u16 (g16 d 2 : Nat)) := by simp [World.cell?, H3.out]
  have f3 : w3.cell? ⟨gH, 3, none⟩ = some (str ((d.take 8).drop 4)) := by simp [World.cell?, H3.out]
  have f4 : w3.cell? ⟨gH, 4, none⟩ = some (str (d.drop 8)) := by simp [World.cell?, H3.out]
  have l8 := cell_lt f0
  go_wp2_with fail
  refine (KE.out _ T3.out).mono ?_
  rintro e w4 ⟨rfl, hp⟩
  clear f0 f1 f2 f3 f4 l8
  have B4 := Lib.hid ((hp.block _ (Array.getElem?_eq_some_iff.1 B3.out).1 id).trans B3.out)
  have H4 := Lib.hid ((hp.block _ (Array.getElem?_eq_some_iff.1 H3.out).1 id).trans H3.out)
  have N4 := Lib.hid (N3.out.trans hp (fun _ _ h => absurd h id))
  clear hp B3 H3 N3
  have y14 : w4.cell? ⟨g, 14, none⟩ = some (ki) := by simp [World.cell?, B4.out]
  have yz14 : w4.frozen? ⟨g, 14, none⟩ = false := by simp [World.frozen?, B4.out]
  go_upto_region 13 with fail
  have hb := heap_set w4 g 14 _ _ (.int .i64 3) B4.out
  simp only [List.setIfInBounds_toArray, List.set_cons_zero, List.set_cons_succ] at hb
  have hn2 := N4.out.setCell (p := ⟨g, 14, none⟩) (Or.inr rfl) (.int .i64 3)
  have hH2 := (heap_set_other w4 g gH 14 (.int .i64 3) (by omega)).trans H4.out
  generalize w4.setCell ⟨g, 14, none⟩ (.int .i64 3) = w5 at *
  have B5 := Lib.hid hb
  have N5 := Lib.hid hn2
  have H5 := Lib.hid hH2
  clear hb hn2 hH2 B4 N4 H4
  clear y14 yz14
  go_wp2_with fail
  refine (between_ok g _ _ _ _ _ _ _ _ _ _ _ _ _ _ _ _ _ _ 0 0 w5 B5.out).mono ?_
  rintro e w6 ⟨⟨ve, rfl⟩, hb3, hf3⟩
  have B6 := Lib.hid hb3
  have H6 := Lib.hid ((hf3.block gH (Array.getElem?_eq_some_iff.1 H5.out).1 (by omega)).trans H5.out)
  have N6 := Lib.hid (N5.out.trans hf3 (fun _ _ h => h))
  clear hb3 hf3
  go_wp2_with fail
  go_ret
  exact ⟨rfl, B6.out, N6.out⟩

set_option maxHeartbeats 4000000 in
set_option maxRecDepth 100000 in
theorem msg_none (g : Nat) (h0 h1 h2 h3 h7 s0 s1 s2 s3 s4 ki fl ask tt : Value) (pr sr ds : Nat) (d : List UInt8) (hd : d.length ≤ 1000000) (h8 : 8 ≤ d.length) (EB : Bool) (hA : decide (byt d 1 = 0 ∧ kindOf (byt d 0) = 1) = false) (hQ : decide (byt d 1 = 0 ∧ (kindOf (byt d 0) = 1 ∨ kindOf (byt d 0) = 2)) = false) (hE : decide (kindOf (byt d 0) = 3) = false) (w : World) (hT : Tb w) (hb : w.heap[g]? = some (.cells #[h0, h1, h2, h3, .int .u8 (pr : Nat), .int .u32 (sr : Nat), .int .u32 (ds : Nat), h7, str d, s0, s1, s2, s3, s4, ki, fl, ask, tt] 65 (0, 0))) :
    Calls Tryz.prog 58 #[.pointer (some ⟨g, 0, none⟩)] w fun e w' => e = .returned (.int .i64 6) ∧ Fp (fun k => k = g) w w' := by
  have lg := (Array.getElem?_eq_some_iff.1 hb).1
  have q8 : w.cell? ⟨g, 8, none⟩ = some (str d) := by simp [World.cell?, hb]
  have HB := Lib.hid hb
  clear hb
  have K := Lib.hid (fun W => icmp_parse d h8 hd W)
  unfold icM at K
  have KQ := Lib.hid (fun W hW => icmp_query (byt d 0) (byt d 1) (g16 d 2) ((d.take 8).drop 4) (d.drop 8) (byt_lt _ _) W hW)
  unfold msg at KQ
  rw [hA, hQ] at KQ
  have KI := Lib.hid (fun W => icmp_id (byt d 0) (byt d 1) (g16 d 2) ((d.take 8).drop 4) (d.drop 8) (by simp; omega) W)
  unfold msg at KI
  rw [show g16 ((d.take 8).drop 4) 0 = icmpId d from rfl] at KI
  have KE := Lib.hid (fun W hW => icmp_error (byt d 0) (byt d 1) (g16 d 2) ((d.take 8).drop 4) (d.drop 8) (byt_lt _ _) W hW)
  unfold msg at KE
  rw [hE] at KE
  have HT := Lib.hid hT
  clear hA hQ hE hT
  go_enter Tryz.func58, Tryz.ntmps58
  go_wp2_with fail
  refine (K.out _).mono ?_
  rintro e w1 ⟨rfl, hp⟩
  have B1 := Lib.hid ((hp.block _ lg id).trans HB.out)
  have N1 := Lib.hid hp
  clear hp q8 HB
  go_upto_region 2 with fail
  have hbH := heap_alloc_new w1 (.cells #[.int .u8 (byt d 0 : Nat), .int .u8 (byt d 1 : Nat), .int .u16 (g16 d 2 : Nat), str ((d.take 8).drop 4), str (d.drop 8)] 102)
  have hnH : NoW w1 (w1.alloc (.cells #[.int .u8 (byt d 0 : Nat), .int .u8 (byt d 1 : Nat), .int .u16 (g16 d 2 : Nat), str ((d.take 8).drop 4), str (d.drop 8)] 102)) := (Fp.refl _ _).alloc _
  generalize w1.alloc (.cells #[.int .u8 (byt d 0 : Nat), .int .u8 (byt d 1 : Nat), .int .u16 (g16 d 2 : Nat), str ((d.take 8).drop 4), str (d.drop 8)] 102) = w2 at *
  obtain ⟨gH, hgH⟩ : ∃ gH, gH = w1.heap.size := ⟨_, rfl⟩
  rw [← hgH] at hbH ⊢
  have hgg : g < gH := by rw [hgH]; exact (Array.getElem?_eq_some_iff.1 B1.out).1
  have hwH : w.heap.size ≤ gH := by rw [hgH]; exact N1.out.size
  have H2 := Lib.hid hbH
  have B2 := Lib.hid ((hnH.block _ (Array.getElem?_eq_some_iff.1 B1.out).1 id).trans B1.out)
  have N2 := Lib.hid (N1.out.trans hnH (fun _ _ h => h))
  clear hbH hnH hgH B1 N1
  have T2 := Lib.hid (HT.out.low N2.out)
  have NN2 := N2.out
  have N2 := Lib.hid (N2.out.mono (T := fun k => k = g) (fun _ _ h => absurd h id))
  have f0 : w2.cell? ⟨gH, 0, none⟩ = some (.int .u8 (byt d 0 : Nat)) := by simp [World.cell?, H2.out]
  have f1 : w2.cell? ⟨gH, 1, none⟩ = some (.int .u8 (byt d 1 : Nat)) := by simp [World.cell?, H2.out]
  have f2 : w2.cell? ⟨gH, 2, none⟩ = some (.int .u16 (g16 d 2 : Nat)) := by simp [World.cell?, H2.out]
  have f3 : w2.cell? ⟨gH, 3, none⟩ = some (str ((d.take 8).drop 4)) := by simp [World.cell?, H2.out]
  have f4 : w2.cell? ⟨gH, 4, none⟩ = some (str (d.drop 8)) := by simp [World.cell?, H2.out]
  have l8 := cell_lt f0
  go_wp2_with fail
  refine (KQ.out _ T2.out).mono ?_
  rintro e w3 ⟨rfl, hp⟩
  have T3 := Lib.hid (T2.out.low hp)
  have NN3 := NN2.trans hp (fun _ _ h => h)
  clear f0 f1 f2 f3 f4 l8
  have B3 := Lib.hid ((hp.block _ (Array.getElem?_eq_some_iff.1 B2.out).1 id).trans B2.out)
  have H3 := Lib.hid ((hp.block _ (Array.getElem?_eq_some_iff.1 H2.out).1 id).trans H2.out)
  have N3 := Lib.hid (N2.out.trans hp (fun _ _ h => absurd h id))
  clear hp B2 H2 N2
  have f0 : w3.cell? ⟨gH, 0, none⟩ = some (.int .u8 (byt d 0 : Nat)) := by simp [World.cell?, H3.out]
  have f1 : w3.cell? ⟨gH, 1, none⟩ = some (.int .u8 (byt d 1 : Nat)) := by simp [World.cell?, H3.out]
  have f2 : w3.cell? ⟨gH, 2, none⟩ = some (.int .u16 (g16 d 2 : Nat)) := by simp [World.cell?, H3.out]
  have f3 : w3.cell? ⟨gH, 3, none⟩ = some (str ((d.take 8).drop 4)) := by simp [World.cell?, H3.out]
  have f4 : w3.cell? ⟨gH, 4, none⟩ = some (str (d.drop 8)) := by simp [World.cell?, H3.out]
  have l8 := cell_lt f0
  go_wp2_with fail
  refine (KE.out _ T3.out).mono ?_
  rintro e w4 ⟨rfl, hp⟩
  clear f0 f1 f2 f3 f4 l8
  have B4 := Lib.hid ((hp.block _ (Array.getElem?_eq_some_iff.1 B3.out).1 id).trans B3.out)
  have H4 := Lib.hid ((hp.block _ (Array.getElem?_eq_some_iff.1 H3.out).1 id).trans H3.out)
  have N4 := Lib.hid (N3.out.trans hp (fun _ _ h => absurd h id))
  clear hp B3 H3 N3
  go_wp2_with fail
  go_ret
  exact ⟨rfl, N4.out⟩

set_option maxHeartbeats 1000000 in
theorem look_seg (g : Nat) (w : World) (hp : w.cell? ⟨g, 4, none⟩ = some (.int .u8 6)) (r : Int) (R : World → Prop)
    (h : Calls Tryz.prog 56 #[.pointer (some ⟨g, 0, none⟩)] w fun e w' => e = .returned (.int .i64 r) ∧ R w') :
    Calls Tryz.prog 27 #[.pointer (some ⟨g, 0, none⟩)] w fun e w' => e = .returned (.int .i64 r) ∧ R w' := by
  go_enter Tryz.func27, Tryz.ntmps27
  go_wp2_with fail
  refine h.mono ?_
  rintro e w1 ⟨rfl, hp⟩
  go_wp2_with fail
  go_ret
  exact ⟨rfl, hp⟩

set_option maxHeartbeats 1000000 in
theorem look_dat (g : Nat) (w : World) (hp : w.cell? ⟨g, 4, none⟩ = some (.int .u8 17)) (r : Int) (R : World → Prop)
    (h : Calls Tryz.prog 57 #[.pointer (some ⟨g, 0, none⟩)] w fun e w' => e = .returned (.int .i64 r) ∧ R w') :
    Calls Tryz.prog 27 #[.pointer (some ⟨g, 0, none⟩)] w fun e w' => e = .returned (.int .i64 r) ∧ R w' := by
  go_enter Tryz.func27, Tryz.ntmps27
  go_wp2_with fail
  refine h.mono ?_
  rintro e w1 ⟨rfl, hp⟩
  go_wp2_with fail
  go_ret
  exact ⟨rfl, hp⟩

set_option maxHeartbeats 1000000 in
theorem look_msg (g : Nat) (w : World) (hp : w.cell? ⟨g, 4, none⟩ = some (.int .u8 1)) (r : Int) (R : World → Prop)
    (h : Calls Tryz.prog 58 #[.pointer (some ⟨g, 0, none⟩)] w fun e w' => e = .returned (.int .i64 r) ∧ R w') :
    Calls Tryz.prog 27 #[.pointer (some ⟨g, 0, none⟩)] w fun e w' => e = .returned (.int .i64 r) ∧ R w' := by
  go_enter Tryz.func27, Tryz.ntmps27
  go_wp2_with fail
  refine h.mono ?_
  rintro e w1 ⟨rfl, hp⟩
  go_wp2_with fail
  go_ret
  exact ⟨rfl, hp⟩

set_option maxHeartbeats 1000000 in
theorem look_none (g pr : Nat) (w : World) (hp : w.cell? ⟨g, 4, none⟩ = some (.int .u8 (pr : Nat))) (h6 : pr ≠ 6) (h17 : pr ≠ 17) (h1 : pr ≠ 1) :
    Calls Tryz.prog 27 #[.pointer (some ⟨g, 0, none⟩)] w fun e w' => e = .returned (.int .i64 6) ∧ w' = w := by
  have e6 : ((pr : Int) == 6) = false := beq_eq_false_iff_ne.2 (by omega)
  have e17 : ((pr : Int) == 17) = false := beq_eq_false_iff_ne.2 (by omega)
  have e1 : ((pr : Int) == 1) = false := beq_eq_false_iff_ne.2 (by omega)
  clear h6 h17 h1
  go_enter Tryz.func27, Tryz.ntmps27
  go_wp2_with fail
  go_ret
  exact ⟨rfl, rfl⟩
theorem kind1 {d : List UInt8} : decide (byt d 1 = 0 ∧ kindOf (byt d 0) = 1) = askB d := by
  have h : (kindOf (byt d 0) = 1) ↔ (byt d 0 = 8 ∨ byt d 0 = 13) := by unfold kindOf; split <;> (try split) <;> (try split) <;> omega
  unfold askB
  rw [Bool.eq_iff_iff, decide_eq_true_eq, h]
  simp
theorem kind2 {d : List UInt8} : decide (byt d 1 = 0 ∧ (kindOf (byt d 0) = 1 ∨ kindOf (byt d 0) = 2)) = queryB d := by
  have h : (kindOf (byt d 0) = 1 ∨ kindOf (byt d 0) = 2) ↔ (byt d 0 = 8 ∨ byt d 0 = 13 ∨ byt d 0 = 0 ∨ byt d 0 = 14) := by unfold kindOf; split <;> (try split) <;> (try split) <;> omega
  unfold queryB
  rw [Bool.eq_iff_iff, decide_eq_true_eq, h]
  simp
  try omega
theorem kind3 {d : List UInt8} : decide (kindOf (byt d 0) = 3) = errB d := by
  have h : (kindOf (byt d 0) = 3) ↔ (byt d 0 = 3 ∨ byt d 0 = 11 ∨ byt d 0 = 12) := by unfold kindOf; split <;> (try split) <;> (try split) <;> omega
  unfold errB
  rw [Bool.eq_iff_iff, decide_eq_true_eq, h]
  simp
  try omega
theorem ask_query {d : List UInt8} (h : askB d = true) : queryB d = true := by
  unfold askB at h; unfold queryB
  simp at h ⊢
  omega

def lookPost (g : Nat) (h0 h1 h2 h3 h7 : Value) (pr sr ds : Nat) (d : List UInt8) (w : World) : Sn ⊕ Nat → Ending → World → Prop
  | .inl x, e, w' => e = .returned (.int .i64 0) ∧ w'.heap[g]? = some (.cells #[h0, h1, h2, h3, .int .u8 (pr : Nat), .int .u32 (sr : Nat), .int .u32 (ds : Nat), h7, str d, .int .u8 (x.proto : Nat), .int .u32 (x.src : Nat), .int .u16 (x.sp : Nat), .int .u32 (x.dst : Nat), .int .u16 (x.dp : Nat), .int .i64 (x.kind : Nat), .int .u8 (x.flags : Nat), .bool x.ask, .int .u8 (x.ttl : Nat)] 65 (0, 0)) ∧ Fp (fun k => k = g) w w'
  | .inr r, e, w' => e = .returned (.int .i64 (r : Nat)) ∧ Fp (fun k => k = g) w w'
set_option maxHeartbeats 1000000 in
theorem look_ok (g : Nat) (h0 h1 h2 h3 h7 : Value) (pr sr ds ttl : Nat) (d : List UInt8) (hd : d.length ≤ 1000000) (w : World) (hT : Tb w) (hb : w.heap[g]? = some (.cells #[h0, h1, h2, h3, .int .u8 (pr : Nat), .int .u32 (sr : Nat), .int .u32 (ds : Nat), h7, str d, .int .u8 0, .int .u32 0, .int .u16 0, .int .u32 0, .int .u16 0, .int .i64 2, .int .u8 0, .bool false, .int .u8 (ttl : Nat)] 65 (0, 0))) :
    Calls Tryz.prog 27 #[.pointer (some ⟨g, 0, none⟩)] w (lookPost g h0 h1 h2 h3 h7 pr sr ds d w (lookAt pr sr ds ttl d)) := by
  have hp : w.cell? ⟨g, 4, none⟩ = some (.int .u8 (pr : Nat)) := by simp [World.cell?, hb]
  by_cases h6 : pr = 6
  · subst h6
    by_cases ho : tcpOk d = true
    · have e : lookAt 6 sr ds ttl d = .inl ⟨6, sr, g16 d 0, ds, g16 d 2, if firstB (byt d 13) then 1 else 2, byt d 13, false, ttl⟩ := by unfold lookAt; rw [if_pos rfl, if_pos ho]
      rw [e]
      refine (look_seg g w hp 0 _ (seg_yes g h0 h1 h2 h3 h7 _ _ _ _ _ _ _ _ _ 6 sr ds d hd ho w hb)).mono ?_
      rintro e w' ⟨rfl, hb', hf⟩
      refine ⟨rfl, ?_, hf⟩
      rw [hb']
      by_cases hfb : firstB (byt d 13) = true
      · rw [if_pos hfb, if_pos hfb]; rfl
      · rw [if_neg hfb, if_neg hfb]; rfl
    · have e : lookAt 6 sr ds ttl d = .inr 7 := by unfold lookAt; rw [if_pos rfl, if_neg ho]
      rw [e]
      exact look_seg g w hp 7 _ (seg_no g h0 h1 h2 h3 h7 _ _ _ _ _ _ _ _ _ 6 sr ds d hd (by simpa using ho) w hb)
  by_cases h17 : pr = 17
  · subst h17
    by_cases ho : udpOk d = true
    · have e : lookAt 17 sr ds ttl d = .inl ⟨17, sr, g16 d 0, ds, g16 d 2, 2, 0, false, ttl⟩ := by unfold lookAt; rw [if_neg h6, if_pos rfl, if_pos ho]
      rw [e]
      exact look_dat g w hp 0 _ (dat_yes g h0 h1 h2 h3 h7 _ _ _ _ _ _ _ _ _ 17 sr ds d hd ho w hb)
    · have e : lookAt 17 sr ds ttl d = .inr 7 := by unfold lookAt; rw [if_neg h6, if_pos rfl, if_neg ho]
      rw [e]
      exact look_dat g w hp 7 _ (dat_no g h0 h1 h2 h3 h7 _ _ _ _ _ _ _ _ _ 17 sr ds d hd (by simpa using ho) w hb)
  by_cases h1' : pr = 1
  · subst h1'
    by_cases h8 : d.length < 8
    · have e : lookAt 1 sr ds ttl d = .inr 7 := by unfold lookAt; rw [if_neg h6, if_neg h17, if_pos rfl, if_pos h8]
      rw [e]
      exact look_msg g w hp 7 _ (msg_no g h0 h1 h2 h3 h7 _ _ _ _ _ _ _ _ _ 1 sr ds d hd h8 w hb)
    have h8' : 8 ≤ d.length := by omega
    by_cases ha : askB d = true
    · have e : lookAt 1 sr ds ttl d = .inl ⟨1, sr, icmpId d, ds, 0, 2, 0, true, ttl⟩ := by unfold lookAt; rw [if_neg h6, if_neg h17, if_pos rfl, if_neg h8, if_pos ha]
      rw [e]
      exact look_msg g w hp 0 _ (msg_ask g h0 h1 h2 h3 h7 _ _ _ _ _ _ _ _ _ 1 sr ds d hd h8' _ (kind1.trans ha) (kind2.trans (ask_query ha)) rfl w hT hb)
    by_cases hq : queryB d = true
    · have e : lookAt 1 sr ds ttl d = .inl ⟨1, sr, 0, ds, icmpId d, 2, 0, false, ttl⟩ := by unfold lookAt; rw [if_neg h6, if_neg h17, if_pos rfl, if_neg h8, if_neg ha, if_pos hq]
      rw [e]
      exact look_msg g w hp 0 _ (msg_told g h0 h1 h2 h3 h7 _ _ _ _ _ _ _ _ _ 1 sr ds d hd h8' _ (kind1.trans (by simpa using ha)) (kind2.trans hq) rfl w hT hb)
    by_cases he : errB d = true
    · have e : lookAt 1 sr ds ttl d = .inl ⟨1, sr, 0, ds, 0, 3, 0, false, ttl⟩ := by unfold lookAt; rw [if_neg h6, if_neg h17, if_pos rfl, if_neg h8, if_neg ha, if_neg hq, if_pos he]
      rw [e]
      exact look_msg g w hp 0 _ (msg_err g h0 h1 h2 h3 h7 _ _ _ _ _ _ _ _ _ 1 sr ds d hd h8' true (kind1.trans (by simpa using ha)) (kind2.trans (by simpa using hq)) (kind3.trans he) w hT hb)
    · have e : lookAt 1 sr ds ttl d = .inr 6 := by unfold lookAt; rw [if_neg h6, if_neg h17, if_pos rfl, if_neg h8, if_neg ha, if_neg hq, if_neg he]
      rw [e]
      exact look_msg g w hp 6 _ (msg_none g h0 h1 h2 h3 h7 _ _ _ _ _ _ _ _ _ 1 sr ds d hd h8' false (kind1.trans (by simpa using ha)) (kind2.trans (by simpa using hq)) (kind3.trans (by simpa using he)) w hT hb)
  · have e : lookAt pr sr ds ttl d = .inr 6 := by unfold lookAt; rw [if_neg h6, if_neg h17, if_neg h1']
    rw [e]
    exact (look_none g pr w hp h6 h17 h1').mono fun e w' ⟨h1, h2⟩ => ⟨h1, by rw [h2]; exact Fp.refl _ _⟩

def seenV (x : Sn) : Value := .agg #[.int .u8 (x.proto : Nat), .int .u32 (x.src : Nat), .int .u16 (x.sp : Nat), .int .u32 (x.dst : Nat), .int .u16 (x.dp : Nat), .int .i64 (x.kind : Nat), .int .u8 (x.flags : Nat), .bool x.ask, .int .u8 (x.ttl : Nat)]
def seenZ : Value := .agg #[.int .u8 0, .int .u32 0, .int .u16 0, .int .u32 0, .int .u16 0, .int .i64 0, .int .u8 0, .bool false, .int .u8 0]
def ofV : Sn ⊕ Nat → Value
  | .inl x => .tuple #[seenV x, .int .i64 0]
  | .inr r => .tuple #[seenZ, .int .i64 (r : Nat)]

set_option maxHeartbeats 4000000 in
set_option maxRecDepth 100000 in
theorem of_bad (l : List UInt8) (hl : l.length ≤ 1000000) (r : Nat) (hr : ipWhy l = r) (h0 : 0 < r) (w : World) : Calls Tryz.prog 10 #[str l] w (Ret1 (.tuple #[seenZ, .int .i64 (r : Nat)]) w) := by
  have K := Lib.hid (fun W => ip_ok l hl W)
  rw [ipV_no hr h0] at K
  unfold ipZ at K
  have hr0 : ((r : Int) != 0) = true := by simp [bne]; omega
  clear hr
  go_enter Tryz.func10, Tryz.ntmps10
  go_wp2_with fail
  refine (K.out _).mono ?_
  rintro e w1 ⟨rfl, hp⟩
  have hbR0 := heap_alloc_new w (.cells #[.int .u8 0, .int .u32 0, .int .u16 0, .int .u32 0, .int .u16 0, .int .i64 0, .int .u8 0, .bool false, .int .u8 0] 31)
  have hnR0 : NoW w (w.alloc (.cells #[.int .u8 0, .int .u32 0, .int .u16 0, .int .u32 0, .int .u16 0, .int .i64 0, .int .u8 0, .bool false, .int .u8 0] 31)) := (Fp.refl _ _).alloc _
  generalize w.alloc (.cells #[.int .u8 0, .int .u32 0, .int .u16 0, .int .u32 0, .int .u16 0, .int .i64 0, .int .u8 0, .bool false, .int .u8 0] 31) = w0 at *
  obtain ⟨gR, hgR⟩ : ∃ gR, gR = w.heap.size := ⟨_, rfl⟩
  rw [← hgR] at hbR0 ⊢
  have HgR := Lib.hid (show w.heap.size ≤ gR by omega)
  have B1 := Lib.hid ((hp.block _ (Array.getElem?_eq_some_iff.1 hbR0).1 id).trans hbR0)
  have N1 := Lib.hid (hnR0.trans hp (fun _ _ h => h))
  clear hbR0 hnR0 hgR hp
  go_upto_region 2 with fail
  have hbH := heap_alloc_new w1 (.cells #[.int .u8 0, .int .u16 0, .bool false, .int .u8 0, .int .u8 0, .int .u32 0, .int .u32 0, .string ⟨#[]⟩] 49)
  have hnH : NoW w1 (w1.alloc (.cells #[.int .u8 0, .int .u16 0, .bool false, .int .u8 0, .int .u8 0, .int .u32 0, .int .u32 0, .string ⟨#[]⟩] 49)) := (Fp.refl _ _).alloc _
  generalize w1.alloc (.cells #[.int .u8 0, .int .u16 0, .bool false, .int .u8 0, .int .u8 0, .int .u32 0, .int .u32 0, .string ⟨#[]⟩] 49) = w2 at *
  have B2 := Lib.hid ((hnH.block _ (Array.getElem?_eq_some_iff.1 B1.out).1 id).trans B1.out)
  have N2 := Lib.hid (N1.out.trans hnH (fun _ _ h => h))
  clear hbH hnH B1 N1
  have yr0 : w2.cell? ⟨gR, 0, none⟩ = some (.int .u8 0) := by simp [World.cell?, B2.out]
  have zyr0 : w2.frozen? ⟨gR, 0, none⟩ = false := by simp [World.frozen?, B2.out]
  have yr1 : w2.cell? ⟨gR, 1, none⟩ = some (.int .u32 0) := by simp [World.cell?, B2.out]
  have zyr1 : w2.frozen? ⟨gR, 1, none⟩ = false := by simp [World.frozen?, B2.out]
  have yr2 : w2.cell? ⟨gR, 2, none⟩ = some (.int .u16 0) := by simp [World.cell?, B2.out]
  have zyr2 : w2.frozen? ⟨gR, 2, none⟩ = false := by simp [World.frozen?, B2.out]
  have yr3 : w2.cell? ⟨gR, 3, none⟩ = some (.int .u32 0) := by simp [World.cell?, B2.out]
  have zyr3 : w2.frozen? ⟨gR, 3, none⟩ = false := by simp [World.frozen?, B2.out]
  have yr4 : w2.cell? ⟨gR, 4, none⟩ = some (.int .u16 0) := by simp [World.cell?, B2.out]
  have zyr4 : w2.frozen? ⟨gR, 4, none⟩ = false := by simp [World.frozen?, B2.out]
  have yr5 : w2.cell? ⟨gR, 5, none⟩ = some (.int .i64 0) := by simp [World.cell?, B2.out]
  have zyr5 : w2.frozen? ⟨gR, 5, none⟩ = false := by simp [World.frozen?, B2.out]
  have yr6 : w2.cell? ⟨gR, 6, none⟩ = some (.int .u8 0) := by simp [World.cell?, B2.out]
  have zyr6 : w2.frozen? ⟨gR, 6, none⟩ = false := by simp [World.frozen?, B2.out]
  have yr7 : w2.cell? ⟨gR, 7, none⟩ = some (.bool false) := by simp [World.cell?, B2.out]
  have zyr7 : w2.frozen? ⟨gR, 7, none⟩ = false := by simp [World.frozen?, B2.out]
  have yr8 : w2.cell? ⟨gR, 8, none⟩ = some (.int .u8 0) := by simp [World.cell?, B2.out]
  have zyr8 : w2.frozen? ⟨gR, 8, none⟩ = false := by simp [World.frozen?, B2.out]
  have lR := cell_lt yr0
  go_wp2_with fail
  obtain ⟨W, hW, hb2, hf2⟩ := set9 w2 gR 31 (.int .u8 0) (.int .u32 0) (.int .u16 0) (.int .u32 0) (.int .u16 0) (.int .i64 0) (.int .u8 0) (.bool false) (.int .u8 0) B2.out (.int .u8 0) (.int .u32 0) (.int .u16 0) (.int .u32 0) (.int .u16 0) (.int .i64 0) (.int .u8 0) (.bool false) (.int .u8 0)
  rw [← hW]
  clear hW lR yr0 zyr0 yr1 zyr1 yr2 zyr2 yr3 zyr3 yr4 zyr4 yr5 zyr5 yr6 zyr6 yr7 zyr7 yr8 zyr8
  have yr0 : W.cell? ⟨gR, 0, none⟩ = some (.int .u8 0) := by simp [World.cell?, hb2]
  have yr1 : W.cell? ⟨gR, 1, none⟩ = some (.int .u32 0) := by simp [World.cell?, hb2]
  have yr2 : W.cell? ⟨gR, 2, none⟩ = some (.int .u16 0) := by simp [World.cell?, hb2]
  have yr3 : W.cell? ⟨gR, 3, none⟩ = some (.int .u32 0) := by simp [World.cell?, hb2]
  have yr4 : W.cell? ⟨gR, 4, none⟩ = some (.int .u16 0) := by simp [World.cell?, hb2]
  have yr5 : W.cell? ⟨gR, 5, none⟩ = some (.int .i64 0) := by simp [World.cell?, hb2]
  have yr6 : W.cell? ⟨gR, 6, none⟩ = some (.int .u8 0) := by simp [World.cell?, hb2]
  have yr7 : W.cell? ⟨gR, 7, none⟩ = some (.bool false) := by simp [World.cell?, hb2]
  have yr8 : W.cell? ⟨gR, 8, none⟩ = some (.int .u8 0) := by simp [World.cell?, hb2]
  have lR : gR < W.heap.size := cell_lt yr0
  have HF := Lib.hid (N2.out.trans hf2 (fun i hi e => by have h1 : i = gR := e; have h2 := HgR.out; omega))
  clear hf2 hb2
  refine bodyPost_ret (v := .tuple #[seenZ, .int .i64 (r : Nat)]) (by simp only [results, Tryz.results10, seenZ]; go_simp) rfl ⟨rfl, HF.out⟩

set_option maxHeartbeats 8000000 in
set_option maxRecDepth 100000 in
theorem of_good (l : List UInt8) (hl : l.length ≤ 1000000) (hz : ipWhy l = 0) (w : World) (hT : Tb w) : Calls Tryz.prog 10 #[str l] w (Ret1 (ofV (seenOf l)) w) := by
  have K := Lib.hid (fun W => ip_ok l hl W)
  rw [show ipV l = .tuple #[ipH l (g16 l 6 == 16384), str (ipLoad l), .int .i64 0] from if_pos hz] at K
  unfold ipH at K
  have HS := Lib.hid (show seenOf l = lookAt (byt l 9) (g32 l 12) (g32 l 16) (byt l 8) (ipLoad l) from if_pos hz)
  have hld : (ipLoad l).length ≤ 1000000 := by unfold ipLoad; simp; omega
  have HT := Lib.hid hT
  clear hT hz
  generalize (g16 l 6 == 16384) = fl at *
  generalize ipLoad l = ld at *
  generalize (l.take (ipOwn l)).drop 20 = op at *
  go_enter Tryz.func10, Tryz.ntmps10
  go_wp2_with fail
  refine (K.out _).mono ?_
  rintro e w1 ⟨rfl, hp⟩
  have hbR0 := heap_alloc_new w (.cells #[.int .u8 0, .int .u32 0, .int .u16 0, .int .u32 0, .int .u16 0, .int .i64 0, .int .u8 0, .bool false, .int .u8 0] 31)
  have hnR0 : NoW w (w.alloc (.cells #[.int .u8 0, .int .u32 0, .int .u16 0, .int .u32 0, .int .u16 0, .int .i64 0, .int .u8 0, .bool false, .int .u8 0] 31)) := (Fp.refl _ _).alloc _
  generalize w.alloc (.cells #[.int .u8 0, .int .u32 0, .int .u16 0, .int .u32 0, .int .u16 0, .int .i64 0, .int .u8 0, .bool false, .int .u8 0] 31) = w0 at *
  obtain ⟨gR, hgR⟩ : ∃ gR, gR = w.heap.size := ⟨_, rfl⟩
  rw [← hgR] at hbR0 ⊢
  have HgR := Lib.hid (show w.heap.size ≤ gR by omega)
  have B1 := Lib.hid ((hp.block _ (Array.getElem?_eq_some_iff.1 hbR0).1 id).trans hbR0)
  have N1 := Lib.hid (hnR0.trans hp (fun _ _ h => h))
  clear hbR0 hnR0 hgR hp
  go_upto_region 4 with fail
  have hbH := heap_alloc_new w1 (.cells #[.int .u8 (byt l 1 : Nat), .int .u16 (g16 l 4 : Nat), .bool fl, .int .u8 (byt l 8 : Nat), .int .u8 (byt l 9 : Nat), .int .u32 (g32 l 12 : Nat), .int .u32 (g32 l 16 : Nat), str op] 49)
  have hnH : NoW w1 (w1.alloc (.cells #[.int .u8 (byt l 1 : Nat), .int .u16 (g16 l 4 : Nat), .bool fl, .int .u8 (byt l 8 : Nat), .int .u8 (byt l 9 : Nat), .int .u32 (g32 l 12 : Nat), .int .u32 (g32 l 16 : Nat), str op] 49)) := (Fp.refl _ _).alloc _
  generalize w1.alloc (.cells #[.int .u8 (byt l 1 : Nat), .int .u16 (g16 l 4 : Nat), .bool fl, .int .u8 (byt l 8 : Nat), .int .u8 (byt l 9 : Nat), .int .u32 (g32 l 12 : Nat), .int .u32 (g32 l 16 : Nat), str op] 49) = w2 at *
  obtain ⟨gH, hgH⟩ : ∃ gH, gH = w1.heap.size := ⟨_, rfl⟩
  rw [← hgH] at hbH ⊢
  have B2 := Lib.hid ((hnH.block _ (Array.getElem?_eq_some_iff.1 B1.out).1 id).trans B1.out)
  have N2 := Lib.hid (N1.out.trans hnH (fun _ _ h => h))
  have H2 := Lib.hid hbH
  clear hbH hnH hgH B1 N1
  have f0 : w2.cell? ⟨gH, 0, none⟩ = some (.int .u8 (byt l 1 : Nat)) := by simp [World.cell?, H2.out]
  have f1 : w2.cell? ⟨gH, 1, none⟩ = some (.int .u16 (g16 l 4 : Nat)) := by simp [World.cell?, H2.out]
  have f2 : w2.cell? ⟨gH, 2, none⟩ = some (.bool fl) := by simp [World.cell?, H2.out]
  have f3 : w2.cell? ⟨gH, 3, none⟩ = some (.int .u8 (byt l 8 : Nat)) := by simp [World.cell?, H2.out]
  have f4 : w2.cell? ⟨gH, 4, none⟩ = some (.int .u8 (byt l 9 : Nat)) := by simp [World.cell?, H2.out]
  have f5 : w2.cell? ⟨gH, 5, none⟩ = some (.int .u32 (g32 l 12 : Nat)) := by simp [World.cell?, H2.out]
  have f6 : w2.cell? ⟨gH, 6, none⟩ = some (.int .u32 (g32 l 16 : Nat)) := by simp [World.cell?, H2.out]
  have f7 : w2.cell? ⟨gH, 7, none⟩ = some (str op) := by simp [World.cell?, H2.out]
  have l8 := cell_lt f0
  go_upto_region 5 with fail
  have hbP := heap_alloc_new w2 (.cells #[.int .u8 (byt l 1 : Nat), .int .u16 (g16 l 4 : Nat), .bool fl, .int .u8 (byt l 8 : Nat), .int .u8 (byt l 9 : Nat), .int .u32 (g32 l 12 : Nat), .int .u32 (g32 l 16 : Nat), str op, str ld, .int .u8 0, .int .u32 0, .int .u16 0, .int .u32 0, .int .u16 0, .int .i64 2, .int .u8 0, .bool false, .int .u8 (byt l 8 : Nat)] 65)
  have hnP : NoW w2 (w2.alloc (.cells #[.int .u8 (byt l 1 : Nat), .int .u16 (g16 l 4 : Nat), .bool fl, .int .u8 (byt l 8 : Nat), .int .u8 (byt l 9 : Nat), .int .u32 (g32 l 12 : Nat), .int .u32 (g32 l 16 : Nat), str op, str ld, .int .u8 0, .int .u32 0, .int .u16 0, .int .u32 0, .int .u16 0, .int .i64 2, .int .u8 0, .bool false, .int .u8 (byt l 8 : Nat)] 65)) := (Fp.refl _ _).alloc _
  generalize w2.alloc (.cells #[.int .u8 (byt l 1 : Nat), .int .u16 (g16 l 4 : Nat), .bool fl, .int .u8 (byt l 8 : Nat), .int .u8 (byt l 9 : Nat), .int .u32 (g32 l 12 : Nat), .int .u32 (g32 l 16 : Nat), str op, str ld, .int .u8 0, .int .u32 0, .int .u16 0, .int .u32 0, .int .u16 0, .int .i64 2, .int .u8 0, .bool false, .int .u8 (byt l 8 : Nat)] 65) = w3 at *
  obtain ⟨gP, hgP⟩ : ∃ gP, gP = w2.heap.size := ⟨_, rfl⟩
  rw [← hgP] at hbP ⊢
  have hRP : gR < gP := by rw [hgP]; exact (Array.getElem?_eq_some_iff.1 B2.out).1
  have hwP := Lib.hid (show w.heap.size ≤ gP by rw [hgP]; exact N2.out.size)
  have B3 := Lib.hid ((hnP.block _ (Array.getElem?_eq_some_iff.1 B2.out).1 id).trans B2.out)
  have N3 := Lib.hid (N2.out.trans hnP (fun _ _ h => h))
  have P3 := Lib.hid hbP
  clear hbP hnP hgP B2 N2 H2 l8 f0 f1 f2 f3 f4 f5 f6 f7
  go_wp2_with fail
  have KL := look_ok gP _ _ _ _ _ (byt l 9) (g32 l 12) (g32 l 16) (byt l 8) ld hld w3 (HT.out.low N3.out) P3.out
  rcases hlk : lookAt (byt l 9) (g32 l 12) (g32 l 16) (byt l 8) ld with x | r
  · rw [hlk] at KL
    have HV := Lib.hid hlk
    clear hlk
    refine (show Calls _ _ _ _ _ from KL).mono ?_
    rintro e w4 ⟨rfl, hb4, hf4⟩
    have B4 := Lib.hid ((hf4.block gR (Array.getElem?_eq_some_iff.1 B3.out).1 (by omega)).trans B3.out)
    have N4 := Lib.hid (N3.out.trans hf4 (fun i hi e => by have h1 : i = gP := e; have h2 := hwP.out; omega))
    have P4 := Lib.hid hb4
    clear hb4 hf4 KL B3 N3 P3
    have p0 : w4.cell? ⟨gP, 9, none⟩ = some (.int .u8 (x.proto : Nat)) := by simp [World.cell?, P4.out]
    have p1 : w4.cell? ⟨gP, 10, none⟩ = some (.int .u32 (x.src : Nat)) := by simp [World.cell?, P4.out]
    have p2 : w4.cell? ⟨gP, 11, none⟩ = some (.int .u16 (x.sp : Nat)) := by simp [World.cell?, P4.out]
    have p3 : w4.cell? ⟨gP, 12, none⟩ = some (.int .u32 (x.dst : Nat)) := by simp [World.cell?, P4.out]
    have p4 : w4.cell? ⟨gP, 13, none⟩ = some (.int .u16 (x.dp : Nat)) := by simp [World.cell?, P4.out]
    have p5 : w4.cell? ⟨gP, 14, none⟩ = some (.int .i64 (x.kind : Nat)) := by simp [World.cell?, P4.out]
    have p6 : w4.cell? ⟨gP, 15, none⟩ = some (.int .u8 (x.flags : Nat)) := by simp [World.cell?, P4.out]
    have p7 : w4.cell? ⟨gP, 16, none⟩ = some (.bool x.ask) := by simp [World.cell?, P4.out]
    have p8 : w4.cell? ⟨gP, 17, none⟩ = some (.int .u8 (x.ttl : Nat)) := by simp [World.cell?, P4.out]
    have l9 := cell_lt p0
    have yr0 : w4.cell? ⟨gR, 0, none⟩ = some (.int .u8 0) := by simp [World.cell?, B4.out]
    have zyr0 : w4.frozen? ⟨gR, 0, none⟩ = false := by simp [World.frozen?, B4.out]
    have yr1 : w4.cell? ⟨gR, 1, none⟩ = some (.int .u32 0) := by simp [World.cell?, B4.out]
    have zyr1 : w4.frozen? ⟨gR, 1, none⟩ = false := by simp [World.frozen?, B4.out]
    have yr2 : w4.cell? ⟨gR, 2, none⟩ = some (.int .u16 0) := by simp [World.cell?, B4.out]
    have zyr2 : w4.frozen? ⟨gR, 2, none⟩ = false := by simp [World.frozen?, B4.out]
    have yr3 : w4.cell? ⟨gR, 3, none⟩ = some (.int .u32 0) := by simp [World.cell?, B4.out]
    have zyr3 : w4.frozen? ⟨gR, 3, none⟩ = false := by simp [World.frozen?, B4.out]
    have yr4 : w4.cell? ⟨gR, 4, none⟩ = some (.int .u16 0) := by simp [World.cell?, B4.out]
    have zyr4 : w4.frozen? ⟨gR, 4, none⟩ = false := by simp [World.frozen?, B4.out]
    have yr5 : w4.cell? ⟨gR, 5, none⟩ = some (.int .i64 0) := by simp [World.cell?, B4.out]
    have zyr5 : w4.frozen? ⟨gR, 5, none⟩ = false := by simp [World.frozen?, B4.out]
    have yr6 : w4.cell? ⟨gR, 6, none⟩ = some (.int .u8 0) := by simp [World.cell?, B4.out]
    have zyr6 : w4.frozen? ⟨gR, 6, none⟩ = false := by simp [World.frozen?, B4.out]
    have yr7 : w4.cell? ⟨gR, 7, none⟩ = some (.bool false) := by simp [World.cell?, B4.out]
    have zyr7 : w4.frozen? ⟨gR, 7, none⟩ = false := by simp [World.frozen?, B4.out]
    have yr8 : w4.cell? ⟨gR, 8, none⟩ = some (.int .u8 0) := by simp [World.cell?, B4.out]
    have zyr8 : w4.frozen? ⟨gR, 8, none⟩ = false := by simp [World.frozen?, B4.out]
    have lR := cell_lt yr0
    go_wp2_with fail
    obtain ⟨W, hW, hb2, hf2⟩ := set9 w4 gR 31 (.int .u8 0) (.int .u32 0) (.int .u16 0) (.int .u32 0) (.int .u16 0) (.int .i64 0) (.int .u8 0) (.bool false) (.int .u8 0) B4.out (.int .u8 (x.proto : Nat)) (.int .u32 (x.src : Nat)) (.int .u16 (x.sp : Nat)) (.int .u32 (x.dst : Nat)) (.int .u16 (x.dp : Nat)) (.int .i64 (x.kind : Nat)) (.int .u8 (x.flags : Nat)) (.bool x.ask) (.int .u8 (x.ttl : Nat))
    rw [← hW]
    clear hW lR yr0 zyr0 yr1 zyr1 yr2 zyr2 yr3 zyr3 yr4 zyr4 yr5 zyr5 yr6 zyr6 yr7 zyr7 yr8 zyr8 l9 p0 p1 p2 p3 p4 p5 p6 p7 p8
    have yr0 : W.cell? ⟨gR, 0, none⟩ = some (.int .u8 (x.proto : Nat)) := by simp [World.cell?, hb2]
    have yr1 : W.cell? ⟨gR, 1, none⟩ = some (.int .u32 (x.src : Nat)) := by simp [World.cell?, hb2]
    have yr2 : W.cell? ⟨gR, 2, none⟩ = some (.int .u16 (x.sp : Nat)) := by simp [World.cell?, hb2]
    have yr3 : W.cell? ⟨gR, 3, none⟩ = some (.int .u32 (x.dst : Nat)) := by simp [World.cell?, hb2]
    have yr4 : W.cell? ⟨gR, 4, none⟩ = some (.int .u16 (x.dp : Nat)) := by simp [World.cell?, hb2]
    have yr5 : W.cell? ⟨gR, 5, none⟩ = some (.int .i64 (x.kind : Nat)) := by simp [World.cell?, hb2]
    have yr6 : W.cell? ⟨gR, 6, none⟩ = some (.int .u8 (x.flags : Nat)) := by simp [World.cell?, hb2]
    have yr7 : W.cell? ⟨gR, 7, none⟩ = some (.bool x.ask) := by simp [World.cell?, hb2]
    have yr8 : W.cell? ⟨gR, 8, none⟩ = some (.int .u8 (x.ttl : Nat)) := by simp [World.cell?, hb2]
    have lR : gR < W.heap.size := cell_lt yr0
    have HF := Lib.hid (N4.out.trans hf2 (fun i hi e => by have h1 : i = gR := e; have h2 := HgR.out; omega))
    clear hf2 hb2
    refine bodyPost_ret (v := .tuple #[seenV x, .int .i64 0]) (by simp only [results, Tryz.results10, seenV]; go_simp) rfl ⟨by rw [HS.out, HV.out]; rfl, HF.out⟩
  · rw [hlk] at KL
    have hr0 : 0 < r := by have h := HS.out; rw [hlk] at h; exact seen_no h
    have HV := Lib.hid hlk
    clear hlk
    have hrn : ((r : Int) != 0) = true := by simp [bne]; omega
    clear hr0
    refine (show Calls _ _ _ _ _ from KL).mono ?_
    rintro e w4 ⟨rfl, hf4⟩
    have B4 := Lib.hid ((hf4.block gR (Array.getElem?_eq_some_iff.1 B3.out).1 (by omega)).trans B3.out)
    have N4 := Lib.hid (N3.out.trans hf4 (fun i hi e => by have h1 : i = gP := e; have h2 := hwP.out; omega))
    clear hf4 KL B3 N3 P3
    have yr0 : w4.cell? ⟨gR, 0, none⟩ = some (.int .u8 0) := by simp [World.cell?, B4.out]
    have zyr0 : w4.frozen? ⟨gR, 0, none⟩ = false := by simp [World.frozen?, B4.out]
    have yr1 : w4.cell? ⟨gR, 1, none⟩ = some (.int .u32 0) := by simp [World.cell?, B4.out]
    have zyr1 : w4.frozen? ⟨gR, 1, none⟩ = false := by simp [World.frozen?, B4.out]
    have yr2 : w4.cell? ⟨gR, 2, none⟩ = some (.int .u16 0) := by simp [World.cell?, B4.out]
    have zyr2 : w4.frozen? ⟨gR, 2, none⟩ = false := by simp [World.frozen?, B4.out]
    have yr3 : w4.cell? ⟨gR, 3, none⟩ = some (.int .u32 0) := by simp [World.cell?, B4.out]
    have zyr3 : w4.frozen? ⟨gR, 3, none⟩ = false := by simp [World.frozen?, B4.out]
    have yr4 : w4.cell? ⟨gR, 4, none⟩ = some (.int .u16 0) := by simp [World.cell?, B4.out]
    have zyr4 : w4.frozen? ⟨gR, 4, none⟩ = false := by simp [World.frozen?, B4.out]
    have yr5 : w4.cell? ⟨gR, 5, none⟩ = some (.int .i64 0) := by simp [World.cell?, B4.out]
    have zyr5 : w4.frozen? ⟨gR, 5, none⟩ = false := by simp [World.frozen?, B4.out]
    have yr6 : w4.cell? ⟨gR, 6, none⟩ = some (.int .u8 0) := by simp [World.cell?, B4.out]
    have zyr6 : w4.frozen? ⟨gR, 6, none⟩ = false := by simp [World.frozen?, B4.out]
    have yr7 : w4.cell? ⟨gR, 7, none⟩ = some (.bool false) := by simp [World.cell?, B4.out]
    have zyr7 : w4.frozen? ⟨gR, 7, none⟩ = false := by simp [World.frozen?, B4.out]
    have yr8 : w4.cell? ⟨gR, 8, none⟩ = some (.int .u8 0) := by simp [World.cell?, B4.out]
    have zyr8 : w4.frozen? ⟨gR, 8, none⟩ = false := by simp [World.frozen?, B4.out]
    have lR := cell_lt yr0
    go_wp2_with fail
    obtain ⟨W, hW, hb2, hf2⟩ := set9 w4 gR 31 (.int .u8 0) (.int .u32 0) (.int .u16 0) (.int .u32 0) (.int .u16 0) (.int .i64 0) (.int .u8 0) (.bool false) (.int .u8 0) B4.out (.int .u8 0) (.int .u32 0) (.int .u16 0) (.int .u32 0) (.int .u16 0) (.int .i64 0) (.int .u8 0) (.bool false) (.int .u8 0)
    rw [← hW]
    clear hW lR yr0 zyr0 yr1 zyr1 yr2 zyr2 yr3 zyr3 yr4 zyr4 yr5 zyr5 yr6 zyr6 yr7 zyr7 yr8 zyr8
    have yr0 : W.cell? ⟨gR, 0, none⟩ = some (.int .u8 0) := by simp [World.cell?, hb2]
    have yr1 : W.cell? ⟨gR, 1, none⟩ = some (.int .u32 0) := by simp [World.cell?, hb2]
    have yr2 : W.cell? ⟨gR, 2, none⟩ = some (.int .u16 0) := by simp [World.cell?, hb2]
    have yr3 : W.cell? ⟨gR, 3, none⟩ = some (.int .u32 0) := by simp [World.cell?, hb2]
    have yr4 : W.cell? ⟨gR, 4, none⟩ = some (.int .u16 0) := by simp [World.cell?, hb2]
    have yr5 : W.cell? ⟨gR, 5, none⟩ = some (.int .i64 0) := by simp [World.cell?, hb2]
    have yr6 : W.cell? ⟨gR, 6, none⟩ = some (.int .u8 0) := by simp [World.cell?, hb2]
    have yr7 : W.cell? ⟨gR, 7, none⟩ = some (.bool false) := by simp [World.cell?, hb2]
    have yr8 : W.cell? ⟨gR, 8, none⟩ = some (.int .u8 0) := by simp [World.cell?, hb2]
    have lR : gR < W.heap.size := cell_lt yr0
    have HF := Lib.hid (N4.out.trans hf2 (fun i hi e => by have h1 : i = gR := e; have h2 := HgR.out; omega))
    clear hf2 hb2
    refine bodyPost_ret (v := .tuple #[seenZ, .int .i64 (r : Nat)]) (by simp only [results, Tryz.results10, seenZ]; go_simp) rfl ⟨by rw [HS.out, HV.out]; rfl, HF.out⟩

theorem of_ok (l : List UInt8) (hl : l.length ≤ 1000000) (w : World) (hT : Tb w) : Calls Tryz.prog 10 #[str l] w (Ret1 (ofV (seenOf l)) w) := by
  by_cases hz : ipWhy l = 0
  · exact of_good l hl hz w hT
  · rw [show seenOf l = .inr (ipWhy l) from if_neg hz]
    exact of_bad l hl _ rfl (by omega) w
end Go.Proofs.YtmghjaoodnkjlaaGreatDoor
