/- Chapter 18: entries.Parse (written by genparsee.py). -/
import Derived.Test.YtdmbjndhdldggaaGreatDoorEpC
import Derived.Test.YtdmbjndhdldggaaGreatDoorEpG
namespace Go.Proofs.YtdmbjndhdldggaaGreatDoor
set_option linter.unusedVariables false
set_option linter.unusedSimpArgs false
open Go.RowKit Go.Lib Go.Sort

set_option maxHeartbeats 8000000 in
set_option maxRecDepth 100000 in
theorem parse_main1 (l : List UInt8) (hl : l.length ≤ 4000000) (p0 p1 p2 p3 p4 p5 p6 p7 p8 h0 : List UInt8) (hps : pieces 32 l = [p0, p1, p2, p3, p4, p5, p6, p7, p8, h0]) (hb : p3 = [124]) (w : World) (ht : TbQ w) :
    Calls Tryz.prog 7 #[str l] w (fun e w' => NoW w w' ∧ ((e = .returned (.tuple #[.agg #[.int .u8 0, .int .u32 0, .int .u16 0, .int .u32 0, .int .u16 0, .int .u8 0, .int .u32 0, .int .u16 0, .int .u32 0, .int .u16 0, .int .i64 0, .int .i64 0, .slice none 0 0], .int .i64 3]) ∧ NP l) ∨ ∃ (r a p b q r2 a2 p2 b2 q2 st dl n : Nat) (oa op ia ip : Nat → Nat) (o : Option Addr) (c : Nat), e = .returned (.tuple #[.agg #[.int .u8 r, .int .u32 a, .int .u16 p, .int .u32 b, .int .u16 q, .int .u8 r2, .int .u32 a2, .int .u16 p2, .int .u32 b2, .int .u16 q2, .int .i64 (st : Nat), .int .i64 (dl : Nat), .slice o n c], .int .i64 0]) ∧ Parsed l r a p b q r2 a2 p2 b2 q2 st dl n oa op ia ip ∧ n ≤ c ∧ HoldsIn w' o n (holdsV oa op ia ip n))) := by
  have hlen : ∀ p, p ∈ pieces 32 l → p.length ≤ 4000000 := fun p hp => Nat.le_trans (pieces_le hp) hl
  rw [hps] at hlen
  have hj1 : (joinB [p0, p1, p2]).length ≤ 100000000 := by
    have h := joinB_len 4000000 [p0, p1, p2] (fun p hp => hlen p (by simp at hp ⊢; rcases hp with h | h | h <;> simp [h]))
    simp at h; omega
  have hj2 : (joinB [p4, p5, p6]).length ≤ 100000000 := by
    have h := joinB_len 4000000 [p4, p5, p6] (fun p hp => hlen p (by simp at hp ⊢; rcases hp with h | h | h <;> simp [h]))
    simp at h; omega
  have hl7 := hlen p7 (by simp)
  have hl8 := hlen p8 (by simp)
  obtain ⟨r1, a1, b1, c1, d1, e1, z1, hv1, hz1, hs1, hn1⟩ := tup_val (tupOf (joinB [p0, p1, p2]))
  obtain ⟨r2, a2, b2, c2, d2, e2, z2, hv2, hz2, hs2, hn2⟩ := tup_val (tupOf (joinB [p4, p5, p6]))
  obtain ⟨st, z3, hs3, hn3, k3⟩ := atoi_any p7 (by omega)
  obtain ⟨dl, z4, hs4, hn4, k4⟩ := atoi_any p8 (by omega)
  have k1 := fun W hW => tup_parse (joinB [p0, p1, p2]) (by omega) W hW
  have k2 := fun W hW => tup_parse (joinB [p4, p5, p6]) (by omega) W hW
  rw [hv1] at k1
  rw [hv2] at k2
  have K1 := Lib.hid k1
  have K2 := Lib.hid k2
  have K3 := Lib.hid k3
  have K4 := Lib.hid k4
  have HJ1 := Lib.hid (show (joinB [p0, p1, p2]).length ≤ 140737488355327 from by omega)
  have HJ2 := Lib.hid (show (joinB [p4, p5, p6]).length ≤ 140737488355327 from by omega)
  have Hs1 := Lib.hid hs1
  have Hs2 := Lib.hid hs2
  have Hs3 := Lib.hid hs3
  have Hs4 := Lib.hid hs4
  have N1 := Lib.hid (show z1 = false → NP l from fun h => np_t1 hps (hn1 h))
  have N2 := Lib.hid (show z2 = false → NP l from fun h => np_t2 hps (hn2 h))
  have N3 := Lib.hid (show z3 = false → NP l from fun h => np_a1 hps (hn3 h))
  have N4 := Lib.hid (show z4 = false → NP l from fun h => np_a2 hps (hn4 h))
  have Hlen := Lib.hid hlen
  clear k1 k2 k3 k4 hj1 hj2 hl7 hl8 hv1 hs1 hn1 hv2 hs2 hn2 hs3 hn3 hs4 hn4 hlen
  obtain ⟨mm, hmx0⟩ := ht.toP.mx
  have hsz : (⟨l.toArray⟩ : ByteArray).size = l.length := by simp [ByteArray.size]
  have Ht := Lib.hid ht
  have hcnt := count_list 32 l
  have hsplit := split_list 32 l
  rw [hps] at hcnt hsplit
  have Hps := Lib.hid hps
  have hwz : NoW w (w.alloc (.cells #[.int .u8 0, .int .u32 0, .int .u16 0, .int .u32 0, .int .u16 0, .int .u8 0, .int .u32 0, .int .u16 0, .int .u32 0, .int .u16 0, .int .i64 0, .int .i64 0, .slice none 0 0] 31)) := (Fp.refl _ _).alloc _
  have hmx := (hwz.cell (cell_lt hmx0) id).trans hmx0
  clear ht hps
  go_enter Tryz.func7, Tryz.ntmps7
  go_wp2_with fail
  have hbR := heap_alloc_new w (.cells #[.int .u8 0, .int .u32 0, .int .u16 0, .int .u32 0, .int .u16 0, .int .u8 0, .int .u32 0, .int .u16 0, .int .u32 0, .int .u16 0, .int .i64 0, .int .i64 0, .slice none 0 0] 31)
  generalize w.alloc (.cells #[.int .u8 0, .int .u32 0, .int .u16 0, .int .u32 0, .int .u16 0, .int .u8 0, .int .u32 0, .int .u16 0, .int .u32 0, .int .u16 0, .int .i64 0, .int .i64 0, .slice none 0 0] 31) = w0 at *
  obtain ⟨gR, hgR⟩ : ∃ gR, gR = w.heap.size := ⟨_, rfl⟩
  rw [← hgR] at hbR ⊢
  have HgR := Lib.hid (show w.heap.size ≤ gR by omega)
  clear hgR
  refine (Tryz.strings_Split ⟨l.toArray⟩ ⟨#[32]⟩ mm w0 (by rw [hsz]; omega) hmx (by decide)).mono ?_
  rintro e w1 ⟨rfl, rfl⟩
  rw [hcnt, hsplit]
  have hq1 : NoW w0 (w0.alloc (.cells (([p0, p1, p2, p3, p4, p5, p6, p7, p8, h0].map (fun p => (⟨p.toArray⟩ : ByteArray))).map Value.string).toArray 9)) := (Fp.refl _ _).alloc _
  have hbR1 := (hq1.block _ (Array.getElem?_eq_some_iff.1 hbR).1 id).trans hbR
  have hbP : (w0.alloc (.cells (([p0, p1, p2, p3, p4, p5, p6, p7, p8, h0].map (fun p => (⟨p.toArray⟩ : ByteArray))).map Value.string).toArray 9)).heap[w0.heap.size]? = some (.cells #[str p0, str p1, str p2, str p3, str p4, str p5, str p6, str p7, str p8, str h0] 9) := by simpa using heap_alloc_new w0 (.cells (([p0, p1, p2, p3, p4, p5, p6, p7, p8, h0].map (fun p => (⟨p.toArray⟩ : ByteArray))).map Value.string).toArray 9)
  have hn1 := hwz.trans hq1 (fun _ _ h => h)
  generalize w0.alloc (.cells (([p0, p1, p2, p3, p4, p5, p6, p7, p8, h0].map (fun p => (⟨p.toArray⟩ : ByteArray))).map Value.string).toArray 9) = w1 at *
  generalize w0.heap.size = gP at *
  have BR := Lib.hid hbR1
  have BP := Lib.hid hbP
  have Hn1 := Lib.hid hn1
  have x3 : w1.cell? ⟨gP, 3, none⟩ = some (str p3) := by simp [World.cell?, BP.out]
  have hb1 : (p3 == [124]) = true := by simp [hb]
  have hb2 : (p3 != [124]) = false := by simp [hb]
  clear hb
  clear hq1 hbR hbR1 hn1 hwz hmx hmx0 hcnt hsplit hsz hbP
  have jc1 : ∀ (W : World), W.heap[gP]? = some (.cells #[str p0, str p1, str p2, str p3, str p4, str p5, str p6, str p7, str p8, str h0] 9) → ∀ j x, [p0, p1, p2][j]? = some x → W.cell? ⟨gP, 0 + j, none⟩ = some (str x) := by
    intro W h j x hj
    match j, hj with
    | 0, hj => (simp at hj; simp [World.cell?, h, ← hj])
    | 1, hj => (simp at hj; simp [World.cell?, h, ← hj])
    | 2, hj => (simp at hj; simp [World.cell?, h, ← hj])
    | j + 3, hj => simp at hj
  have JC1 := Lib.hid jc1
  clear jc1
  have jc2 : ∀ (W : World), W.heap[gP]? = some (.cells #[str p0, str p1, str p2, str p3, str p4, str p5, str p6, str p7, str p8, str h0] 9) → ∀ j x, [p4, p5, p6][j]? = some x → W.cell? ⟨gP, 4 + j, none⟩ = some (str x) := by
    intro W h j x hj
    match j, hj with
    | 0, hj => (simp at hj; simp [World.cell?, h, ← hj])
    | 1, hj => (simp at hj; simp [World.cell?, h, ← hj])
    | 2, hj => (simp at hj; simp [World.cell?, h, ← hj])
    | j + 3, hj => simp at hj
  have JC2 := Lib.hid jc2
  clear jc2
  go_wp2_with fail
  clear x3
  refine (join_at gP 0 3 10 [p0, p1, p2] _ (JC1.out _ BP.out) (Array.getElem?_eq_some_iff.1 BP.out).1 rfl (by omega) HJ1.out).mono ?_
  rintro e v0 ⟨rfl, hp⟩
  have Hm0 := Lib.hid (Hn1.out.trans hp (fun _ _ h => h))
  have hb := (hp.block _ (Array.getElem?_eq_some_iff.1 BR.out).1 id).trans BR.out
  clear BR
  have BR := Lib.hid hb
  clear hb
  have hb := (hp.block _ (Array.getElem?_eq_some_iff.1 BP.out).1 id).trans BP.out
  clear BP
  have BP := Lib.hid hb
  clear hb
  clear hp Hn1
  go_wp2_with fail
  refine (K1.out _ (Ht.out.low Hm0.out)).mono ?_
  rintro e v1 ⟨rfl, hp⟩
  have Hm1 := Lib.hid (Hm0.out.trans hp (fun _ _ h => h))
  have hb := (hp.block _ (Array.getElem?_eq_some_iff.1 BR.out).1 id).trans BR.out
  clear BR
  have BR := Lib.hid hb
  clear hb
  have hb := (hp.block _ (Array.getElem?_eq_some_iff.1 BP.out).1 id).trans BP.out
  clear BP
  have BP := Lib.hid hb
  clear hb
  clear hp Hm0
  go_wp2_with fail
  have hq : NoW v1 (v1.alloc (.cells #[.int .u8 r1, .int .u32 a1, .int .u16 b1, .int .u32 c1, .int .u16 d1] 28)) := (Fp.refl _ _).alloc _
  have Hq0 := Lib.hid (Hm1.out.trans hq (fun _ _ h => h))
  have hb := (hq.block _ (Array.getElem?_eq_some_iff.1 BR.out).1 id).trans BR.out
  clear BR
  have BR := Lib.hid hb
  clear hb
  have hb := (hq.block _ (Array.getElem?_eq_some_iff.1 BP.out).1 id).trans BP.out
  clear BP
  have BP := Lib.hid hb
  clear hb
  have hb : (v1.alloc (.cells #[.int .u8 r1, .int .u32 a1, .int .u16 b1, .int .u32 c1, .int .u16 d1] 28)).heap[v1.heap.size]? = some (.cells #[.int .u8 r1, .int .u32 a1, .int .u16 b1, .int .u32 c1, .int .u16 d1] 28) := by simpa using heap_alloc_new v1 (.cells #[.int .u8 r1, .int .u32 a1, .int .u16 b1, .int .u32 c1, .int .u16 d1] 28)
  have B5 := Lib.hid hb
  clear hb hq Hm1
  generalize (v1.alloc (.cells #[.int .u8 r1, .int .u32 a1, .int .u16 b1, .int .u32 c1, .int .u16 d1] 28)) = x0 at *
  generalize v1.heap.size = gB5 at *
  refine (join_at gP 4 3 6 [p4, p5, p6] _ (JC2.out _ BP.out) (Array.getElem?_eq_some_iff.1 BP.out).1 rfl (by omega) HJ2.out).mono ?_
  rintro e v2 ⟨rfl, hp⟩
  have Hm2 := Lib.hid (Hq0.out.trans hp (fun _ _ h => h))
  have hb := (hp.block _ (Array.getElem?_eq_some_iff.1 BR.out).1 id).trans BR.out
  clear BR
  have BR := Lib.hid hb
  clear hb
  have hb := (hp.block _ (Array.getElem?_eq_some_iff.1 BP.out).1 id).trans BP.out
  clear BP
  have BP := Lib.hid hb
  clear hb
  have hb := (hp.block _ (Array.getElem?_eq_some_iff.1 B5.out).1 id).trans B5.out
  clear B5
  have B5 := Lib.hid hb
  clear hb
  clear hp Hq0
  go_wp2_with fail
  refine (K2.out _ (Ht.out.low Hm2.out)).mono ?_
  rintro e v3 ⟨rfl, hp⟩
  have Hm3 := Lib.hid (Hm2.out.trans hp (fun _ _ h => h))
  have hb := (hp.block _ (Array.getElem?_eq_some_iff.1 BR.out).1 id).trans BR.out
  clear BR
  have BR := Lib.hid hb
  clear hb
  have hb := (hp.block _ (Array.getElem?_eq_some_iff.1 BP.out).1 id).trans BP.out
  clear BP
  have BP := Lib.hid hb
  clear hb
  have hb := (hp.block _ (Array.getElem?_eq_some_iff.1 B5.out).1 id).trans B5.out
  clear B5
  have B5 := Lib.hid hb
  clear hb
  clear hp Hm2
  have cBP0 : v3.cell? ⟨gP, 0, none⟩ = some (str p0) := by simp [World.cell?, BP.out]
  have cBP1 : v3.cell? ⟨gP, 1, none⟩ = some (str p1) := by simp [World.cell?, BP.out]
  have cBP2 : v3.cell? ⟨gP, 2, none⟩ = some (str p2) := by simp [World.cell?, BP.out]
  have cBP3 : v3.cell? ⟨gP, 3, none⟩ = some (str p3) := by simp [World.cell?, BP.out]
  have cBP4 : v3.cell? ⟨gP, 4, none⟩ = some (str p4) := by simp [World.cell?, BP.out]
  have cBP5 : v3.cell? ⟨gP, 5, none⟩ = some (str p5) := by simp [World.cell?, BP.out]
  have cBP6 : v3.cell? ⟨gP, 6, none⟩ = some (str p6) := by simp [World.cell?, BP.out]
  have cBP7 : v3.cell? ⟨gP, 7, none⟩ = some (str p7) := by simp [World.cell?, BP.out]
  have cBP8 : v3.cell? ⟨gP, 8, none⟩ = some (str p8) := by simp [World.cell?, BP.out]
  have cBP9 : v3.cell? ⟨gP, 9, none⟩ = some (str h0) := by simp [World.cell?, BP.out]
  have lBP : gP < v3.heap.size := cell_lt cBP0
  go_wp2_with fail
  clear cBP0 cBP1 cBP2 cBP3 cBP4 cBP5 cBP6 cBP7 cBP8 cBP9 lBP
  have hq : NoW v3 (v3.alloc (.cells #[.int .u8 r2, .int .u32 a2, .int .u16 b2, .int .u32 c2, .int .u16 d2] 28)) := (Fp.refl _ _).alloc _
  have Hq1 := Lib.hid (Hm3.out.trans hq (fun _ _ h => h))
  have hb := (hq.block _ (Array.getElem?_eq_some_iff.1 BR.out).1 id).trans BR.out
  clear BR
  have BR := Lib.hid hb
  clear hb
  have hb := (hq.block _ (Array.getElem?_eq_some_iff.1 BP.out).1 id).trans BP.out
  clear BP
  have BP := Lib.hid hb
  clear hb
  have hb := (hq.block _ (Array.getElem?_eq_some_iff.1 B5.out).1 id).trans B5.out
  clear B5
  have B5 := Lib.hid hb
  clear hb
  have hb : (v3.alloc (.cells #[.int .u8 r2, .int .u32 a2, .int .u16 b2, .int .u32 c2, .int .u16 d2] 28)).heap[v3.heap.size]? = some (.cells #[.int .u8 r2, .int .u32 a2, .int .u16 b2, .int .u32 c2, .int .u16 d2] 28) := by simpa using heap_alloc_new v3 (.cells #[.int .u8 r2, .int .u32 a2, .int .u16 b2, .int .u32 c2, .int .u16 d2] 28)
  have B7 := Lib.hid hb
  clear hb hq Hm3
  generalize (v3.alloc (.cells #[.int .u8 r2, .int .u32 a2, .int .u16 b2, .int .u32 c2, .int .u16 d2] 28)) = x1 at *
  generalize v3.heap.size = gB7 at *
  refine (K3.out _ (Ht.out.low Hq1.out).toP).mono ?_
  rintro e v4 ⟨hp, ⟨hz3, rfl⟩ | ⟨hz3, N3b, rfl⟩⟩
  · have Hm4 := Lib.hid (Hq1.out.trans hp (fun _ _ h => h))
    have hb := (hp.block _ (Array.getElem?_eq_some_iff.1 BR.out).1 id).trans BR.out
    clear BR
    have BR := Lib.hid hb
    clear hb
    have hb := (hp.block _ (Array.getElem?_eq_some_iff.1 BP.out).1 id).trans BP.out
    clear BP
    have BP := Lib.hid hb
    clear hb
    have hb := (hp.block _ (Array.getElem?_eq_some_iff.1 B5.out).1 id).trans B5.out
    clear B5
    have B5 := Lib.hid hb
    clear hb
    have hb := (hp.block _ (Array.getElem?_eq_some_iff.1 B7.out).1 id).trans B7.out
    clear B7
    have B7 := Lib.hid hb
    clear hb
    clear hp Hq1
    have cBP0 : v4.cell? ⟨gP, 0, none⟩ = some (str p0) := by simp [World.cell?, BP.out]
    have cBP1 : v4.cell? ⟨gP, 1, none⟩ = some (str p1) := by simp [World.cell?, BP.out]
    have cBP2 : v4.cell? ⟨gP, 2, none⟩ = some (str p2) := by simp [World.cell?, BP.out]
    have cBP3 : v4.cell? ⟨gP, 3, none⟩ = some (str p3) := by simp [World.cell?, BP.out]
    have cBP4 : v4.cell? ⟨gP, 4, none⟩ = some (str p4) := by simp [World.cell?, BP.out]
    have cBP5 : v4.cell? ⟨gP, 5, none⟩ = some (str p5) := by simp [World.cell?, BP.out]
    have cBP6 : v4.cell? ⟨gP, 6, none⟩ = some (str p6) := by simp [World.cell?, BP.out]
    have cBP7 : v4.cell? ⟨gP, 7, none⟩ = some (str p7) := by simp [World.cell?, BP.out]
    have cBP8 : v4.cell? ⟨gP, 8, none⟩ = some (str p8) := by simp [World.cell?, BP.out]
    have cBP9 : v4.cell? ⟨gP, 9, none⟩ = some (str h0) := by simp [World.cell?, BP.out]
    have lBP : gP < v4.heap.size := cell_lt cBP0
    go_wp2_with fail
    clear cBP0 cBP1 cBP2 cBP3 cBP4 cBP5 cBP6 cBP7 cBP8 cBP9 lBP
    refine (K4.out _ (Ht.out.low Hm4.out).toP).mono ?_
    rintro e v5 ⟨hp, ⟨hz4, rfl⟩ | ⟨hz4, N4b, rfl⟩⟩
    · have Hm5 := Lib.hid (Hm4.out.trans hp (fun _ _ h => h))
      have hb := (hp.block _ (Array.getElem?_eq_some_iff.1 BR.out).1 id).trans BR.out
      clear BR
      have BR := Lib.hid hb
      clear hb
      have hb := (hp.block _ (Array.getElem?_eq_some_iff.1 BP.out).1 id).trans BP.out
      clear BP
      have BP := Lib.hid hb
      clear hb
      have hb := (hp.block _ (Array.getElem?_eq_some_iff.1 B5.out).1 id).trans B5.out
      clear B5
      have B5 := Lib.hid hb
      clear hb
      have hb := (hp.block _ (Array.getElem?_eq_some_iff.1 B7.out).1 id).trans B7.out
      clear B7
      have B7 := Lib.hid hb
      clear hb
      clear hp Hm4
      rcases z1 with _ | _
      · have q1 : (e1 != 0) = true := by simp [bne, hz1]
        have y0 : v5.cell? ⟨gR, 0, none⟩ = some (.int .u8 0) := by simp [World.cell?, BR.out]
        have zy0 : v5.frozen? ⟨gR, 0, none⟩ = false := by simp [World.frozen?, BR.out]
        have y1 : v5.cell? ⟨gR, 1, none⟩ = some (.int .u32 0) := by simp [World.cell?, BR.out]
        have zy1 : v5.frozen? ⟨gR, 1, none⟩ = false := by simp [World.frozen?, BR.out]
        have y2 : v5.cell? ⟨gR, 2, none⟩ = some (.int .u16 0) := by simp [World.cell?, BR.out]
        have zy2 : v5.frozen? ⟨gR, 2, none⟩ = false := by simp [World.frozen?, BR.out]
        have y3 : v5.cell? ⟨gR, 3, none⟩ = some (.int .u32 0) := by simp [World.cell?, BR.out]
        have zy3 : v5.frozen? ⟨gR, 3, none⟩ = false := by simp [World.frozen?, BR.out]
        have y4 : v5.cell? ⟨gR, 4, none⟩ = some (.int .u16 0) := by simp [World.cell?, BR.out]
        have zy4 : v5.frozen? ⟨gR, 4, none⟩ = false := by simp [World.frozen?, BR.out]
        have y5 : v5.cell? ⟨gR, 5, none⟩ = some (.int .u8 0) := by simp [World.cell?, BR.out]
        have zy5 : v5.frozen? ⟨gR, 5, none⟩ = false := by simp [World.frozen?, BR.out]
        have y6 : v5.cell? ⟨gR, 6, none⟩ = some (.int .u32 0) := by simp [World.cell?, BR.out]
        have zy6 : v5.frozen? ⟨gR, 6, none⟩ = false := by simp [World.frozen?, BR.out]
        have y7 : v5.cell? ⟨gR, 7, none⟩ = some (.int .u16 0) := by simp [World.cell?, BR.out]
        have zy7 : v5.frozen? ⟨gR, 7, none⟩ = false := by simp [World.frozen?, BR.out]
        have y8 : v5.cell? ⟨gR, 8, none⟩ = some (.int .u32 0) := by simp [World.cell?, BR.out]
        have zy8 : v5.frozen? ⟨gR, 8, none⟩ = false := by simp [World.frozen?, BR.out]
        have y9 : v5.cell? ⟨gR, 9, none⟩ = some (.int .u16 0) := by simp [World.cell?, BR.out]
        have zy9 : v5.frozen? ⟨gR, 9, none⟩ = false := by simp [World.frozen?, BR.out]
        have y10 : v5.cell? ⟨gR, 10, none⟩ = some (.int .i64 0) := by simp [World.cell?, BR.out]
        have zy10 : v5.frozen? ⟨gR, 10, none⟩ = false := by simp [World.frozen?, BR.out]
        have y11 : v5.cell? ⟨gR, 11, none⟩ = some (.int .i64 0) := by simp [World.cell?, BR.out]
        have zy11 : v5.frozen? ⟨gR, 11, none⟩ = false := by simp [World.frozen?, BR.out]
        have y12 : v5.cell? ⟨gR, 12, none⟩ = some (.slice none 0 0) := by simp [World.cell?, BR.out]
        have zy12 : v5.frozen? ⟨gR, 12, none⟩ = false := by simp [World.frozen?, BR.out]
        go_wp2_with fail
        obtain ⟨W, hW, hb2, hf2⟩ := set13 v5 gR 31 (.int .u8 0) (.int .u32 0) (.int .u16 0) (.int .u32 0) (.int .u16 0) (.int .u8 0) (.int .u32 0) (.int .u16 0) (.int .u32 0) (.int .u16 0) (.int .i64 0) (.int .i64 0) (.slice none 0 0) BR.out (.int .u8 0) (.int .u32 0) (.int .u16 0) (.int .u32 0) (.int .u16 0) (.int .u8 0) (.int .u32 0) (.int .u16 0) (.int .u32 0) (.int .u16 0) (.int .i64 0) (.int .i64 0) (.slice none 0 0)
        rw [← hW]
        clear hW y0 zy0 y1 zy1 y2 zy2 y3 zy3 y4 zy4 y5 zy5 y6 zy6 y7 zy7 y8 zy8 y9 zy9 y10 zy10 y11 zy11 y12 zy12
        have y0 : W.cell? ⟨gR, 0, none⟩ = some (.int .u8 0) := by simp [World.cell?, hb2]
        have y1 : W.cell? ⟨gR, 1, none⟩ = some (.int .u32 0) := by simp [World.cell?, hb2]
        have y2 : W.cell? ⟨gR, 2, none⟩ = some (.int .u16 0) := by simp [World.cell?, hb2]
        have y3 : W.cell? ⟨gR, 3, none⟩ = some (.int .u32 0) := by simp [World.cell?, hb2]
        have y4 : W.cell? ⟨gR, 4, none⟩ = some (.int .u16 0) := by simp [World.cell?, hb2]
        have y5 : W.cell? ⟨gR, 5, none⟩ = some (.int .u8 0) := by simp [World.cell?, hb2]
        have y6 : W.cell? ⟨gR, 6, none⟩ = some (.int .u32 0) := by simp [World.cell?, hb2]
        have y7 : W.cell? ⟨gR, 7, none⟩ = some (.int .u16 0) := by simp [World.cell?, hb2]
        have y8 : W.cell? ⟨gR, 8, none⟩ = some (.int .u32 0) := by simp [World.cell?, hb2]
        have y9 : W.cell? ⟨gR, 9, none⟩ = some (.int .u16 0) := by simp [World.cell?, hb2]
        have y10 : W.cell? ⟨gR, 10, none⟩ = some (.int .i64 0) := by simp [World.cell?, hb2]
        have y11 : W.cell? ⟨gR, 11, none⟩ = some (.int .i64 0) := by simp [World.cell?, hb2]
        have y12 : W.cell? ⟨gR, 12, none⟩ = some (.slice none 0 0) := by simp [World.cell?, hb2]
        have HF := Lib.hid (Hm5.out.trans hf2 (fun i hi e => by have h1 : i = gR := e; have h2 := HgR.out; omega))
        have HNP := Lib.hid (N1.out (by first | rfl | trivial))
        clear hf2 hb2
        refine bodyPost_ret (v := .tuple #[.agg #[.int .u8 0, .int .u32 0, .int .u16 0, .int .u32 0, .int .u16 0, .int .u8 0, .int .u32 0, .int .u16 0, .int .u32 0, .int .u16 0, .int .i64 0, .int .i64 0, .slice none 0 0], .int .i64 3]) (by simp only [results, Tryz.results7]; go_simp) rfl ⟨HF.out, .inl ⟨rfl, HNP.out⟩⟩
      · rcases z2 with _ | _
        · have q1 : (e1 != 0) = false := by simp [bne, hz1]
          have q2 : (e2 != 0) = true := by simp [bne, hz2]
          have y0 : v5.cell? ⟨gR, 0, none⟩ = some (.int .u8 0) := by simp [World.cell?, BR.out]
          have zy0 : v5.frozen? ⟨gR, 0, none⟩ = false := by simp [World.frozen?, BR.out]
          have y1 : v5.cell? ⟨gR, 1, none⟩ = some (.int .u32 0) := by simp [World.cell?, BR.out]
          have zy1 : v5.frozen? ⟨gR, 1, none⟩ = false := by simp [World.frozen?, BR.out]
          have y2 : v5.cell? ⟨gR, 2, none⟩ = some (.int .u16 0) := by simp [World.cell?, BR.out]
          have zy2 : v5.frozen? ⟨gR, 2, none⟩ = false := by simp [World.frozen?, BR.out]
          have y3 : v5.cell? ⟨gR, 3, none⟩ = some (.int .u32 0) := by simp [World.cell?, BR.out]
          have zy3 : v5.frozen? ⟨gR, 3, none⟩ = false := by simp [World.frozen?, BR.out]
          have y4 : v5.cell? ⟨gR, 4, none⟩ = some (.int .u16 0) := by simp [World.cell?, BR.out]
          have zy4 : v5.frozen? ⟨gR, 4, none⟩ = false := by simp [World.frozen?, BR.out]
          have y5 : v5.cell? ⟨gR, 5, none⟩ = some (.int .u8 0) := by simp [World.cell?, BR.out]
          have zy5 : v5.frozen? ⟨gR, 5, none⟩ = false := by simp [World.frozen?, BR.out]
          have y6 : v5.cell? ⟨gR, 6, none⟩ = some (.int .u32 0) := by simp [World.cell?, BR.out]
          have zy6 : v5.frozen? ⟨gR, 6, none⟩ = false := by simp [World.frozen?, BR.out]
          have y7 : v5.cell? ⟨gR, 7, none⟩ = some (.int .u16 0) := by simp [World.cell?, BR.out]
          have zy7 : v5.frozen? ⟨gR, 7, none⟩ = false := by simp [World.frozen?, BR.out]
          have y8 : v5.cell? ⟨gR, 8, none⟩ = some (.int .u32 0) := by simp [World.cell?, BR.out]
          have zy8 : v5.frozen? ⟨gR, 8, none⟩ = false := by simp [World.frozen?, BR.out]
          have y9 : v5.cell? ⟨gR, 9, none⟩ = some (.int .u16 0) := by simp [World.cell?, BR.out]
          have zy9 : v5.frozen? ⟨gR, 9, none⟩ = false := by simp [World.frozen?, BR.out]
          have y10 : v5.cell? ⟨gR, 10, none⟩ = some (.int .i64 0) := by simp [World.cell?, BR.out]
          have zy10 : v5.frozen? ⟨gR, 10, none⟩ = false := by simp [World.frozen?, BR.out]
          have y11 : v5.cell? ⟨gR, 11, none⟩ = some (.int .i64 0) := by simp [World.cell?, BR.out]
          have zy11 : v5.frozen? ⟨gR, 11, none⟩ = false := by simp [World.frozen?, BR.out]
          have y12 : v5.cell? ⟨gR, 12, none⟩ = some (.slice none 0 0) := by simp [World.cell?, BR.out]
          have zy12 : v5.frozen? ⟨gR, 12, none⟩ = false := by simp [World.frozen?, BR.out]
          go_wp2_with fail
          obtain ⟨W, hW, hb2, hf2⟩ := set13 v5 gR 31 (.int .u8 0) (.int .u32 0) (.int .u16 0) (.int .u32 0) (.int .u16 0) (.int .u8 0) (.int .u32 0) (.int .u16 0) (.int .u32 0) (.int .u16 0) (.int .i64 0) (.int .i64 0) (.slice none 0 0) BR.out (.int .u8 0) (.int .u32 0) (.int .u16 0) (.int .u32 0) (.int .u16 0) (.int .u8 0) (.int .u32 0) (.int .u16 0) (.int .u32 0) (.int .u16 0) (.int .i64 0) (.int .i64 0) (.slice none 0 0)
          rw [← hW]
          clear hW y0 zy0 y1 zy1 y2 zy2 y3 zy3 y4 zy4 y5 zy5 y6 zy6 y7 zy7 y8 zy8 y9 zy9 y10 zy10 y11 zy11 y12 zy12
          have y0 : W.cell? ⟨gR, 0, none⟩ = some (.int .u8 0) := by simp [World.cell?, hb2]
          have y1 : W.cell? ⟨gR, 1, none⟩ = some (.int .u32 0) := by simp [World.cell?, hb2]
          have y2 : W.cell? ⟨gR, 2, none⟩ = some (.int .u16 0) := by simp [World.cell?, hb2]
          have y3 : W.cell? ⟨gR, 3, none⟩ = some (.int .u32 0) := by simp [World.cell?, hb2]
          have y4 : W.cell? ⟨gR, 4, none⟩ = some (.int .u16 0) := by simp [World.cell?, hb2]
          have y5 : W.cell? ⟨gR, 5, none⟩ = some (.int .u8 0) := by simp [World.cell?, hb2]
          have y6 : W.cell? ⟨gR, 6, none⟩ = some (.int .u32 0) := by simp [World.cell?, hb2]
          have y7 : W.cell? ⟨gR, 7, none⟩ = some (.int .u16 0) := by simp [World.cell?, hb2]
          have y8 : W.cell? ⟨gR, 8, none⟩ = some (.int .u32 0) := by simp [World.cell?, hb2]
          have y9 : W.cell? ⟨gR, 9, none⟩ = some (.int .u16 0) := by simp [World.cell?, hb2]
          have y10 : W.cell? ⟨gR, 10, none⟩ = some (.int .i64 0) := by simp [World.cell?, hb2]
          have y11 : W.cell? ⟨gR, 11, none⟩ = some (.int .i64 0) := by simp [World.cell?, hb2]
          have y12 : W.cell? ⟨gR, 12, none⟩ = some (.slice none 0 0) := by simp [World.cell?, hb2]
          have HF := Lib.hid (Hm5.out.trans hf2 (fun i hi e => by have h1 : i = gR := e; have h2 := HgR.out; omega))
          have HNP := Lib.hid (N2.out (by first | rfl | trivial))
          clear hf2 hb2
          refine bodyPost_ret (v := .tuple #[.agg #[.int .u8 0, .int .u32 0, .int .u16 0, .int .u32 0, .int .u16 0, .int .u8 0, .int .u32 0, .int .u16 0, .int .u32 0, .int .u16 0, .int .i64 0, .int .i64 0, .slice none 0 0], .int .i64 3]) (by simp only [results, Tryz.results7]; go_simp) rfl ⟨HF.out, .inl ⟨rfl, HNP.out⟩⟩
        · have q1 : (e1 != 0) = false := by simp [bne, hz1]
          have q2 : (e2 != 0) = false := by simp [bne, hz2]
          have cB50 : v5.cell? ⟨gB5, 0, none⟩ = some (.int .u8 r1) := by simp [World.cell?, B5.out]
          have cB51 : v5.cell? ⟨gB5, 1, none⟩ = some (.int .u32 a1) := by simp [World.cell?, B5.out]
          have cB52 : v5.cell? ⟨gB5, 2, none⟩ = some (.int .u16 b1) := by simp [World.cell?, B5.out]
          have cB53 : v5.cell? ⟨gB5, 3, none⟩ = some (.int .u32 c1) := by simp [World.cell?, B5.out]
          have cB54 : v5.cell? ⟨gB5, 4, none⟩ = some (.int .u16 d1) := by simp [World.cell?, B5.out]
          have lB5 : gB5 < v5.heap.size := cell_lt cB50
          have cB70 : v5.cell? ⟨gB7, 0, none⟩ = some (.int .u8 r2) := by simp [World.cell?, B7.out]
          have cB71 : v5.cell? ⟨gB7, 1, none⟩ = some (.int .u32 a2) := by simp [World.cell?, B7.out]
          have cB72 : v5.cell? ⟨gB7, 2, none⟩ = some (.int .u16 b2) := by simp [World.cell?, B7.out]
          have cB73 : v5.cell? ⟨gB7, 3, none⟩ = some (.int .u32 c2) := by simp [World.cell?, B7.out]
          have cB74 : v5.cell? ⟨gB7, 4, none⟩ = some (.int .u16 d2) := by simp [World.cell?, B7.out]
          have lB7 : gB7 < v5.heap.size := cell_lt cB70
          go_wp2_with fail
          clear cB50 cB51 cB52 cB53 cB54 lB5 cB70 cB71 cB72 cB73 cB74 lB7
          have hq13 : NoW v5 (v5.alloc (.cells #[.int .u8 r1, .int .u32 a1, .int .u16 b1, .int .u32 c1, .int .u16 d1, .int .u8 r2, .int .u32 a2, .int .u16 b2, .int .u32 c2, .int .u16 d2, .int .i64 st, .int .i64 dl, .slice none 0 0] 31)) := (Fp.refl _ _).alloc _
          have hb13 := heap_alloc_new v5 (.cells #[.int .u8 r1, .int .u32 a1, .int .u16 b1, .int .u32 c1, .int .u16 d1, .int .u8 r2, .int .u32 a2, .int .u16 b2, .int .u32 c2, .int .u16 d2, .int .i64 st, .int .i64 dl, .slice none 0 0] 31)
          generalize v5.alloc (.cells #[.int .u8 r1, .int .u32 a1, .int .u16 b1, .int .u32 c1, .int .u16 d1, .int .u8 r2, .int .u32 a2, .int .u16 b2, .int .u32 c2, .int .u16 d2, .int .i64 st, .int .i64 dl, .slice none 0 0] 31) = wA at *
          obtain ⟨gE, hgE⟩ : ∃ gE, gE = v5.heap.size := ⟨_, rfl⟩
          rw [← hgE] at hb13 ⊢
          have HgE := Lib.hid hgE
          have B13 := Lib.hid hb13
          have Hq13 := Lib.hid hq13
          clear hgE hb13 hq13
          have hws : ∀ j x, ([h0] : List (List UInt8))[j]? = some x → ∀ W, NoW v5 W → W.cell? ⟨gP, 9 + j, none⟩ = some (str x) := by
            intro j x hj W hW
            have hbw := (hW.block _ (Array.getElem?_eq_some_iff.1 BP.out).1 id).trans BP.out
            match j, hj with
            | 0, hj => (simp at hj; simp [World.cell?, hbw, ← hj])
            | j + 1, hj => simp at hj
          have Hws := Lib.hid hws
          clear hws
          obtain ⟨F, hF⟩ : ∃ F : Nat → Nat × Nat × Nat × Nat, ∀ i x y, ([h0] : List (List UInt8))[i]? = some x → holdOf x = some y → F i = y := ⟨fun i => (holdOf ((([h0] : List (List UInt8))[i]?).getD [])).getD (0, 0, 0, 0), by intro i x y h1 h2; simp only [h1, Option.getD_some, h2]⟩
          have HFF := Lib.hid hF
          clear hF
          go_loopg [86] 2 (fun gg iv wx => ∃ (kk : Nat) (v : Value), kk ≤ 1 ∧ gg = 2 - kk ∧ iv = .int .i64 (kk : Int) ∧ wx.heap[gE]? = some (.cells #[.int .u8 r1, .int .u32 a1, .int .u16 b1, .int .u32 c1, .int .u16 d1, .int .u8 r2, .int .u32 a2, .int .u16 b2, .int .u32 c2, .int .u16 d2, .int .i64 st, .int .i64 dl, v] 31) ∧ wx.ownsRow (gE + 1) 59 4 v kk (holdsV (fun i => (F i).1) (fun i => (F i).2.1) (fun i => (F i).2.2.1) (fun i => (F i).2.2.2) kk) ∧ NoW v5 wx ∧ ∀ j, j < kk → ∃ x, ([h0] : List (List UInt8))[j]? = some x ∧ holdOf x = some (F j))
          case atStart => exact ⟨0, _, by omega, by omega, rfl, B13.out, World.ownsRow_nil _ _ _ 4, Hq13.out, fun j hj => by omega⟩
          case round =>
            obtain ⟨kk, v, hk, hg, rfl, hb13, hown, hf, hho⟩ := hrel
            have Hg := Lib.hid hg
            have Hf := Lib.hid hf
            have Hown := Lib.hid hown
            have Hho := Lib.hid hho
            have C13 := Lib.hid hb13
            clear hg hf hown hho hb13
            by_cases hlt : kk < 1
            · obtain ⟨x, hx⟩ : ∃ x, ([h0] : List (List UInt8))[kk]? = some x := ⟨_, List.getElem?_eq_getElem (by simpa using hlt)⟩
              have hxm : x ∈ pieces 32 l := by rw [Hps.out]; have := List.mem_of_getElem? hx; simp at this ⊢; simp [this]
              obtain ⟨ha, hp', hb', hq', ok, ho1, ho2, kh⟩ := hold_ok x (Nat.le_trans (Hlen.out x (by rw [← Hps.out]; exact hxm)) (by omega))
              have xc := Hws.out kk x hx wr Hf.out
              have hkk : decide ((kk : Int) < 1) = true := decide_eq_true (by omega)
              have Hx := Lib.hid hx
              have Ho1 := Lib.hid ho1
              have Ho2 := Lib.hid ho2
              have KH := Lib.hid kh
              clear hx hxm ho1 ho2 kh
              go_wp2_with fail
              clear xc
              refine (KH.out wr (Ht.out.low (Hm5.out.trans Hf.out (fun _ _ h => h))).toP).mono ?_
              rintro e w2 ⟨rfl, hp⟩
              have hf2 := Hf.out.trans hp (fun _ _ h => h)
              have hown2 := ownsRow_of_block Hown.out fun i e => hp.block i (World.ownsRow.lt Hown.out i e).2 id
              have h13 := (hp.block _ (Array.getElem?_eq_some_iff.1 C13.out).1 id).trans C13.out
              have Hf2 := Lib.hid hf2
              have Hown2 := Lib.hid hown2
              have D13 := Lib.hid h13
              clear hp hf2 hown2 h13 Hf Hown C13
              rcases ok with _ | _
              · have np : NP l := np_h Hps.out Hx.out (Ho2.out rfl)
                have HBR := Lib.hid ((Hf2.out.block _ (Array.getElem?_eq_some_iff.1 BR.out).1 id).trans BR.out)
                have y0 : w2.cell? ⟨gR, 0, none⟩ = some (.int .u8 0) := by simp [World.cell?, HBR.out]
                have zy0 : w2.frozen? ⟨gR, 0, none⟩ = false := by simp [World.frozen?, HBR.out]
                have y1 : w2.cell? ⟨gR, 1, none⟩ = some (.int .u32 0) := by simp [World.cell?, HBR.out]
                have zy1 : w2.frozen? ⟨gR, 1, none⟩ = false := by simp [World.frozen?, HBR.out]
                have y2 : w2.cell? ⟨gR, 2, none⟩ = some (.int .u16 0) := by simp [World.cell?, HBR.out]
                have zy2 : w2.frozen? ⟨gR, 2, none⟩ = false := by simp [World.frozen?, HBR.out]
                have y3 : w2.cell? ⟨gR, 3, none⟩ = some (.int .u32 0) := by simp [World.cell?, HBR.out]
                have zy3 : w2.frozen? ⟨gR, 3, none⟩ = false := by simp [World.frozen?, HBR.out]
                have y4 : w2.cell? ⟨gR, 4, none⟩ = some (.int .u16 0) := by simp [World.cell?, HBR.out]
                have zy4 : w2.frozen? ⟨gR, 4, none⟩ = false := by simp [World.frozen?, HBR.out]
                have y5 : w2.cell? ⟨gR, 5, none⟩ = some (.int .u8 0) := by simp [World.cell?, HBR.out]
                have zy5 : w2.frozen? ⟨gR, 5, none⟩ = false := by simp [World.frozen?, HBR.out]
                have y6 : w2.cell? ⟨gR, 6, none⟩ = some (.int .u32 0) := by simp [World.cell?, HBR.out]
                have zy6 : w2.frozen? ⟨gR, 6, none⟩ = false := by simp [World.frozen?, HBR.out]
                have y7 : w2.cell? ⟨gR, 7, none⟩ = some (.int .u16 0) := by simp [World.cell?, HBR.out]
                have zy7 : w2.frozen? ⟨gR, 7, none⟩ = false := by simp [World.frozen?, HBR.out]
                have y8 : w2.cell? ⟨gR, 8, none⟩ = some (.int .u32 0) := by simp [World.cell?, HBR.out]
                have zy8 : w2.frozen? ⟨gR, 8, none⟩ = false := by simp [World.frozen?, HBR.out]
                have y9 : w2.cell? ⟨gR, 9, none⟩ = some (.int .u16 0) := by simp [World.cell?, HBR.out]
                have zy9 : w2.frozen? ⟨gR, 9, none⟩ = false := by simp [World.frozen?, HBR.out]
                have y10 : w2.cell? ⟨gR, 10, none⟩ = some (.int .i64 0) := by simp [World.cell?, HBR.out]
                have zy10 : w2.frozen? ⟨gR, 10, none⟩ = false := by simp [World.frozen?, HBR.out]
                have y11 : w2.cell? ⟨gR, 11, none⟩ = some (.int .i64 0) := by simp [World.cell?, HBR.out]
                have zy11 : w2.frozen? ⟨gR, 11, none⟩ = false := by simp [World.frozen?, HBR.out]
                have y12 : w2.cell? ⟨gR, 12, none⟩ = some (.slice none 0 0) := by simp [World.cell?, HBR.out]
                have zy12 : w2.frozen? ⟨gR, 12, none⟩ = false := by simp [World.frozen?, HBR.out]
                have lR := cell_lt y0
                go_wp2_with fail
                obtain ⟨W, hW, hb2, hf2⟩ := set13 w2 gR 31 (.int .u8 0) (.int .u32 0) (.int .u16 0) (.int .u32 0) (.int .u16 0) (.int .u8 0) (.int .u32 0) (.int .u16 0) (.int .u32 0) (.int .u16 0) (.int .i64 0) (.int .i64 0) (.slice none 0 0) HBR.out (.int .u8 0) (.int .u32 0) (.int .u16 0) (.int .u32 0) (.int .u16 0) (.int .u8 0) (.int .u32 0) (.int .u16 0) (.int .u32 0) (.int .u16 0) (.int .i64 0) (.int .i64 0) (.slice none 0 0)
                rw [← hW]
                clear hW y0 zy0 y1 zy1 y2 zy2 y3 zy3 y4 zy4 y5 zy5 y6 zy6 y7 zy7 y8 zy8 y9 zy9 y10 zy10 y11 zy11 y12 zy12
                have y0 : W.cell? ⟨gR, 0, none⟩ = some (.int .u8 0) := by simp [World.cell?, hb2]
                have y1 : W.cell? ⟨gR, 1, none⟩ = some (.int .u32 0) := by simp [World.cell?, hb2]
                have y2 : W.cell? ⟨gR, 2, none⟩ = some (.int .u16 0) := by simp [World.cell?, hb2]
                have y3 : W.cell? ⟨gR, 3, none⟩ = some (.int .u32 0) := by simp [World.cell?, hb2]
                have y4 : W.cell? ⟨gR, 4, none⟩ = some (.int .u16 0) := by simp [World.cell?, hb2]
                have y5 : W.cell? ⟨gR, 5, none⟩ = some (.int .u8 0) := by simp [World.cell?, hb2]
                have y6 : W.cell? ⟨gR, 6, none⟩ = some (.int .u32 0) := by simp [World.cell?, hb2]
                have y7 : W.cell? ⟨gR, 7, none⟩ = some (.int .u16 0) := by simp [World.cell?, hb2]
                have y8 : W.cell? ⟨gR, 8, none⟩ = some (.int .u32 0) := by simp [World.cell?, hb2]
                have y9 : W.cell? ⟨gR, 9, none⟩ = some (.int .u16 0) := by simp [World.cell?, hb2]
                have y10 : W.cell? ⟨gR, 10, none⟩ = some (.int .i64 0) := by simp [World.cell?, hb2]
                have y11 : W.cell? ⟨gR, 11, none⟩ = some (.int .i64 0) := by simp [World.cell?, hb2]
                have y12 : W.cell? ⟨gR, 12, none⟩ = some (.slice none 0 0) := by simp [World.cell?, hb2]
                have lRW : gR < W.heap.size := cell_lt y0
                have HF := Lib.hid ((Hm5.out.trans Hf2.out (fun _ _ h => h)).trans hf2 (fun i hi e => by have h1 : i = gR := e; have h2 := HgR.out; omega))
                have HNP := Lib.hid np
                clear hf2 hb2 np
                refine bodyPost_ret (v := .tuple #[.agg #[.int .u8 0, .int .u32 0, .int .u16 0, .int .u32 0, .int .u16 0, .int .u8 0, .int .u32 0, .int .u16 0, .int .u32 0, .int .u16 0, .int .i64 0, .int .i64 0, .slice none 0 0], .int .i64 3]) (by simp only [results, Tryz.results7]; go_simp) rfl ⟨HF.out.alloc _, .inl ⟨rfl, HNP.out⟩⟩
              · have hFk : F kk = (ha, hp', hb', hq') := HFF.out kk x _ Hx.out (Ho1.out rfl)
                have HFk := Lib.hid hFk
                clear hFk
                have k12 : w2.cell? ⟨gE, 12, none⟩ = some v := by simp [World.cell?, D13.out]
                have lE : gE < w2.heap.size := cell_lt k12
                have hwB : w.heap.size ≤ gE := by have h1 := HgE.out; have h2 := Hm5.out.size; omega
                go_wp2_with (at_builtin; refine wp_append1 rfl _ _ 29 rfl (gE + 1) 59 holdZ 4 Tryz.underlying29 infoHold rfl (by decide) v kk _ rfl (World.ownsRow.alloc (World.ownsRow.alloc Hown2.out _) _) (w2.heap.size + 1) [.int .u32 ha, .int .u16 hp', .int .u32 hb', .int .u16 hq'] rfl rfl (heap_new _ _ _ (by simp)) ?_ ?_ ?_ ?_)
                · intro u hu; simp at hu; rcases hu with rfl | rfl | rfl | rfl <;> rfl
                · omega
                · simp; omega
                intro v2 w3 hown3 hgr3 hne3 _
                obtain ⟨gv, cv, rfl⟩ : ∃ gv cv, v2 = .slice (some ⟨gv, 0, none⟩) (kk + 1) cv := by rcases hown3.2 with ⟨_, h⟩ | ⟨g, cap, cur, e, _⟩; (omega); exact ⟨g, cap, e⟩
                have hf3 : Fp (fun b => gE < b) w2 w3 := Fp.grown (((Fp.refl _ w2).alloc _).alloc _) hgr3 (fun i e => Or.inr (by have h1 := (World.ownsRow.lt Hown2.out i e).1; omega))
                have h13 := (hf3.block _ (Array.getElem?_eq_some_iff.1 D13.out).1 (by omega)).trans D13.out
                have Hf3 := Lib.hid hf3
                have E13 := Lib.hid h13
                have Hown3 := Lib.hid hown3
                clear hf3 h13 hown3 hgr3 hne3 k12 lE
                have k12 : w3.cell? ⟨gE, 12, none⟩ = some v := by simp [World.cell?, E13.out]
                have z12 : w3.frozen? ⟨gE, 12, none⟩ = false := by simp [World.frozen?, E13.out]
                go_wp2_with fail
                go_roundg (1 - kk)
                case measure => have := Hg.out; omega
                case rel =>
                  have hset := heap_set w3 gE 12 _ _ (.slice (some ⟨gv, 0, none⟩) (kk + 1) cv) E13.out
                  simp only [List.setIfInBounds_toArray, List.set_cons_zero, List.set_cons_succ] at hset
                  have hrow : holdsV (fun i => (F i).1) (fun i => (F i).2.1) (fun i => (F i).2.2.1) (fun i => (F i).2.2.2) (kk + 1) = holdsV (fun i => (F i).1) (fun i => (F i).2.1) (fun i => (F i).2.2.1) (fun i => (F i).2.2.2) kk ++ [.int .u32 ha, .int .u16 hp', .int .u32 hb', .int .u16 hq'] := by rw [holdsV_succ]; simp only [holdV, HFk.out]
                  exact ⟨kk + 1, _, by omega, by omega, by go_num, hset, by rw [hrow]; exact ownsRow_of_block Hown3.out fun i e => heap_set_other w3 gE i 12 _ (by have := (World.ownsRow.lt Hown3.out i e).1; omega),
                    (Hf2.out.trans Hf3.out (fun i hi e => by have h1 : gE < i := e; have h2 := HgE.out; omega)).setCell (p := ⟨gE, 12, none⟩) (Or.inl (by have h2 := HgE.out; show _ ≤ gE; omega)) _, fun j hj => by
                      by_cases e : j = kk
                      · rw [e, HFk.out]; exact ⟨x, Hx.out, Ho1.out (by first | rfl | trivial)⟩
                      · exact Hho.out j (by omega)⟩
            · have hkm : kk = 1 := by omega
              subst hkm
              obtain ⟨gv, cv, rfl, hcv, hgv, hhv⟩ := holds_of_own Hown.out (holdsV_one _ _ _ _ _) (fun e => by rcases Hown.out.2 with ⟨_, h⟩ | ⟨g, cap, cur, e2, _⟩; (omega); (rw [e2] at e; cases e))
              have Hhv := Lib.hid hhv
              have Hcv := Lib.hid hcv
              have HgvE := Lib.hid (show gR < gv by have h1 := HgE.out; have h2 := (Array.getElem?_eq_some_iff.1 BR.out).1; omega)
              clear hhv hcv hgv
              have f0 : wr.cell? ⟨gE, 0, none⟩ = some (.int .u8 r1) := by simp [World.cell?, C13.out]
              have f1 : wr.cell? ⟨gE, 1, none⟩ = some (.int .u32 a1) := by simp [World.cell?, C13.out]
              have f2 : wr.cell? ⟨gE, 2, none⟩ = some (.int .u16 b1) := by simp [World.cell?, C13.out]
              have f3 : wr.cell? ⟨gE, 3, none⟩ = some (.int .u32 c1) := by simp [World.cell?, C13.out]
              have f4 : wr.cell? ⟨gE, 4, none⟩ = some (.int .u16 d1) := by simp [World.cell?, C13.out]
              have f5 : wr.cell? ⟨gE, 5, none⟩ = some (.int .u8 r2) := by simp [World.cell?, C13.out]
              have f6 : wr.cell? ⟨gE, 6, none⟩ = some (.int .u32 a2) := by simp [World.cell?, C13.out]
              have f7 : wr.cell? ⟨gE, 7, none⟩ = some (.int .u16 b2) := by simp [World.cell?, C13.out]
              have f8 : wr.cell? ⟨gE, 8, none⟩ = some (.int .u32 c2) := by simp [World.cell?, C13.out]
              have f9 : wr.cell? ⟨gE, 9, none⟩ = some (.int .u16 d2) := by simp [World.cell?, C13.out]
              have f10 : wr.cell? ⟨gE, 10, none⟩ = some (.int .i64 st) := by simp [World.cell?, C13.out]
              have f11 : wr.cell? ⟨gE, 11, none⟩ = some (.int .i64 dl) := by simp [World.cell?, C13.out]
              have f12 : wr.cell? ⟨gE, 12, none⟩ = some (.slice (some ⟨gv, 0, none⟩) 1 cv) := by simp [World.cell?, C13.out]
              have lE : gE < wr.heap.size := cell_lt f0
              go_wp2_with fail
              clear lE f0 f1 f2 f3 f4 f5 f6 f7 f8 f9 f10 f11 f12
              have hR : Read l p0 p1 p2 p3 p4 p5 p6 p7 p8 [h0] r1 a1 b1 c1 d1 r2 a2 b2 c2 d2 st dl F := ⟨Hps.out, Hs1.out (by first | rfl | trivial), Hs2.out (by first | rfl | trivial), Hs3.out hz3, Hs4.out hz4, fun j hj => Hho.out j (by simpa using hj)⟩
              have HR := Lib.hid hR
              have hT1 := tupOf_some.1 hR.t1
              have hT2 := tupOf_some.1 hR.t2
              have hr1 : r1 < 256 := by have := of_decide_eq_true (tupB_word hT1.2.1); omega
              have hr2 : r2 < 256 := by have := of_decide_eq_true (tupB_word hT2.2.1); omega
              have hHo : ∀ i, i < 1 → (F i).1 < 4294967296 ∧ (F i).2.1 ≤ 65535 ∧ (F i).2.2.1 < 4294967296 ∧ (F i).2.2.2 ≤ 65535 := by
                intro i hi
                obtain ⟨x, _, hh⟩ := Hho.out i hi
                rcases hf : F i with ⟨a, p, b, q⟩
                rw [hf] at hh
                exact (holdOf_some.1 hh).2
              have hN : NoW w wr := Hm5.out.trans Hf.out (fun _ _ h => h)
              have hTb := Ht.out.low hN
              have hBR := (Hf.out.block _ (Array.getElem?_eq_some_iff.1 BR.out).1 id).trans BR.out
              have hgRE : gR < gE := by have h1 := HgE.out; have h2 := (Array.getElem?_eq_some_iff.1 BR.out).1; omega
              have kc := fun W (hW : Tb W) => check_ok r1 a1 b1 c1 d1 r2 a2 b2 c2 d2 st dl (some ⟨gv, 0, none⟩) 1 cv hr1 hr2 W hW
              rcases hchk : chkB r1 b1 d1 r2 b2 d2 (decide (r1 = r2 ∧ a1 = a2 ∧ b1 = b2 ∧ c1 = c2 ∧ d1 = d2)) st dl 1 with _ | _
              · have np : NP l := hR.np hchk
                rw [hchk, if_neg (by simp)] at kc
                refine (text_bad r1 a1 b1 c1 d1 r2 a2 b2 c2 d2 st dl (some ⟨gv, 0, none⟩) 1 cv wr (fun W hW => kc W (hTb.low hW).toP.base)).mono ?_
                rintro e w9 ⟨rfl, hp⟩
                have hl0 : l ≠ [] := fun e => by have h := Hps.out; rw [e] at h; cases h
                have hl1 : (([] : List UInt8) == l) = false := beq_eq_false_iff_ne.2 (fun e => hl0 e.symm)
                have hl2 : (([] : List UInt8) != l) = true := by simp [bne, hl1]
                have HB9 := Lib.hid ((hp.block _ (Array.getElem?_eq_some_iff.1 hBR).1 id).trans hBR)
                have HN9 := Lib.hid (hN.trans hp (fun _ _ h => h))
                have HNP9 := Lib.hid np
                clear hp hl0 np hR hT1 hT2 hHo hN hTb hBR kc
                have y0 : w9.cell? ⟨gR, 0, none⟩ = some (.int .u8 0) := by simp [World.cell?, HB9.out]
                have zy0 : w9.frozen? ⟨gR, 0, none⟩ = false := by simp [World.frozen?, HB9.out]
                have y1 : w9.cell? ⟨gR, 1, none⟩ = some (.int .u32 0) := by simp [World.cell?, HB9.out]
                have zy1 : w9.frozen? ⟨gR, 1, none⟩ = false := by simp [World.frozen?, HB9.out]
                have y2 : w9.cell? ⟨gR, 2, none⟩ = some (.int .u16 0) := by simp [World.cell?, HB9.out]
                have zy2 : w9.frozen? ⟨gR, 2, none⟩ = false := by simp [World.frozen?, HB9.out]
                have y3 : w9.cell? ⟨gR, 3, none⟩ = some (.int .u32 0) := by simp [World.cell?, HB9.out]
                have zy3 : w9.frozen? ⟨gR, 3, none⟩ = false := by simp [World.frozen?, HB9.out]
                have y4 : w9.cell? ⟨gR, 4, none⟩ = some (.int .u16 0) := by simp [World.cell?, HB9.out]
                have zy4 : w9.frozen? ⟨gR, 4, none⟩ = false := by simp [World.frozen?, HB9.out]
                have y5 : w9.cell? ⟨gR, 5, none⟩ = some (.int .u8 0) := by simp [World.cell?, HB9.out]
                have zy5 : w9.frozen? ⟨gR, 5, none⟩ = false := by simp [World.frozen?, HB9.out]
                have y6 : w9.cell? ⟨gR, 6, none⟩ = some (.int .u32 0) := by simp [World.cell?, HB9.out]
                have zy6 : w9.frozen? ⟨gR, 6, none⟩ = false := by simp [World.frozen?, HB9.out]
                have y7 : w9.cell? ⟨gR, 7, none⟩ = some (.int .u16 0) := by simp [World.cell?, HB9.out]
                have zy7 : w9.frozen? ⟨gR, 7, none⟩ = false := by simp [World.frozen?, HB9.out]
                have y8 : w9.cell? ⟨gR, 8, none⟩ = some (.int .u32 0) := by simp [World.cell?, HB9.out]
                have zy8 : w9.frozen? ⟨gR, 8, none⟩ = false := by simp [World.frozen?, HB9.out]
                have y9 : w9.cell? ⟨gR, 9, none⟩ = some (.int .u16 0) := by simp [World.cell?, HB9.out]
                have zy9 : w9.frozen? ⟨gR, 9, none⟩ = false := by simp [World.frozen?, HB9.out]
                have y10 : w9.cell? ⟨gR, 10, none⟩ = some (.int .i64 0) := by simp [World.cell?, HB9.out]
                have zy10 : w9.frozen? ⟨gR, 10, none⟩ = false := by simp [World.frozen?, HB9.out]
                have y11 : w9.cell? ⟨gR, 11, none⟩ = some (.int .i64 0) := by simp [World.cell?, HB9.out]
                have zy11 : w9.frozen? ⟨gR, 11, none⟩ = false := by simp [World.frozen?, HB9.out]
                have y12 : w9.cell? ⟨gR, 12, none⟩ = some (.slice none 0 0) := by simp [World.cell?, HB9.out]
                have zy12 : w9.frozen? ⟨gR, 12, none⟩ = false := by simp [World.frozen?, HB9.out]
                go_wp2_with fail
                obtain ⟨W, hW, hb2, hf2⟩ := set13 w9 gR 31 (.int .u8 0) (.int .u32 0) (.int .u16 0) (.int .u32 0) (.int .u16 0) (.int .u8 0) (.int .u32 0) (.int .u16 0) (.int .u32 0) (.int .u16 0) (.int .i64 0) (.int .i64 0) (.slice none 0 0) HB9.out (.int .u8 0) (.int .u32 0) (.int .u16 0) (.int .u32 0) (.int .u16 0) (.int .u8 0) (.int .u32 0) (.int .u16 0) (.int .u32 0) (.int .u16 0) (.int .i64 0) (.int .i64 0) (.slice none 0 0)
                rw [← hW]
                clear hW y0 zy0 y1 zy1 y2 zy2 y3 zy3 y4 zy4 y5 zy5 y6 zy6 y7 zy7 y8 zy8 y9 zy9 y10 zy10 y11 zy11 y12 zy12
                have y0 : W.cell? ⟨gR, 0, none⟩ = some (.int .u8 0) := by simp [World.cell?, hb2]
                have y1 : W.cell? ⟨gR, 1, none⟩ = some (.int .u32 0) := by simp [World.cell?, hb2]
                have y2 : W.cell? ⟨gR, 2, none⟩ = some (.int .u16 0) := by simp [World.cell?, hb2]
                have y3 : W.cell? ⟨gR, 3, none⟩ = some (.int .u32 0) := by simp [World.cell?, hb2]
                have y4 : W.cell? ⟨gR, 4, none⟩ = some (.int .u16 0) := by simp [World.cell?, hb2]
                have y5 : W.cell? ⟨gR, 5, none⟩ = some (.int .u8 0) := by simp [World.cell?, hb2]
                have y6 : W.cell? ⟨gR, 6, none⟩ = some (.int .u32 0) := by simp [World.cell?, hb2]
                have y7 : W.cell? ⟨gR, 7, none⟩ = some (.int .u16 0) := by simp [World.cell?, hb2]
                have y8 : W.cell? ⟨gR, 8, none⟩ = some (.int .u32 0) := by simp [World.cell?, hb2]
                have y9 : W.cell? ⟨gR, 9, none⟩ = some (.int .u16 0) := by simp [World.cell?, hb2]
                have y10 : W.cell? ⟨gR, 10, none⟩ = some (.int .i64 0) := by simp [World.cell?, hb2]
                have y11 : W.cell? ⟨gR, 11, none⟩ = some (.int .i64 0) := by simp [World.cell?, hb2]
                have y12 : W.cell? ⟨gR, 12, none⟩ = some (.slice none 0 0) := by simp [World.cell?, hb2]
                have HF := Lib.hid (HN9.out.trans hf2 (fun i hi e => by have h1 : i = gR := e; have h2 := HgR.out; omega))
                have HNP := Lib.hid HNP9.out
                clear hf2 hb2
                refine bodyPost_ret (v := .tuple #[.agg #[.int .u8 0, .int .u32 0, .int .u16 0, .int .u32 0, .int .u16 0, .int .u8 0, .int .u32 0, .int .u16 0, .int .u32 0, .int .u16 0, .int .i64 0, .int .i64 0, .slice none 0 0], .int .i64 3]) (by simp only [results, Tryz.results7]; go_simp) rfl ⟨HF.out, .inl ⟨rfl, HNP.out⟩⟩
              · rw [hchk, if_pos rfl] at kc
                have hparts := chkB_parts hchk
                have hst7 : 0 ≤ st ∧ st ≤ 7 := by
                  have h5 := hparts.2.2.2.2.1
                  unfold toN at h5
                  split at h5
                  · assumption
                  · omega
                have hdl7 := hparts.2.2.2.2.2.1
                obtain ⟨sn, hsn⟩ : ∃ sn : Nat, st = sn := ⟨st.toNat, by omega⟩
                obtain ⟨dn, hdn⟩ : ∃ dn : Nat, dl = dn := ⟨dl.toNat, by omega⟩
                subst hsn
                subst hdn
                have kt := ent_text r1 a1 b1 c1 d1 r2 a2 b2 c2 d2 sn dn (fun i => (F i).1) (fun i => (F i).2.1) (fun i => (F i).2.2.1) (fun i => (F i).2.2.2) gv 0 1 cv (holdsV (fun i => (F i).1) (fun i => (F i).2.1) (fun i => (F i).2.2.1) (fun i => (F i).2.2.2) 1) hr1 hr2 hT1.2.2.1 (by omega) hT1.2.2.2.2.1 (by omega) hT2.2.2.1 (by omega) hT2.2.2.2.2.1 (by omega) (by omega) (by omega) (by omega) hparts.1 hparts.2.1
                  (fun i hi => ⟨⟨holdsV_get _ _ _ _ _ i 0 hi (by omega), holdsV_get _ _ _ _ _ i 1 hi (by omega), holdsV_get _ _ _ _ _ i 2 hi (by omega), holdsV_get _ _ _ _ _ i 3 hi (by omega)⟩, by have := hHo i hi; omega⟩) wr hTb.toP.base Hhv.out (fun W hW => kc W hW)
                refine kt.mono ?_
                rintro e w9 ⟨rfl, hp⟩
                obtain ⟨tx, htx⟩ : ∃ tx, tx = entT r1 a1 b1 c1 d1 r2 a2 b2 c2 d2 sn dn (fun i => (F i).1) (fun i => (F i).2.1) (fun i => (F i).2.2.1) (fun i => (F i).2.2.2) 1 := ⟨_, rfl⟩
                rw [← htx]
                have HB9 := Lib.hid ((hp.block _ (Array.getElem?_eq_some_iff.1 hBR).1 id).trans hBR)
                have HN9 := Lib.hid (hN.trans hp (fun _ _ h => h))
                have H13 := Lib.hid ((hp.block _ (Array.getElem?_eq_some_iff.1 C13.out).1 id).trans C13.out)
                have Hh9 := Lib.hid (Hhv.out.low hp)
                have Hchk := Lib.hid hchk
                rcases hq : (tx == l) with _ | _
                · have HNP9 := Lib.hid (show NP l from HR.out.np2 (fun h => (beq_eq_false_iff_ne.1 hq) (htx.trans h)))
                  have hq2 : (tx != l) = true := by simp [bne, hq]
                  clear kt hp hparts hst7 hdl7 hR hT1 hT2 hHo hN hTb hBR kc hchk htx
                  have y0 : w9.cell? ⟨gR, 0, none⟩ = some (.int .u8 0) := by simp [World.cell?, HB9.out]
                  have zy0 : w9.frozen? ⟨gR, 0, none⟩ = false := by simp [World.frozen?, HB9.out]
                  have y1 : w9.cell? ⟨gR, 1, none⟩ = some (.int .u32 0) := by simp [World.cell?, HB9.out]
                  have zy1 : w9.frozen? ⟨gR, 1, none⟩ = false := by simp [World.frozen?, HB9.out]
                  have y2 : w9.cell? ⟨gR, 2, none⟩ = some (.int .u16 0) := by simp [World.cell?, HB9.out]
                  have zy2 : w9.frozen? ⟨gR, 2, none⟩ = false := by simp [World.frozen?, HB9.out]
                  have y3 : w9.cell? ⟨gR, 3, none⟩ = some (.int .u32 0) := by simp [World.cell?, HB9.out]
                  have zy3 : w9.frozen? ⟨gR, 3, none⟩ = false := by simp [World.frozen?, HB9.out]
                  have y4 : w9.cell? ⟨gR, 4, none⟩ = some (.int .u16 0) := by simp [World.cell?, HB9.out]
                  have zy4 : w9.frozen? ⟨gR, 4, none⟩ = false := by simp [World.frozen?, HB9.out]
                  have y5 : w9.cell? ⟨gR, 5, none⟩ = some (.int .u8 0) := by simp [World.cell?, HB9.out]
                  have zy5 : w9.frozen? ⟨gR, 5, none⟩ = false := by simp [World.frozen?, HB9.out]
                  have y6 : w9.cell? ⟨gR, 6, none⟩ = some (.int .u32 0) := by simp [World.cell?, HB9.out]
                  have zy6 : w9.frozen? ⟨gR, 6, none⟩ = false := by simp [World.frozen?, HB9.out]
                  have y7 : w9.cell? ⟨gR, 7, none⟩ = some (.int .u16 0) := by simp [World.cell?, HB9.out]
                  have zy7 : w9.frozen? ⟨gR, 7, none⟩ = false := by simp [World.frozen?, HB9.out]
                  have y8 : w9.cell? ⟨gR, 8, none⟩ = some (.int .u32 0) := by simp [World.cell?, HB9.out]
                  have zy8 : w9.frozen? ⟨gR, 8, none⟩ = false := by simp [World.frozen?, HB9.out]
                  have y9 : w9.cell? ⟨gR, 9, none⟩ = some (.int .u16 0) := by simp [World.cell?, HB9.out]
                  have zy9 : w9.frozen? ⟨gR, 9, none⟩ = false := by simp [World.frozen?, HB9.out]
                  have y10 : w9.cell? ⟨gR, 10, none⟩ = some (.int .i64 0) := by simp [World.cell?, HB9.out]
                  have zy10 : w9.frozen? ⟨gR, 10, none⟩ = false := by simp [World.frozen?, HB9.out]
                  have y11 : w9.cell? ⟨gR, 11, none⟩ = some (.int .i64 0) := by simp [World.cell?, HB9.out]
                  have zy11 : w9.frozen? ⟨gR, 11, none⟩ = false := by simp [World.frozen?, HB9.out]
                  have y12 : w9.cell? ⟨gR, 12, none⟩ = some (.slice none 0 0) := by simp [World.cell?, HB9.out]
                  have zy12 : w9.frozen? ⟨gR, 12, none⟩ = false := by simp [World.frozen?, HB9.out]
                  go_wp2_with fail
                  obtain ⟨W, hW, hb2, hf2⟩ := set13 w9 gR 31 (.int .u8 0) (.int .u32 0) (.int .u16 0) (.int .u32 0) (.int .u16 0) (.int .u8 0) (.int .u32 0) (.int .u16 0) (.int .u32 0) (.int .u16 0) (.int .i64 0) (.int .i64 0) (.slice none 0 0) HB9.out (.int .u8 0) (.int .u32 0) (.int .u16 0) (.int .u32 0) (.int .u16 0) (.int .u8 0) (.int .u32 0) (.int .u16 0) (.int .u32 0) (.int .u16 0) (.int .i64 0) (.int .i64 0) (.slice none 0 0)
                  rw [← hW]
                  clear hW y0 zy0 y1 zy1 y2 zy2 y3 zy3 y4 zy4 y5 zy5 y6 zy6 y7 zy7 y8 zy8 y9 zy9 y10 zy10 y11 zy11 y12 zy12
                  have y0 : W.cell? ⟨gR, 0, none⟩ = some (.int .u8 0) := by simp [World.cell?, hb2]
                  have y1 : W.cell? ⟨gR, 1, none⟩ = some (.int .u32 0) := by simp [World.cell?, hb2]
                  have y2 : W.cell? ⟨gR, 2, none⟩ = some (.int .u16 0) := by simp [World.cell?, hb2]
                  have y3 : W.cell? ⟨gR, 3, none⟩ = some (.int .u32 0) := by simp [World.cell?, hb2]
                  have y4 : W.cell? ⟨gR, 4, none⟩ = some (.int .u16 0) := by simp [World.cell?, hb2]
                  have y5 : W.cell? ⟨gR, 5, none⟩ = some (.int .u8 0) := by simp [World.cell?, hb2]
                  have y6 : W.cell? ⟨gR, 6, none⟩ = some (.int .u32 0) := by simp [World.cell?, hb2]
                  have y7 : W.cell? ⟨gR, 7, none⟩ = some (.int .u16 0) := by simp [World.cell?, hb2]
                  have y8 : W.cell? ⟨gR, 8, none⟩ = some (.int .u32 0) := by simp [World.cell?, hb2]
                  have y9 : W.cell? ⟨gR, 9, none⟩ = some (.int .u16 0) := by simp [World.cell?, hb2]
                  have y10 : W.cell? ⟨gR, 10, none⟩ = some (.int .i64 0) := by simp [World.cell?, hb2]
                  have y11 : W.cell? ⟨gR, 11, none⟩ = some (.int .i64 0) := by simp [World.cell?, hb2]
                  have y12 : W.cell? ⟨gR, 12, none⟩ = some (.slice none 0 0) := by simp [World.cell?, hb2]
                  have HF := Lib.hid (HN9.out.trans hf2 (fun i hi e => by have h1 : i = gR := e; have h2 := HgR.out; omega))
                  have HNP := Lib.hid HNP9.out
                  clear hf2 hb2
                  refine bodyPost_ret (v := .tuple #[.agg #[.int .u8 0, .int .u32 0, .int .u16 0, .int .u32 0, .int .u16 0, .int .u8 0, .int .u32 0, .int .u16 0, .int .u32 0, .int .u16 0, .int .i64 0, .int .i64 0, .slice none 0 0], .int .i64 3]) (by simp only [results, Tryz.results7]; go_simp) rfl ⟨HF.out, .inl ⟨rfl, HNP.out⟩⟩
                · have hq2 : (tx != l) = false := by simp [bne, hq]
                  have HY := Lib.hid (show Parsed l r1 a1 b1 c1 d1 r2 a2 b2 c2 d2 sn dn 1 (fun i => (F i).1) (fun i => (F i).2.1) (fun i => (F i).2.2.1) (fun i => (F i).2.2.2) from HR.out.yes Hchk.out (htx.symm.trans (beq_iff_eq.1 hq)))
                  clear kt hp hparts hst7 hdl7 hR hT1 hT2 hHo hN hTb hBR kc hchk htx
                  have f0 : w9.cell? ⟨gE, 0, none⟩ = some (.int .u8 r1) := by simp [World.cell?, H13.out]
                  have f1 : w9.cell? ⟨gE, 1, none⟩ = some (.int .u32 a1) := by simp [World.cell?, H13.out]
                  have f2 : w9.cell? ⟨gE, 2, none⟩ = some (.int .u16 b1) := by simp [World.cell?, H13.out]
                  have f3 : w9.cell? ⟨gE, 3, none⟩ = some (.int .u32 c1) := by simp [World.cell?, H13.out]
                  have f4 : w9.cell? ⟨gE, 4, none⟩ = some (.int .u16 d1) := by simp [World.cell?, H13.out]
                  have f5 : w9.cell? ⟨gE, 5, none⟩ = some (.int .u8 r2) := by simp [World.cell?, H13.out]
                  have f6 : w9.cell? ⟨gE, 6, none⟩ = some (.int .u32 a2) := by simp [World.cell?, H13.out]
                  have f7 : w9.cell? ⟨gE, 7, none⟩ = some (.int .u16 b2) := by simp [World.cell?, H13.out]
                  have f8 : w9.cell? ⟨gE, 8, none⟩ = some (.int .u32 c2) := by simp [World.cell?, H13.out]
                  have f9 : w9.cell? ⟨gE, 9, none⟩ = some (.int .u16 d2) := by simp [World.cell?, H13.out]
                  have f10 : w9.cell? ⟨gE, 10, none⟩ = some (.int .i64 (sn : Nat)) := by simp [World.cell?, H13.out]
                  have f11 : w9.cell? ⟨gE, 11, none⟩ = some (.int .i64 (dn : Nat)) := by simp [World.cell?, H13.out]
                  have f12 : w9.cell? ⟨gE, 12, none⟩ = some (.slice (some ⟨gv, 0, none⟩) 1 cv) := by simp [World.cell?, H13.out]
                  have lE : gE < w9.heap.size := cell_lt f0
                  have y0 : w9.cell? ⟨gR, 0, none⟩ = some (.int .u8 0) := by simp [World.cell?, HB9.out]
                  have zy0 : w9.frozen? ⟨gR, 0, none⟩ = false := by simp [World.frozen?, HB9.out]
                  have y1 : w9.cell? ⟨gR, 1, none⟩ = some (.int .u32 0) := by simp [World.cell?, HB9.out]
                  have zy1 : w9.frozen? ⟨gR, 1, none⟩ = false := by simp [World.frozen?, HB9.out]
                  have y2 : w9.cell? ⟨gR, 2, none⟩ = some (.int .u16 0) := by simp [World.cell?, HB9.out]
                  have zy2 : w9.frozen? ⟨gR, 2, none⟩ = false := by simp [World.frozen?, HB9.out]
                  have y3 : w9.cell? ⟨gR, 3, none⟩ = some (.int .u32 0) := by simp [World.cell?, HB9.out]
                  have zy3 : w9.frozen? ⟨gR, 3, none⟩ = false := by simp [World.frozen?, HB9.out]
                  have y4 : w9.cell? ⟨gR, 4, none⟩ = some (.int .u16 0) := by simp [World.cell?, HB9.out]
                  have zy4 : w9.frozen? ⟨gR, 4, none⟩ = false := by simp [World.frozen?, HB9.out]
                  have y5 : w9.cell? ⟨gR, 5, none⟩ = some (.int .u8 0) := by simp [World.cell?, HB9.out]
                  have zy5 : w9.frozen? ⟨gR, 5, none⟩ = false := by simp [World.frozen?, HB9.out]
                  have y6 : w9.cell? ⟨gR, 6, none⟩ = some (.int .u32 0) := by simp [World.cell?, HB9.out]
                  have zy6 : w9.frozen? ⟨gR, 6, none⟩ = false := by simp [World.frozen?, HB9.out]
                  have y7 : w9.cell? ⟨gR, 7, none⟩ = some (.int .u16 0) := by simp [World.cell?, HB9.out]
                  have zy7 : w9.frozen? ⟨gR, 7, none⟩ = false := by simp [World.frozen?, HB9.out]
                  have y8 : w9.cell? ⟨gR, 8, none⟩ = some (.int .u32 0) := by simp [World.cell?, HB9.out]
                  have zy8 : w9.frozen? ⟨gR, 8, none⟩ = false := by simp [World.frozen?, HB9.out]
                  have y9 : w9.cell? ⟨gR, 9, none⟩ = some (.int .u16 0) := by simp [World.cell?, HB9.out]
                  have zy9 : w9.frozen? ⟨gR, 9, none⟩ = false := by simp [World.frozen?, HB9.out]
                  have y10 : w9.cell? ⟨gR, 10, none⟩ = some (.int .i64 0) := by simp [World.cell?, HB9.out]
                  have zy10 : w9.frozen? ⟨gR, 10, none⟩ = false := by simp [World.frozen?, HB9.out]
                  have y11 : w9.cell? ⟨gR, 11, none⟩ = some (.int .i64 0) := by simp [World.cell?, HB9.out]
                  have zy11 : w9.frozen? ⟨gR, 11, none⟩ = false := by simp [World.frozen?, HB9.out]
                  have y12 : w9.cell? ⟨gR, 12, none⟩ = some (.slice none 0 0) := by simp [World.cell?, HB9.out]
                  have zy12 : w9.frozen? ⟨gR, 12, none⟩ = false := by simp [World.frozen?, HB9.out]
                  go_wp2_with fail
                  obtain ⟨W, hW, hb2, hf2⟩ := set13 w9 gR 31 (.int .u8 0) (.int .u32 0) (.int .u16 0) (.int .u32 0) (.int .u16 0) (.int .u8 0) (.int .u32 0) (.int .u16 0) (.int .u32 0) (.int .u16 0) (.int .i64 0) (.int .i64 0) (.slice none 0 0) HB9.out (.int .u8 r1) (.int .u32 a1) (.int .u16 b1) (.int .u32 c1) (.int .u16 d1) (.int .u8 r2) (.int .u32 a2) (.int .u16 b2) (.int .u32 c2) (.int .u16 d2) (.int .i64 (sn : Nat)) (.int .i64 (dn : Nat)) (.slice (some ⟨gv, 0, none⟩) 1 cv)
                  rw [← hW]
                  clear hW y0 zy0 f0 y1 zy1 f1 y2 zy2 f2 y3 zy3 f3 y4 zy4 f4 y5 zy5 f5 y6 zy6 f6 y7 zy7 f7 y8 zy8 f8 y9 zy9 f9 y10 zy10 f10 y11 zy11 f11 y12 zy12 f12
                  have y0 : W.cell? ⟨gR, 0, none⟩ = some (.int .u8 r1) := by simp [World.cell?, hb2]
                  have y1 : W.cell? ⟨gR, 1, none⟩ = some (.int .u32 a1) := by simp [World.cell?, hb2]
                  have y2 : W.cell? ⟨gR, 2, none⟩ = some (.int .u16 b1) := by simp [World.cell?, hb2]
                  have y3 : W.cell? ⟨gR, 3, none⟩ = some (.int .u32 c1) := by simp [World.cell?, hb2]
                  have y4 : W.cell? ⟨gR, 4, none⟩ = some (.int .u16 d1) := by simp [World.cell?, hb2]
                  have y5 : W.cell? ⟨gR, 5, none⟩ = some (.int .u8 r2) := by simp [World.cell?, hb2]
                  have y6 : W.cell? ⟨gR, 6, none⟩ = some (.int .u32 a2) := by simp [World.cell?, hb2]
                  have y7 : W.cell? ⟨gR, 7, none⟩ = some (.int .u16 b2) := by simp [World.cell?, hb2]
                  have y8 : W.cell? ⟨gR, 8, none⟩ = some (.int .u32 c2) := by simp [World.cell?, hb2]
                  have y9 : W.cell? ⟨gR, 9, none⟩ = some (.int .u16 d2) := by simp [World.cell?, hb2]
                  have y10 : W.cell? ⟨gR, 10, none⟩ = some (.int .i64 (sn : Nat)) := by simp [World.cell?, hb2]
                  have y11 : W.cell? ⟨gR, 11, none⟩ = some (.int .i64 (dn : Nat)) := by simp [World.cell?, hb2]
                  have y12 : W.cell? ⟨gR, 12, none⟩ = some (.slice (some ⟨gv, 0, none⟩) 1 cv) := by simp [World.cell?, hb2]
                  have HF := Lib.hid (HN9.out.trans hf2 (fun i hi e => by have h1 : i = gR := e; have h2 := HgR.out; omega))
                  have hgv : gR ≠ gv := fun e => by have := HgvE.out; omega
                  have Hhw := Lib.hid (show HoldsIn W (some ⟨gv, 0, none⟩) 1 (holdsV (fun i => (F i).1) (fun i => (F i).2.1) (fun i => (F i).2.2.1) (fun i => (F i).2.2.2) 1) from fun _ => ⟨gv, 0, rfl, Hh9.out.len, fun j x hj => (hf2.cell (p := ⟨gv, 0 + j, none⟩) Hh9.out.lt (fun e => hgv e.symm)).trans (Hh9.out.cell j x hj), Hh9.out.one, Nat.lt_of_lt_of_le Hh9.out.lt hf2.size⟩)
                  clear hf2 hb2
                  refine bodyPost_ret (v := .tuple #[.agg #[.int .u8 r1, .int .u32 a1, .int .u16 b1, .int .u32 c1, .int .u16 d1, .int .u8 r2, .int .u32 a2, .int .u16 b2, .int .u32 c2, .int .u16 d2, .int .i64 (sn : Nat), .int .i64 (dn : Nat), .slice (some ⟨gv, 0, none⟩) 1 cv], .int .i64 0]) (by simp only [results, Tryz.results7]; go_simp) rfl ⟨HF.out, .inr ⟨r1, a1, b1, c1, d1, r2, a2, b2, c2, d2, sn, dn, 1, _, _, _, _, (some ⟨gv, 0, none⟩), cv, rfl, HY.out, Hcv.out, Hhw.out⟩⟩
    · have Hm5 := Lib.hid (Hm4.out.trans hp (fun _ _ h => h))
      have hb := (hp.block _ (Array.getElem?_eq_some_iff.1 BR.out).1 id).trans BR.out
      clear BR
      have BR := Lib.hid hb
      clear hb
      have hb := (hp.block _ (Array.getElem?_eq_some_iff.1 BP.out).1 id).trans BP.out
      clear BP
      have BP := Lib.hid hb
      clear hb
      have hb := (hp.block _ (Array.getElem?_eq_some_iff.1 B5.out).1 id).trans B5.out
      clear B5
      have B5 := Lib.hid hb
      clear hb
      have hb := (hp.block _ (Array.getElem?_eq_some_iff.1 B7.out).1 id).trans B7.out
      clear B7
      have B7 := Lib.hid hb
      clear hb
      clear hp Hm4
      rcases z1 with _ | _
      · have q1 : (e1 != 0) = true := by simp [bne, hz1]
        have y0 : v5.cell? ⟨gR, 0, none⟩ = some (.int .u8 0) := by simp [World.cell?, BR.out]
        have zy0 : v5.frozen? ⟨gR, 0, none⟩ = false := by simp [World.frozen?, BR.out]
        have y1 : v5.cell? ⟨gR, 1, none⟩ = some (.int .u32 0) := by simp [World.cell?, BR.out]
        have zy1 : v5.frozen? ⟨gR, 1, none⟩ = false := by simp [World.frozen?, BR.out]
        have y2 : v5.cell? ⟨gR, 2, none⟩ = some (.int .u16 0) := by simp [World.cell?, BR.out]
        have zy2 : v5.frozen? ⟨gR, 2, none⟩ = false := by simp [World.frozen?, BR.out]
        have y3 : v5.cell? ⟨gR, 3, none⟩ = some (.int .u32 0) := by simp [World.cell?, BR.out]
        have zy3 : v5.frozen? ⟨gR, 3, none⟩ = false := by simp [World.frozen?, BR.out]
        have y4 : v5.cell? ⟨gR, 4, none⟩ = some (.int .u16 0) := by simp [World.cell?, BR.out]
        have zy4 : v5.frozen? ⟨gR, 4, none⟩ = false := by simp [World.frozen?, BR.out]
        have y5 : v5.cell? ⟨gR, 5, none⟩ = some (.int .u8 0) := by simp [World.cell?, BR.out]
        have zy5 : v5.frozen? ⟨gR, 5, none⟩ = false := by simp [World.frozen?, BR.out]
        have y6 : v5.cell? ⟨gR, 6, none⟩ = some (.int .u32 0) := by simp [World.cell?, BR.out]
        have zy6 : v5.frozen? ⟨gR, 6, none⟩ = false := by simp [World.frozen?, BR.out]
        have y7 : v5.cell? ⟨gR, 7, none⟩ = some (.int .u16 0) := by simp [World.cell?, BR.out]
        have zy7 : v5.frozen? ⟨gR, 7, none⟩ = false := by simp [World.frozen?, BR.out]
        have y8 : v5.cell? ⟨gR, 8, none⟩ = some (.int .u32 0) := by simp [World.cell?, BR.out]
        have zy8 : v5.frozen? ⟨gR, 8, none⟩ = false := by simp [World.frozen?, BR.out]
        have y9 : v5.cell? ⟨gR, 9, none⟩ = some (.int .u16 0) := by simp [World.cell?, BR.out]
        have zy9 : v5.frozen? ⟨gR, 9, none⟩ = false := by simp [World.frozen?, BR.out]
        have y10 : v5.cell? ⟨gR, 10, none⟩ = some (.int .i64 0) := by simp [World.cell?, BR.out]
        have zy10 : v5.frozen? ⟨gR, 10, none⟩ = false := by simp [World.frozen?, BR.out]
        have y11 : v5.cell? ⟨gR, 11, none⟩ = some (.int .i64 0) := by simp [World.cell?, BR.out]
        have zy11 : v5.frozen? ⟨gR, 11, none⟩ = false := by simp [World.frozen?, BR.out]
        have y12 : v5.cell? ⟨gR, 12, none⟩ = some (.slice none 0 0) := by simp [World.cell?, BR.out]
        have zy12 : v5.frozen? ⟨gR, 12, none⟩ = false := by simp [World.frozen?, BR.out]
        go_wp2_with fail
        obtain ⟨W, hW, hb2, hf2⟩ := set13 v5 gR 31 (.int .u8 0) (.int .u32 0) (.int .u16 0) (.int .u32 0) (.int .u16 0) (.int .u8 0) (.int .u32 0) (.int .u16 0) (.int .u32 0) (.int .u16 0) (.int .i64 0) (.int .i64 0) (.slice none 0 0) BR.out (.int .u8 0) (.int .u32 0) (.int .u16 0) (.int .u32 0) (.int .u16 0) (.int .u8 0) (.int .u32 0) (.int .u16 0) (.int .u32 0) (.int .u16 0) (.int .i64 0) (.int .i64 0) (.slice none 0 0)
        rw [← hW]
        clear hW y0 zy0 y1 zy1 y2 zy2 y3 zy3 y4 zy4 y5 zy5 y6 zy6 y7 zy7 y8 zy8 y9 zy9 y10 zy10 y11 zy11 y12 zy12
        have y0 : W.cell? ⟨gR, 0, none⟩ = some (.int .u8 0) := by simp [World.cell?, hb2]
        have y1 : W.cell? ⟨gR, 1, none⟩ = some (.int .u32 0) := by simp [World.cell?, hb2]
        have y2 : W.cell? ⟨gR, 2, none⟩ = some (.int .u16 0) := by simp [World.cell?, hb2]
        have y3 : W.cell? ⟨gR, 3, none⟩ = some (.int .u32 0) := by simp [World.cell?, hb2]
        have y4 : W.cell? ⟨gR, 4, none⟩ = some (.int .u16 0) := by simp [World.cell?, hb2]
        have y5 : W.cell? ⟨gR, 5, none⟩ = some (.int .u8 0) := by simp [World.cell?, hb2]
        have y6 : W.cell? ⟨gR, 6, none⟩ = some (.int .u32 0) := by simp [World.cell?, hb2]
        have y7 : W.cell? ⟨gR, 7, none⟩ = some (.int .u16 0) := by simp [World.cell?, hb2]
        have y8 : W.cell? ⟨gR, 8, none⟩ = some (.int .u32 0) := by simp [World.cell?, hb2]
        have y9 : W.cell? ⟨gR, 9, none⟩ = some (.int .u16 0) := by simp [World.cell?, hb2]
        have y10 : W.cell? ⟨gR, 10, none⟩ = some (.int .i64 0) := by simp [World.cell?, hb2]
        have y11 : W.cell? ⟨gR, 11, none⟩ = some (.int .i64 0) := by simp [World.cell?, hb2]
        have y12 : W.cell? ⟨gR, 12, none⟩ = some (.slice none 0 0) := by simp [World.cell?, hb2]
        have HF := Lib.hid (Hm5.out.trans hf2 (fun i hi e => by have h1 : i = gR := e; have h2 := HgR.out; omega))
        have HNP := Lib.hid (N1.out (by first | rfl | trivial))
        clear hf2 hb2
        refine bodyPost_ret (v := .tuple #[.agg #[.int .u8 0, .int .u32 0, .int .u16 0, .int .u32 0, .int .u16 0, .int .u8 0, .int .u32 0, .int .u16 0, .int .u32 0, .int .u16 0, .int .i64 0, .int .i64 0, .slice none 0 0], .int .i64 3]) (by simp only [results, Tryz.results7]; go_simp) rfl ⟨HF.out, .inl ⟨rfl, HNP.out⟩⟩
      · rcases z2 with _ | _
        · have q1 : (e1 != 0) = false := by simp [bne, hz1]
          have q2 : (e2 != 0) = true := by simp [bne, hz2]
          have y0 : v5.cell? ⟨gR, 0, none⟩ = some (.int .u8 0) := by simp [World.cell?, BR.out]
          have zy0 : v5.frozen? ⟨gR, 0, none⟩ = false := by simp [World.frozen?, BR.out]
          have y1 : v5.cell? ⟨gR, 1, none⟩ = some (.int .u32 0) := by simp [World.cell?, BR.out]
          have zy1 : v5.frozen? ⟨gR, 1, none⟩ = false := by simp [World.frozen?, BR.out]
          have y2 : v5.cell? ⟨gR, 2, none⟩ = some (.int .u16 0) := by simp [World.cell?, BR.out]
          have zy2 : v5.frozen? ⟨gR, 2, none⟩ = false := by simp [World.frozen?, BR.out]
          have y3 : v5.cell? ⟨gR, 3, none⟩ = some (.int .u32 0) := by simp [World.cell?, BR.out]
          have zy3 : v5.frozen? ⟨gR, 3, none⟩ = false := by simp [World.frozen?, BR.out]
          have y4 : v5.cell? ⟨gR, 4, none⟩ = some (.int .u16 0) := by simp [World.cell?, BR.out]
          have zy4 : v5.frozen? ⟨gR, 4, none⟩ = false := by simp [World.frozen?, BR.out]
          have y5 : v5.cell? ⟨gR, 5, none⟩ = some (.int .u8 0) := by simp [World.cell?, BR.out]
          have zy5 : v5.frozen? ⟨gR, 5, none⟩ = false := by simp [World.frozen?, BR.out]
          have y6 : v5.cell? ⟨gR, 6, none⟩ = some (.int .u32 0) := by simp [World.cell?, BR.out]
          have zy6 : v5.frozen? ⟨gR, 6, none⟩ = false := by simp [World.frozen?, BR.out]
          have y7 : v5.cell? ⟨gR, 7, none⟩ = some (.int .u16 0) := by simp [World.cell?, BR.out]
          have zy7 : v5.frozen? ⟨gR, 7, none⟩ = false := by simp [World.frozen?, BR.out]
          have y8 : v5.cell? ⟨gR, 8, none⟩ = some (.int .u32 0) := by simp [World.cell?, BR.out]
          have zy8 : v5.frozen? ⟨gR, 8, none⟩ = false := by simp [World.frozen?, BR.out]
          have y9 : v5.cell? ⟨gR, 9, none⟩ = some (.int .u16 0) := by simp [World.cell?, BR.out]
          have zy9 : v5.frozen? ⟨gR, 9, none⟩ = false := by simp [World.frozen?, BR.out]
          have y10 : v5.cell? ⟨gR, 10, none⟩ = some (.int .i64 0) := by simp [World.cell?, BR.out]
          have zy10 : v5.frozen? ⟨gR, 10, none⟩ = false := by simp [World.frozen?, BR.out]
          have y11 : v5.cell? ⟨gR, 11, none⟩ = some (.int .i64 0) := by simp [World.cell?, BR.out]
          have zy11 : v5.frozen? ⟨gR, 11, none⟩ = false := by simp [World.frozen?, BR.out]
          have y12 : v5.cell? ⟨gR, 12, none⟩ = some (.slice none 0 0) := by simp [World.cell?, BR.out]
          have zy12 : v5.frozen? ⟨gR, 12, none⟩ = false := by simp [World.frozen?, BR.out]
          go_wp2_with fail
          obtain ⟨W, hW, hb2, hf2⟩ := set13 v5 gR 31 (.int .u8 0) (.int .u32 0) (.int .u16 0) (.int .u32 0) (.int .u16 0) (.int .u8 0) (.int .u32 0) (.int .u16 0) (.int .u32 0) (.int .u16 0) (.int .i64 0) (.int .i64 0) (.slice none 0 0) BR.out (.int .u8 0) (.int .u32 0) (.int .u16 0) (.int .u32 0) (.int .u16 0) (.int .u8 0) (.int .u32 0) (.int .u16 0) (.int .u32 0) (.int .u16 0) (.int .i64 0) (.int .i64 0) (.slice none 0 0)
          rw [← hW]
          clear hW y0 zy0 y1 zy1 y2 zy2 y3 zy3 y4 zy4 y5 zy5 y6 zy6 y7 zy7 y8 zy8 y9 zy9 y10 zy10 y11 zy11 y12 zy12
          have y0 : W.cell? ⟨gR, 0, none⟩ = some (.int .u8 0) := by simp [World.cell?, hb2]
          have y1 : W.cell? ⟨gR, 1, none⟩ = some (.int .u32 0) := by simp [World.cell?, hb2]
          have y2 : W.cell? ⟨gR, 2, none⟩ = some (.int .u16 0) := by simp [World.cell?, hb2]
          have y3 : W.cell? ⟨gR, 3, none⟩ = some (.int .u32 0) := by simp [World.cell?, hb2]
          have y4 : W.cell? ⟨gR, 4, none⟩ = some (.int .u16 0) := by simp [World.cell?, hb2]
          have y5 : W.cell? ⟨gR, 5, none⟩ = some (.int .u8 0) := by simp [World.cell?, hb2]
          have y6 : W.cell? ⟨gR, 6, none⟩ = some (.int .u32 0) := by simp [World.cell?, hb2]
          have y7 : W.cell? ⟨gR, 7, none⟩ = some (.int .u16 0) := by simp [World.cell?, hb2]
          have y8 : W.cell? ⟨gR, 8, none⟩ = some (.int .u32 0) := by simp [World.cell?, hb2]
          have y9 : W.cell? ⟨gR, 9, none⟩ = some (.int .u16 0) := by simp [World.cell?, hb2]
          have y10 : W.cell? ⟨gR, 10, none⟩ = some (.int .i64 0) := by simp [World.cell?, hb2]
          have y11 : W.cell? ⟨gR, 11, none⟩ = some (.int .i64 0) := by simp [World.cell?, hb2]
          have y12 : W.cell? ⟨gR, 12, none⟩ = some (.slice none 0 0) := by simp [World.cell?, hb2]
          have HF := Lib.hid (Hm5.out.trans hf2 (fun i hi e => by have h1 : i = gR := e; have h2 := HgR.out; omega))
          have HNP := Lib.hid (N2.out (by first | rfl | trivial))
          clear hf2 hb2
          refine bodyPost_ret (v := .tuple #[.agg #[.int .u8 0, .int .u32 0, .int .u16 0, .int .u32 0, .int .u16 0, .int .u8 0, .int .u32 0, .int .u16 0, .int .u32 0, .int .u16 0, .int .i64 0, .int .i64 0, .slice none 0 0], .int .i64 3]) (by simp only [results, Tryz.results7]; go_simp) rfl ⟨HF.out, .inl ⟨rfl, HNP.out⟩⟩
        · have q1 : (e1 != 0) = false := by simp [bne, hz1]
          have q2 : (e2 != 0) = false := by simp [bne, hz2]
          have y0 : v5.cell? ⟨gR, 0, none⟩ = some (.int .u8 0) := by simp [World.cell?, BR.out]
          have zy0 : v5.frozen? ⟨gR, 0, none⟩ = false := by simp [World.frozen?, BR.out]
          have y1 : v5.cell? ⟨gR, 1, none⟩ = some (.int .u32 0) := by simp [World.cell?, BR.out]
          have zy1 : v5.frozen? ⟨gR, 1, none⟩ = false := by simp [World.frozen?, BR.out]
          have y2 : v5.cell? ⟨gR, 2, none⟩ = some (.int .u16 0) := by simp [World.cell?, BR.out]
          have zy2 : v5.frozen? ⟨gR, 2, none⟩ = false := by simp [World.frozen?, BR.out]
          have y3 : v5.cell? ⟨gR, 3, none⟩ = some (.int .u32 0) := by simp [World.cell?, BR.out]
          have zy3 : v5.frozen? ⟨gR, 3, none⟩ = false := by simp [World.frozen?, BR.out]
          have y4 : v5.cell? ⟨gR, 4, none⟩ = some (.int .u16 0) := by simp [World.cell?, BR.out]
          have zy4 : v5.frozen? ⟨gR, 4, none⟩ = false := by simp [World.frozen?, BR.out]
          have y5 : v5.cell? ⟨gR, 5, none⟩ = some (.int .u8 0) := by simp [World.cell?, BR.out]
          have zy5 : v5.frozen? ⟨gR, 5, none⟩ = false := by simp [World.frozen?, BR.out]
          have y6 : v5.cell? ⟨gR, 6, none⟩ = some (.int .u32 0) := by simp [World.cell?, BR.out]
          have zy6 : v5.frozen? ⟨gR, 6, none⟩ = false := by simp [World.frozen?, BR.out]
          have y7 : v5.cell? ⟨gR, 7, none⟩ = some (.int .u16 0) := by simp [World.cell?, BR.out]
          have zy7 : v5.frozen? ⟨gR, 7, none⟩ = false := by simp [World.frozen?, BR.out]
          have y8 : v5.cell? ⟨gR, 8, none⟩ = some (.int .u32 0) := by simp [World.cell?, BR.out]
          have zy8 : v5.frozen? ⟨gR, 8, none⟩ = false := by simp [World.frozen?, BR.out]
          have y9 : v5.cell? ⟨gR, 9, none⟩ = some (.int .u16 0) := by simp [World.cell?, BR.out]
          have zy9 : v5.frozen? ⟨gR, 9, none⟩ = false := by simp [World.frozen?, BR.out]
          have y10 : v5.cell? ⟨gR, 10, none⟩ = some (.int .i64 0) := by simp [World.cell?, BR.out]
          have zy10 : v5.frozen? ⟨gR, 10, none⟩ = false := by simp [World.frozen?, BR.out]
          have y11 : v5.cell? ⟨gR, 11, none⟩ = some (.int .i64 0) := by simp [World.cell?, BR.out]
          have zy11 : v5.frozen? ⟨gR, 11, none⟩ = false := by simp [World.frozen?, BR.out]
          have y12 : v5.cell? ⟨gR, 12, none⟩ = some (.slice none 0 0) := by simp [World.cell?, BR.out]
          have zy12 : v5.frozen? ⟨gR, 12, none⟩ = false := by simp [World.frozen?, BR.out]
          go_wp2_with fail
          obtain ⟨W, hW, hb2, hf2⟩ := set13 v5 gR 31 (.int .u8 0) (.int .u32 0) (.int .u16 0) (.int .u32 0) (.int .u16 0) (.int .u8 0) (.int .u32 0) (.int .u16 0) (.int .u32 0) (.int .u16 0) (.int .i64 0) (.int .i64 0) (.slice none 0 0) BR.out (.int .u8 0) (.int .u32 0) (.int .u16 0) (.int .u32 0) (.int .u16 0) (.int .u8 0) (.int .u32 0) (.int .u16 0) (.int .u32 0) (.int .u16 0) (.int .i64 0) (.int .i64 0) (.slice none 0 0)
          rw [← hW]
          clear hW y0 zy0 y1 zy1 y2 zy2 y3 zy3 y4 zy4 y5 zy5 y6 zy6 y7 zy7 y8 zy8 y9 zy9 y10 zy10 y11 zy11 y12 zy12
          have y0 : W.cell? ⟨gR, 0, none⟩ = some (.int .u8 0) := by simp [World.cell?, hb2]
          have y1 : W.cell? ⟨gR, 1, none⟩ = some (.int .u32 0) := by simp [World.cell?, hb2]
          have y2 : W.cell? ⟨gR, 2, none⟩ = some (.int .u16 0) := by simp [World.cell?, hb2]
          have y3 : W.cell? ⟨gR, 3, none⟩ = some (.int .u32 0) := by simp [World.cell?, hb2]
          have y4 : W.cell? ⟨gR, 4, none⟩ = some (.int .u16 0) := by simp [World.cell?, hb2]
          have y5 : W.cell? ⟨gR, 5, none⟩ = some (.int .u8 0) := by simp [World.cell?, hb2]
          have y6 : W.cell? ⟨gR, 6, none⟩ = some (.int .u32 0) := by simp [World.cell?, hb2]
          have y7 : W.cell? ⟨gR, 7, none⟩ = some (.int .u16 0) := by simp [World.cell?, hb2]
          have y8 : W.cell? ⟨gR, 8, none⟩ = some (.int .u32 0) := by simp [World.cell?, hb2]
          have y9 : W.cell? ⟨gR, 9, none⟩ = some (.int .u16 0) := by simp [World.cell?, hb2]
          have y10 : W.cell? ⟨gR, 10, none⟩ = some (.int .i64 0) := by simp [World.cell?, hb2]
          have y11 : W.cell? ⟨gR, 11, none⟩ = some (.int .i64 0) := by simp [World.cell?, hb2]
          have y12 : W.cell? ⟨gR, 12, none⟩ = some (.slice none 0 0) := by simp [World.cell?, hb2]
          have HF := Lib.hid (Hm5.out.trans hf2 (fun i hi e => by have h1 : i = gR := e; have h2 := HgR.out; omega))
          have HNP := Lib.hid (N4.out hz4)
          clear hf2 hb2
          refine bodyPost_ret (v := .tuple #[.agg #[.int .u8 0, .int .u32 0, .int .u16 0, .int .u32 0, .int .u16 0, .int .u8 0, .int .u32 0, .int .u16 0, .int .u32 0, .int .u16 0, .int .i64 0, .int .i64 0, .slice none 0 0], .int .i64 3]) (by simp only [results, Tryz.results7]; go_simp) rfl ⟨HF.out, .inl ⟨rfl, HNP.out⟩⟩
  · have Hm4 := Lib.hid (Hq1.out.trans hp (fun _ _ h => h))
    have hb := (hp.block _ (Array.getElem?_eq_some_iff.1 BR.out).1 id).trans BR.out
    clear BR
    have BR := Lib.hid hb
    clear hb
    have hb := (hp.block _ (Array.getElem?_eq_some_iff.1 BP.out).1 id).trans BP.out
    clear BP
    have BP := Lib.hid hb
    clear hb
    have hb := (hp.block _ (Array.getElem?_eq_some_iff.1 B5.out).1 id).trans B5.out
    clear B5
    have B5 := Lib.hid hb
    clear hb
    have hb := (hp.block _ (Array.getElem?_eq_some_iff.1 B7.out).1 id).trans B7.out
    clear B7
    have B7 := Lib.hid hb
    clear hb
    clear hp Hq1
    have cBP0 : v4.cell? ⟨gP, 0, none⟩ = some (str p0) := by simp [World.cell?, BP.out]
    have cBP1 : v4.cell? ⟨gP, 1, none⟩ = some (str p1) := by simp [World.cell?, BP.out]
    have cBP2 : v4.cell? ⟨gP, 2, none⟩ = some (str p2) := by simp [World.cell?, BP.out]
    have cBP3 : v4.cell? ⟨gP, 3, none⟩ = some (str p3) := by simp [World.cell?, BP.out]
    have cBP4 : v4.cell? ⟨gP, 4, none⟩ = some (str p4) := by simp [World.cell?, BP.out]
    have cBP5 : v4.cell? ⟨gP, 5, none⟩ = some (str p5) := by simp [World.cell?, BP.out]
    have cBP6 : v4.cell? ⟨gP, 6, none⟩ = some (str p6) := by simp [World.cell?, BP.out]
    have cBP7 : v4.cell? ⟨gP, 7, none⟩ = some (str p7) := by simp [World.cell?, BP.out]
    have cBP8 : v4.cell? ⟨gP, 8, none⟩ = some (str p8) := by simp [World.cell?, BP.out]
    have cBP9 : v4.cell? ⟨gP, 9, none⟩ = some (str h0) := by simp [World.cell?, BP.out]
    have lBP : gP < v4.heap.size := cell_lt cBP0
    go_wp2_with fail
    clear cBP0 cBP1 cBP2 cBP3 cBP4 cBP5 cBP6 cBP7 cBP8 cBP9 lBP
    refine (K4.out _ (Ht.out.low Hm4.out).toP).mono ?_
    rintro e v5 ⟨hp, ⟨hz4, rfl⟩ | ⟨hz4, N4b, rfl⟩⟩
    · have Hm5 := Lib.hid (Hm4.out.trans hp (fun _ _ h => h))
      have hb := (hp.block _ (Array.getElem?_eq_some_iff.1 BR.out).1 id).trans BR.out
      clear BR
      have BR := Lib.hid hb
      clear hb
      have hb := (hp.block _ (Array.getElem?_eq_some_iff.1 BP.out).1 id).trans BP.out
      clear BP
      have BP := Lib.hid hb
      clear hb
      have hb := (hp.block _ (Array.getElem?_eq_some_iff.1 B5.out).1 id).trans B5.out
      clear B5
      have B5 := Lib.hid hb
      clear hb
      have hb := (hp.block _ (Array.getElem?_eq_some_iff.1 B7.out).1 id).trans B7.out
      clear B7
      have B7 := Lib.hid hb
      clear hb
      clear hp Hm4
      rcases z1 with _ | _
      · have q1 : (e1 != 0) = true := by simp [bne, hz1]
        have y0 : v5.cell? ⟨gR, 0, none⟩ = some (.int .u8 0) := by simp [World.cell?, BR.out]
        have zy0 : v5.frozen? ⟨gR, 0, none⟩ = false := by simp [World.frozen?, BR.out]
        have y1 : v5.cell? ⟨gR, 1, none⟩ = some (.int .u32 0) := by simp [World.cell?, BR.out]
        have zy1 : v5.frozen? ⟨gR, 1, none⟩ = false := by simp [World.frozen?, BR.out]
        have y2 : v5.cell? ⟨gR, 2, none⟩ = some (.int .u16 0) := by simp [World.cell?, BR.out]
        have zy2 : v5.frozen? ⟨gR, 2, none⟩ = false := by simp [World.frozen?, BR.out]
        have y3 : v5.cell? ⟨gR, 3, none⟩ = some (.int .u32 0) := by simp [World.cell?, BR.out]
        have zy3 : v5.frozen? ⟨gR, 3, none⟩ = false := by simp [World.frozen?, BR.out]
        have y4 : v5.cell? ⟨gR, 4, none⟩ = some (.int .u16 0) := by simp [World.cell?, BR.out]
        have zy4 : v5.frozen? ⟨gR, 4, none⟩ = false := by simp [World.frozen?, BR.out]
        have y5 : v5.cell? ⟨gR, 5, none⟩ = some (.int .u8 0) := by simp [World.cell?, BR.out]
        have zy5 : v5.frozen? ⟨gR, 5, none⟩ = false := by simp [World.frozen?, BR.out]
        have y6 : v5.cell? ⟨gR, 6, none⟩ = some (.int .u32 0) := by simp [World.cell?, BR.out]
        have zy6 : v5.frozen? ⟨gR, 6, none⟩ = false := by simp [World.frozen?, BR.out]
        have y7 : v5.cell? ⟨gR, 7, none⟩ = some (.int .u16 0) := by simp [World.cell?, BR.out]
        have zy7 : v5.frozen? ⟨gR, 7, none⟩ = false := by simp [World.frozen?, BR.out]
        have y8 : v5.cell? ⟨gR, 8, none⟩ = some (.int .u32 0) := by simp [World.cell?, BR.out]
        have zy8 : v5.frozen? ⟨gR, 8, none⟩ = false := by simp [World.frozen?, BR.out]
        have y9 : v5.cell? ⟨gR, 9, none⟩ = some (.int .u16 0) := by simp [World.cell?, BR.out]
        have zy9 : v5.frozen? ⟨gR, 9, none⟩ = false := by simp [World.frozen?, BR.out]
        have y10 : v5.cell? ⟨gR, 10, none⟩ = some (.int .i64 0) := by simp [World.cell?, BR.out]
        have zy10 : v5.frozen? ⟨gR, 10, none⟩ = false := by simp [World.frozen?, BR.out]
        have y11 : v5.cell? ⟨gR, 11, none⟩ = some (.int .i64 0) := by simp [World.cell?, BR.out]
        have zy11 : v5.frozen? ⟨gR, 11, none⟩ = false := by simp [World.frozen?, BR.out]
        have y12 : v5.cell? ⟨gR, 12, none⟩ = some (.slice none 0 0) := by simp [World.cell?, BR.out]
        have zy12 : v5.frozen? ⟨gR, 12, none⟩ = false := by simp [World.frozen?, BR.out]
        go_wp2_with fail
        obtain ⟨W, hW, hb2, hf2⟩ := set13 v5 gR 31 (.int .u8 0) (.int .u32 0) (.int .u16 0) (.int .u32 0) (.int .u16 0) (.int .u8 0) (.int .u32 0) (.int .u16 0) (.int .u32 0) (.int .u16 0) (.int .i64 0) (.int .i64 0) (.slice none 0 0) BR.out (.int .u8 0) (.int .u32 0) (.int .u16 0) (.int .u32 0) (.int .u16 0) (.int .u8 0) (.int .u32 0) (.int .u16 0) (.int .u32 0) (.int .u16 0) (.int .i64 0) (.int .i64 0) (.slice none 0 0)
        rw [← hW]
        clear hW y0 zy0 y1 zy1 y2 zy2 y3 zy3 y4 zy4 y5 zy5 y6 zy6 y7 zy7 y8 zy8 y9 zy9 y10 zy10 y11 zy11 y12 zy12
        have y0 : W.cell? ⟨gR, 0, none⟩ = some (.int .u8 0) := by simp [World.cell?, hb2]
        have y1 : W.cell? ⟨gR, 1, none⟩ = some (.int .u32 0) := by simp [World.cell?, hb2]
        have y2 : W.cell? ⟨gR, 2, none⟩ = some (.int .u16 0) := by simp [World.cell?, hb2]
        have y3 : W.cell? ⟨gR, 3, none⟩ = some (.int .u32 0) := by simp [World.cell?, hb2]
        have y4 : W.cell? ⟨gR, 4, none⟩ = some (.int .u16 0) := by simp [World.cell?, hb2]
        have y5 : W.cell? ⟨gR, 5, none⟩ = some (.int .u8 0) := by simp [World.cell?, hb2]
        have y6 : W.cell? ⟨gR, 6, none⟩ = some (.int .u32 0) := by simp [World.cell?, hb2]
        have y7 : W.cell? ⟨gR, 7, none⟩ = some (.int .u16 0) := by simp [World.cell?, hb2]
        have y8 : W.cell? ⟨gR, 8, none⟩ = some (.int .u32 0) := by simp [World.cell?, hb2]
        have y9 : W.cell? ⟨gR, 9, none⟩ = some (.int .u16 0) := by simp [World.cell?, hb2]
        have y10 : W.cell? ⟨gR, 10, none⟩ = some (.int .i64 0) := by simp [World.cell?, hb2]
        have y11 : W.cell? ⟨gR, 11, none⟩ = some (.int .i64 0) := by simp [World.cell?, hb2]
        have y12 : W.cell? ⟨gR, 12, none⟩ = some (.slice none 0 0) := by simp [World.cell?, hb2]
        have HF := Lib.hid (Hm5.out.trans hf2 (fun i hi e => by have h1 : i = gR := e; have h2 := HgR.out; omega))
        have HNP := Lib.hid (N1.out (by first | rfl | trivial))
        clear hf2 hb2
        refine bodyPost_ret (v := .tuple #[.agg #[.int .u8 0, .int .u32 0, .int .u16 0, .int .u32 0, .int .u16 0, .int .u8 0, .int .u32 0, .int .u16 0, .int .u32 0, .int .u16 0, .int .i64 0, .int .i64 0, .slice none 0 0], .int .i64 3]) (by simp only [results, Tryz.results7]; go_simp) rfl ⟨HF.out, .inl ⟨rfl, HNP.out⟩⟩
      · rcases z2 with _ | _
        · have q1 : (e1 != 0) = false := by simp [bne, hz1]
          have q2 : (e2 != 0) = true := by simp [bne, hz2]
          have y0 : v5.cell? ⟨gR, 0, none⟩ = some (.int .u8 0) := by simp [World.cell?, BR.out]
          have zy0 : v5.frozen? ⟨gR, 0, none⟩ = false := by simp [World.frozen?, BR.out]
          have y1 : v5.cell? ⟨gR, 1, none⟩ = some (.int .u32 0) := by simp [World.cell?, BR.out]
          have zy1 : v5.frozen? ⟨gR, 1, none⟩ = false := by simp [World.frozen?, BR.out]
          have y2 : v5.cell? ⟨gR, 2, none⟩ = some (.int .u16 0) := by simp [World.cell?, BR.out]
          have zy2 : v5.frozen? ⟨gR, 2, none⟩ = false := by simp [World.frozen?, BR.out]
          have y3 : v5.cell? ⟨gR, 3, none⟩ = some (.int .u32 0) := by simp [World.cell?, BR.out]
          have zy3 : v5.frozen? ⟨gR, 3, none⟩ = false := by simp [World.frozen?, BR.out]
          have y4 : v5.cell? ⟨gR, 4, none⟩ = some (.int .u16 0) := by simp [World.cell?, BR.out]
          have zy4 : v5.frozen? ⟨gR, 4, none⟩ = false := by simp [World.frozen?, BR.out]
          have y5 : v5.cell? ⟨gR, 5, none⟩ = some (.int .u8 0) := by simp [World.cell?, BR.out]
          have zy5 : v5.frozen? ⟨gR, 5, none⟩ = false := by simp [World.frozen?, BR.out]
          have y6 : v5.cell? ⟨gR, 6, none⟩ = some (.int .u32 0) := by simp [World.cell?, BR.out]
          have zy6 : v5.frozen? ⟨gR, 6, none⟩ = false := by simp [World.frozen?, BR.out]
          have y7 : v5.cell? ⟨gR, 7, none⟩ = some (.int .u16 0) := by simp [World.cell?, BR.out]
          have zy7 : v5.frozen? ⟨gR, 7, none⟩ = false := by simp [World.frozen?, BR.out]
          have y8 : v5.cell? ⟨gR, 8, none⟩ = some (.int .u32 0) := by simp [World.cell?, BR.out]
          have zy8 : v5.frozen? ⟨gR, 8, none⟩ = false := by simp [World.frozen?, BR.out]
          have y9 : v5.cell? ⟨gR, 9, none⟩ = some (.int .u16 0) := by simp [World.cell?, BR.out]
          have zy9 : v5.frozen? ⟨gR, 9, none⟩ = false := by simp [World.frozen?, BR.out]
          have y10 : v5.cell? ⟨gR, 10, none⟩ = some (.int .i64 0) := by simp [World.cell?, BR.out]
          have zy10 : v5.frozen? ⟨gR, 10, none⟩ = false := by simp [World.frozen?, BR.out]
          have y11 : v5.cell? ⟨gR, 11, none⟩ = some (.int .i64 0) := by simp [World.cell?, BR.out]
          have zy11 : v5.frozen? ⟨gR, 11, none⟩ = false := by simp [World.frozen?, BR.out]
          have y12 : v5.cell? ⟨gR, 12, none⟩ = some (.slice none 0 0) := by simp [World.cell?, BR.out]
          have zy12 : v5.frozen? ⟨gR, 12, none⟩ = false := by simp [World.frozen?, BR.out]
          go_wp2_with fail
          obtain ⟨W, hW, hb2, hf2⟩ := set13 v5 gR 31 (.int .u8 0) (.int .u32 0) (.int .u16 0) (.int .u32 0) (.int .u16 0) (.int .u8 0) (.int .u32 0) (.int .u16 0) (.int .u32 0) (.int .u16 0) (.int .i64 0) (.int .i64 0) (.slice none 0 0) BR.out (.int .u8 0) (.int .u32 0) (.int .u16 0) (.int .u32 0) (.int .u16 0) (.int .u8 0) (.int .u32 0) (.int .u16 0) (.int .u32 0) (.int .u16 0) (.int .i64 0) (.int .i64 0) (.slice none 0 0)
          rw [← hW]
          clear hW y0 zy0 y1 zy1 y2 zy2 y3 zy3 y4 zy4 y5 zy5 y6 zy6 y7 zy7 y8 zy8 y9 zy9 y10 zy10 y11 zy11 y12 zy12
          have y0 : W.cell? ⟨gR, 0, none⟩ = some (.int .u8 0) := by simp [World.cell?, hb2]
          have y1 : W.cell? ⟨gR, 1, none⟩ = some (.int .u32 0) := by simp [World.cell?, hb2]
          have y2 : W.cell? ⟨gR, 2, none⟩ = some (.int .u16 0) := by simp [World.cell?, hb2]
          have y3 : W.cell? ⟨gR, 3, none⟩ = some (.int .u32 0) := by simp [World.cell?, hb2]
          have y4 : W.cell? ⟨gR, 4, none⟩ = some (.int .u16 0) := by simp [World.cell?, hb2]
          have y5 : W.cell? ⟨gR, 5, none⟩ = some (.int .u8 0) := by simp [World.cell?, hb2]
          have y6 : W.cell? ⟨gR, 6, none⟩ = some (.int .u32 0) := by simp [World.cell?, hb2]
          have y7 : W.cell? ⟨gR, 7, none⟩ = some (.int .u16 0) := by simp [World.cell?, hb2]
          have y8 : W.cell? ⟨gR, 8, none⟩ = some (.int .u32 0) := by simp [World.cell?, hb2]
          have y9 : W.cell? ⟨gR, 9, none⟩ = some (.int .u16 0) := by simp [World.cell?, hb2]
          have y10 : W.cell? ⟨gR, 10, none⟩ = some (.int .i64 0) := by simp [World.cell?, hb2]
          have y11 : W.cell? ⟨gR, 11, none⟩ = some (.int .i64 0) := by simp [World.cell?, hb2]
          have y12 : W.cell? ⟨gR, 12, none⟩ = some (.slice none 0 0) := by simp [World.cell?, hb2]
          have HF := Lib.hid (Hm5.out.trans hf2 (fun i hi e => by have h1 : i = gR := e; have h2 := HgR.out; omega))
          have HNP := Lib.hid (N2.out (by first | rfl | trivial))
          clear hf2 hb2
          refine bodyPost_ret (v := .tuple #[.agg #[.int .u8 0, .int .u32 0, .int .u16 0, .int .u32 0, .int .u16 0, .int .u8 0, .int .u32 0, .int .u16 0, .int .u32 0, .int .u16 0, .int .i64 0, .int .i64 0, .slice none 0 0], .int .i64 3]) (by simp only [results, Tryz.results7]; go_simp) rfl ⟨HF.out, .inl ⟨rfl, HNP.out⟩⟩
        · have q1 : (e1 != 0) = false := by simp [bne, hz1]
          have q2 : (e2 != 0) = false := by simp [bne, hz2]
          have y0 : v5.cell? ⟨gR, 0, none⟩ = some (.int .u8 0) := by simp [World.cell?, BR.out]
          have zy0 : v5.frozen? ⟨gR, 0, none⟩ = false := by simp [World.frozen?, BR.out]
          have y1 : v5.cell? ⟨gR, 1, none⟩ = some (.int .u32 0) := by simp [World.cell?, BR.out]
          have zy1 : v5.frozen? ⟨gR, 1, none⟩ = false := by simp [World.frozen?, BR.out]
          have y2 : v5.cell? ⟨gR, 2, none⟩ = some (.int .u16 0) := by simp [World.cell?, BR.out]
          have zy2 : v5.frozen? ⟨gR, 2, none⟩ = false := by simp [World.frozen?, BR.out]
          have y3 : v5.cell? ⟨gR, 3, none⟩ = some (.int .u32 0) := by simp [World.cell?, BR.out]
          have zy3 : v5.frozen? ⟨gR, 3, none⟩ = false := by simp [World.frozen?, BR.out]
          have y4 : v5.cell? ⟨gR, 4, none⟩ = some (.int .u16 0) := by simp [World.cell?, BR.out]
          have zy4 : v5.frozen? ⟨gR, 4, none⟩ = false := by simp [World.frozen?, BR.out]
          have y5 : v5.cell? ⟨gR, 5, none⟩ = some (.int .u8 0) := by simp [World.cell?, BR.out]
          have zy5 : v5.frozen? ⟨gR, 5, none⟩ = false := by simp [World.frozen?, BR.out]
          have y6 : v5.cell? ⟨gR, 6, none⟩ = some (.int .u32 0) := by simp [World.cell?, BR.out]
          have zy6 : v5.frozen? ⟨gR, 6, none⟩ = false := by simp [World.frozen?, BR.out]
          have y7 : v5.cell? ⟨gR, 7, none⟩ = some (.int .u16 0) := by simp [World.cell?, BR.out]
          have zy7 : v5.frozen? ⟨gR, 7, none⟩ = false := by simp [World.frozen?, BR.out]
          have y8 : v5.cell? ⟨gR, 8, none⟩ = some (.int .u32 0) := by simp [World.cell?, BR.out]
          have zy8 : v5.frozen? ⟨gR, 8, none⟩ = false := by simp [World.frozen?, BR.out]
          have y9 : v5.cell? ⟨gR, 9, none⟩ = some (.int .u16 0) := by simp [World.cell?, BR.out]
          have zy9 : v5.frozen? ⟨gR, 9, none⟩ = false := by simp [World.frozen?, BR.out]
          have y10 : v5.cell? ⟨gR, 10, none⟩ = some (.int .i64 0) := by simp [World.cell?, BR.out]
          have zy10 : v5.frozen? ⟨gR, 10, none⟩ = false := by simp [World.frozen?, BR.out]
          have y11 : v5.cell? ⟨gR, 11, none⟩ = some (.int .i64 0) := by simp [World.cell?, BR.out]
          have zy11 : v5.frozen? ⟨gR, 11, none⟩ = false := by simp [World.frozen?, BR.out]
          have y12 : v5.cell? ⟨gR, 12, none⟩ = some (.slice none 0 0) := by simp [World.cell?, BR.out]
          have zy12 : v5.frozen? ⟨gR, 12, none⟩ = false := by simp [World.frozen?, BR.out]
          go_wp2_with fail
          obtain ⟨W, hW, hb2, hf2⟩ := set13 v5 gR 31 (.int .u8 0) (.int .u32 0) (.int .u16 0) (.int .u32 0) (.int .u16 0) (.int .u8 0) (.int .u32 0) (.int .u16 0) (.int .u32 0) (.int .u16 0) (.int .i64 0) (.int .i64 0) (.slice none 0 0) BR.out (.int .u8 0) (.int .u32 0) (.int .u16 0) (.int .u32 0) (.int .u16 0) (.int .u8 0) (.int .u32 0) (.int .u16 0) (.int .u32 0) (.int .u16 0) (.int .i64 0) (.int .i64 0) (.slice none 0 0)
          rw [← hW]
          clear hW y0 zy0 y1 zy1 y2 zy2 y3 zy3 y4 zy4 y5 zy5 y6 zy6 y7 zy7 y8 zy8 y9 zy9 y10 zy10 y11 zy11 y12 zy12
          have y0 : W.cell? ⟨gR, 0, none⟩ = some (.int .u8 0) := by simp [World.cell?, hb2]
          have y1 : W.cell? ⟨gR, 1, none⟩ = some (.int .u32 0) := by simp [World.cell?, hb2]
          have y2 : W.cell? ⟨gR, 2, none⟩ = some (.int .u16 0) := by simp [World.cell?, hb2]
          have y3 : W.cell? ⟨gR, 3, none⟩ = some (.int .u32 0) := by simp [World.cell?, hb2]
          have y4 : W.cell? ⟨gR, 4, none⟩ = some (.int .u16 0) := by simp [World.cell?, hb2]
          have y5 : W.cell? ⟨gR, 5, none⟩ = some (.int .u8 0) := by simp [World.cell?, hb2]
          have y6 : W.cell? ⟨gR, 6, none⟩ = some (.int .u32 0) := by simp [World.cell?, hb2]
          have y7 : W.cell? ⟨gR, 7, none⟩ = some (.int .u16 0) := by simp [World.cell?, hb2]
          have y8 : W.cell? ⟨gR, 8, none⟩ = some (.int .u32 0) := by simp [World.cell?, hb2]
          have y9 : W.cell? ⟨gR, 9, none⟩ = some (.int .u16 0) := by simp [World.cell?, hb2]
          have y10 : W.cell? ⟨gR, 10, none⟩ = some (.int .i64 0) := by simp [World.cell?, hb2]
          have y11 : W.cell? ⟨gR, 11, none⟩ = some (.int .i64 0) := by simp [World.cell?, hb2]
          have y12 : W.cell? ⟨gR, 12, none⟩ = some (.slice none 0 0) := by simp [World.cell?, hb2]
          have HF := Lib.hid (Hm5.out.trans hf2 (fun i hi e => by have h1 : i = gR := e; have h2 := HgR.out; omega))
          have HNP := Lib.hid (N3.out hz3)
          clear hf2 hb2
          refine bodyPost_ret (v := .tuple #[.agg #[.int .u8 0, .int .u32 0, .int .u16 0, .int .u32 0, .int .u16 0, .int .u8 0, .int .u32 0, .int .u16 0, .int .u32 0, .int .u16 0, .int .i64 0, .int .i64 0, .slice none 0 0], .int .i64 3]) (by simp only [results, Tryz.results7]; go_simp) rfl ⟨HF.out, .inl ⟨rfl, HNP.out⟩⟩
    · have Hm5 := Lib.hid (Hm4.out.trans hp (fun _ _ h => h))
      have hb := (hp.block _ (Array.getElem?_eq_some_iff.1 BR.out).1 id).trans BR.out
      clear BR
      have BR := Lib.hid hb
      clear hb
      have hb := (hp.block _ (Array.getElem?_eq_some_iff.1 BP.out).1 id).trans BP.out
      clear BP
      have BP := Lib.hid hb
      clear hb
      have hb := (hp.block _ (Array.getElem?_eq_some_iff.1 B5.out).1 id).trans B5.out
      clear B5
      have B5 := Lib.hid hb
      clear hb
      have hb := (hp.block _ (Array.getElem?_eq_some_iff.1 B7.out).1 id).trans B7.out
      clear B7
      have B7 := Lib.hid hb
      clear hb
      clear hp Hm4
      rcases z1 with _ | _
      · have q1 : (e1 != 0) = true := by simp [bne, hz1]
        have y0 : v5.cell? ⟨gR, 0, none⟩ = some (.int .u8 0) := by simp [World.cell?, BR.out]
        have zy0 : v5.frozen? ⟨gR, 0, none⟩ = false := by simp [World.frozen?, BR.out]
        have y1 : v5.cell? ⟨gR, 1, none⟩ = some (.int .u32 0) := by simp [World.cell?, BR.out]
        have zy1 : v5.frozen? ⟨gR, 1, none⟩ = false := by simp [World.frozen?, BR.out]
        have y2 : v5.cell? ⟨gR, 2, none⟩ = some (.int .u16 0) := by simp [World.cell?, BR.out]
        have zy2 : v5.frozen? ⟨gR, 2, none⟩ = false := by simp [World.frozen?, BR.out]
        have y3 : v5.cell? ⟨gR, 3, none⟩ = some (.int .u32 0) := by simp [World.cell?, BR.out]
        have zy3 : v5.frozen? ⟨gR, 3, none⟩ = false := by simp [World.frozen?, BR.out]
        have y4 : v5.cell? ⟨gR, 4, none⟩ = some (.int .u16 0) := by simp [World.cell?, BR.out]
        have zy4 : v5.frozen? ⟨gR, 4, none⟩ = false := by simp [World.frozen?, BR.out]
        have y5 : v5.cell? ⟨gR, 5, none⟩ = some (.int .u8 0) := by simp [World.cell?, BR.out]
        have zy5 : v5.frozen? ⟨gR, 5, none⟩ = false := by simp [World.frozen?, BR.out]
        have y6 : v5.cell? ⟨gR, 6, none⟩ = some (.int .u32 0) := by simp [World.cell?, BR.out]
        have zy6 : v5.frozen? ⟨gR, 6, none⟩ = false := by simp [World.frozen?, BR.out]
        have y7 : v5.cell? ⟨gR, 7, none⟩ = some (.int .u16 0) := by simp [World.cell?, BR.out]
        have zy7 : v5.frozen? ⟨gR, 7, none⟩ = false := by simp [World.frozen?, BR.out]
        have y8 : v5.cell? ⟨gR, 8, none⟩ = some (.int .u32 0) := by simp [World.cell?, BR.out]
        have zy8 : v5.frozen? ⟨gR, 8, none⟩ = false := by simp [World.frozen?, BR.out]
        have y9 : v5.cell? ⟨gR, 9, none⟩ = some (.int .u16 0) := by simp [World.cell?, BR.out]
        have zy9 : v5.frozen? ⟨gR, 9, none⟩ = false := by simp [World.frozen?, BR.out]
        have y10 : v5.cell? ⟨gR, 10, none⟩ = some (.int .i64 0) := by simp [World.cell?, BR.out]
        have zy10 : v5.frozen? ⟨gR, 10, none⟩ = false := by simp [World.frozen?, BR.out]
        have y11 : v5.cell? ⟨gR, 11, none⟩ = some (.int .i64 0) := by simp [World.cell?, BR.out]
        have zy11 : v5.frozen? ⟨gR, 11, none⟩ = false := by simp [World.frozen?, BR.out]
        have y12 : v5.cell? ⟨gR, 12, none⟩ = some (.slice none 0 0) := by simp [World.cell?, BR.out]
        have zy12 : v5.frozen? ⟨gR, 12, none⟩ = false := by simp [World.frozen?, BR.out]
        go_wp2_with fail
        obtain ⟨W, hW, hb2, hf2⟩ := set13 v5 gR 31 (.int .u8 0) (.int .u32 0) (.int .u16 0) (.int .u32 0) (.int .u16 0) (.int .u8 0) (.int .u32 0) (.int .u16 0) (.int .u32 0) (.int .u16 0) (.int .i64 0) (.int .i64 0) (.slice none 0 0) BR.out (.int .u8 0) (.int .u32 0) (.int .u16 0) (.int .u32 0) (.int .u16 0) (.int .u8 0) (.int .u32 0) (.int .u16 0) (.int .u32 0) (.int .u16 0) (.int .i64 0) (.int .i64 0) (.slice none 0 0)
        rw [← hW]
        clear hW y0 zy0 y1 zy1 y2 zy2 y3 zy3 y4 zy4 y5 zy5 y6 zy6 y7 zy7 y8 zy8 y9 zy9 y10 zy10 y11 zy11 y12 zy12
        have y0 : W.cell? ⟨gR, 0, none⟩ = some (.int .u8 0) := by simp [World.cell?, hb2]
        have y1 : W.cell? ⟨gR, 1, none⟩ = some (.int .u32 0) := by simp [World.cell?, hb2]
        have y2 : W.cell? ⟨gR, 2, none⟩ = some (.int .u16 0) := by simp [World.cell?, hb2]
        have y3 : W.cell? ⟨gR, 3, none⟩ = some (.int .u32 0) := by simp [World.cell?, hb2]
        have y4 : W.cell? ⟨gR, 4, none⟩ = some (.int .u16 0) := by simp [World.cell?, hb2]
        have y5 : W.cell? ⟨gR, 5, none⟩ = some (.int .u8 0) := by simp [World.cell?, hb2]
        have y6 : W.cell? ⟨gR, 6, none⟩ = some (.int .u32 0) := by simp [World.cell?, hb2]
        have y7 : W.cell? ⟨gR, 7, none⟩ = some (.int .u16 0) := by simp [World.cell?, hb2]
        have y8 : W.cell? ⟨gR, 8, none⟩ = some (.int .u32 0) := by simp [World.cell?, hb2]
        have y9 : W.cell? ⟨gR, 9, none⟩ = some (.int .u16 0) := by simp [World.cell?, hb2]
        have y10 : W.cell? ⟨gR, 10, none⟩ = some (.int .i64 0) := by simp [World.cell?, hb2]
        have y11 : W.cell? ⟨gR, 11, none⟩ = some (.int .i64 0) := by simp [World.cell?, hb2]
        have y12 : W.cell? ⟨gR, 12, none⟩ = some (.slice none 0 0) := by simp [World.cell?, hb2]
        have HF := Lib.hid (Hm5.out.trans hf2 (fun i hi e => by have h1 : i = gR := e; have h2 := HgR.out; omega))
        have HNP := Lib.hid (N1.out (by first | rfl | trivial))
        clear hf2 hb2
        refine bodyPost_ret (v := .tuple #[.agg #[.int .u8 0, .int .u32 0, .int .u16 0, .int .u32 0, .int .u16 0, .int .u8 0, .int .u32 0, .int .u16 0, .int .u32 0, .int .u16 0, .int .i64 0, .int .i64 0, .slice none 0 0], .int .i64 3]) (by simp only [results, Tryz.results7]; go_simp) rfl ⟨HF.out, .inl ⟨rfl, HNP.out⟩⟩
      · rcases z2 with _ | _
        · have q1 : (e1 != 0) = false := by simp [bne, hz1]
          have q2 : (e2 != 0) = true := by simp [bne, hz2]
          have y0 : v5.cell? ⟨gR, 0, none⟩ = some (.int .u8 0) := by simp [World.cell?, BR.out]
          have zy0 : v5.frozen? ⟨gR, 0, none⟩ = false := by simp [World.frozen?, BR.out]
          have y1 : v5.cell? ⟨gR, 1, none⟩ = some (.int .u32 0) := by simp [World.cell?, BR.out]
          have zy1 : v5.frozen? ⟨gR, 1, none⟩ = false := by simp [World.frozen?, BR.out]
          have y2 : v5.cell? ⟨gR, 2, none⟩ = some (.int .u16 0) := by simp [World.cell?, BR.out]
          have zy2 : v5.frozen? ⟨gR, 2, none⟩ = false := by simp [World.frozen?, BR.out]
          have y3 : v5.cell? ⟨gR, 3, none⟩ = some (.int .u32 0) := by simp [World.cell?, BR.out]
          have zy3 : v5.frozen? ⟨gR, 3, none⟩ = false := by simp [World.frozen?, BR.out]
          have y4 : v5.cell? ⟨gR, 4, none⟩ = some (.int .u16 0) := by simp [World.cell?, BR.out]
          have zy4 : v5.frozen? ⟨gR, 4, none⟩ = false := by simp [World.frozen?, BR.out]
          have y5 : v5.cell? ⟨gR, 5, none⟩ = some (.int .u8 0) := by simp [World.cell?, BR.out]
          have zy5 : v5.frozen? ⟨gR, 5, none⟩ = false := by simp [World.frozen?, BR.out]
          have y6 : v5.cell? ⟨gR, 6, none⟩ = some (.int .u32 0) := by simp [World.cell?, BR.out]
          have zy6 : v5.frozen? ⟨gR, 6, none⟩ = false := by simp [World.frozen?, BR.out]
          have y7 : v5.cell? ⟨gR, 7, none⟩ = some (.int .u16 0) := by simp [World.cell?, BR.out]
          have zy7 : v5.frozen? ⟨gR, 7, none⟩ = false := by simp [World.frozen?, BR.out]
          have y8 : v5.cell? ⟨gR, 8, none⟩ = some (.int .u32 0) := by simp [World.cell?, BR.out]
          have zy8 : v5.frozen? ⟨gR, 8, none⟩ = false := by simp [World.frozen?, BR.out]
          have y9 : v5.cell? ⟨gR, 9, none⟩ = some (.int .u16 0) := by simp [World.cell?, BR.out]
          have zy9 : v5.frozen? ⟨gR, 9, none⟩ = false := by simp [World.frozen?, BR.out]
          have y10 : v5.cell? ⟨gR, 10, none⟩ = some (.int .i64 0) := by simp [World.cell?, BR.out]
          have zy10 : v5.frozen? ⟨gR, 10, none⟩ = false := by simp [World.frozen?, BR.out]
          have y11 : v5.cell? ⟨gR, 11, none⟩ = some (.int .i64 0) := by simp [World.cell?, BR.out]
          have zy11 : v5.frozen? ⟨gR, 11, none⟩ = false := by simp [World.frozen?, BR.out]
          have y12 : v5.cell? ⟨gR, 12, none⟩ = some (.slice none 0 0) := by simp [World.cell?, BR.out]
          have zy12 : v5.frozen? ⟨gR, 12, none⟩ = false := by simp [World.frozen?, BR.out]
          go_wp2_with fail
          obtain ⟨W, hW, hb2, hf2⟩ := set13 v5 gR 31 (.int .u8 0) (.int .u32 0) (.int .u16 0) (.int .u32 0) (.int .u16 0) (.int .u8 0) (.int .u32 0) (.int .u16 0) (.int .u32 0) (.int .u16 0) (.int .i64 0) (.int .i64 0) (.slice none 0 0) BR.out (.int .u8 0) (.int .u32 0) (.int .u16 0) (.int .u32 0) (.int .u16 0) (.int .u8 0) (.int .u32 0) (.int .u16 0) (.int .u32 0) (.int .u16 0) (.int .i64 0) (.int .i64 0) (.slice none 0 0)
          rw [← hW]
          clear hW y0 zy0 y1 zy1 y2 zy2 y3 zy3 y4 zy4 y5 zy5 y6 zy6 y7 zy7 y8 zy8 y9 zy9 y10 zy10 y11 zy11 y12 zy12
          have y0 : W.cell? ⟨gR, 0, none⟩ = some (.int .u8 0) := by simp [World.cell?, hb2]
          have y1 : W.cell? ⟨gR, 1, none⟩ = some (.int .u32 0) := by simp [World.cell?, hb2]
          have y2 : W.cell? ⟨gR, 2, none⟩ = some (.int .u16 0) := by simp [World.cell?, hb2]
          have y3 : W.cell? ⟨gR, 3, none⟩ = some (.int .u32 0) := by simp [World.cell?, hb2]
          have y4 : W.cell? ⟨gR, 4, none⟩ = some (.int .u16 0) := by simp [World.cell?, hb2]
          have y5 : W.cell? ⟨gR, 5, none⟩ = some (.int .u8 0) := by simp [World.cell?, hb2]
          have y6 : W.cell? ⟨gR, 6, none⟩ = some (.int .u32 0) := by simp [World.cell?, hb2]
          have y7 : W.cell? ⟨gR, 7, none⟩ = some (.int .u16 0) := by simp [World.cell?, hb2]
          have y8 : W.cell? ⟨gR, 8, none⟩ = some (.int .u32 0) := by simp [World.cell?, hb2]
          have y9 : W.cell? ⟨gR, 9, none⟩ = some (.int .u16 0) := by simp [World.cell?, hb2]
          have y10 : W.cell? ⟨gR, 10, none⟩ = some (.int .i64 0) := by simp [World.cell?, hb2]
          have y11 : W.cell? ⟨gR, 11, none⟩ = some (.int .i64 0) := by simp [World.cell?, hb2]
          have y12 : W.cell? ⟨gR, 12, none⟩ = some (.slice none 0 0) := by simp [World.cell?, hb2]
          have HF := Lib.hid (Hm5.out.trans hf2 (fun i hi e => by have h1 : i = gR := e; have h2 := HgR.out; omega))
          have HNP := Lib.hid (N2.out (by first | rfl | trivial))
          clear hf2 hb2
          refine bodyPost_ret (v := .tuple #[.agg #[.int .u8 0, .int .u32 0, .int .u16 0, .int .u32 0, .int .u16 0, .int .u8 0, .int .u32 0, .int .u16 0, .int .u32 0, .int .u16 0, .int .i64 0, .int .i64 0, .slice none 0 0], .int .i64 3]) (by simp only [results, Tryz.results7]; go_simp) rfl ⟨HF.out, .inl ⟨rfl, HNP.out⟩⟩
        · have q1 : (e1 != 0) = false := by simp [bne, hz1]
          have q2 : (e2 != 0) = false := by simp [bne, hz2]
          have y0 : v5.cell? ⟨gR, 0, none⟩ = some (.int .u8 0) := by simp [World.cell?, BR.out]
          have zy0 : v5.frozen? ⟨gR, 0, none⟩ = false := by simp [World.frozen?, BR.out]
          have y1 : v5.cell? ⟨gR, 1, none⟩ = some (.int .u32 0) := by simp [World.cell?, BR.out]
          have zy1 : v5.frozen? ⟨gR, 1, none⟩ = false := by simp [World.frozen?, BR.out]
          have y2 : v5.cell? ⟨gR, 2, none⟩ = some (.int .u16 0) := by simp [World.cell?, BR.out]
          have zy2 : v5.frozen? ⟨gR, 2, none⟩ = false := by simp [World.frozen?, BR.out]
          have y3 : v5.cell? ⟨gR, 3, none⟩ = some (.int .u32 0) := by simp [World.cell?, BR.out]
          have zy3 : v5.frozen? ⟨gR, 3, none⟩ = false := by simp [World.frozen?, BR.out]
          have y4 : v5.cell? ⟨gR, 4, none⟩ = some (.int .u16 0) := by simp [World.cell?, BR.out]
          have zy4 : v5.frozen? ⟨gR, 4, none⟩ = false := by simp [World.frozen?, BR.out]
          have y5 : v5.cell? ⟨gR, 5, none⟩ = some (.int .u8 0) := by simp [World.cell?, BR.out]
          have zy5 : v5.frozen? ⟨gR, 5, none⟩ = false := by simp [World.frozen?, BR.out]
          have y6 : v5.cell? ⟨gR, 6, none⟩ = some (.int .u32 0) := by simp [World.cell?, BR.out]
          have zy6 : v5.frozen? ⟨gR, 6, none⟩ = false := by simp [World.frozen?, BR.out]
          have y7 : v5.cell? ⟨gR, 7, none⟩ = some (.int .u16 0) := by simp [World.cell?, BR.out]
          have zy7 : v5.frozen? ⟨gR, 7, none⟩ = false := by simp [World.frozen?, BR.out]
          have y8 : v5.cell? ⟨gR, 8, none⟩ = some (.int .u32 0) := by simp [World.cell?, BR.out]
          have zy8 : v5.frozen? ⟨gR, 8, none⟩ = false := by simp [World.frozen?, BR.out]
          have y9 : v5.cell? ⟨gR, 9, none⟩ = some (.int .u16 0) := by simp [World.cell?, BR.out]
          have zy9 : v5.frozen? ⟨gR, 9, none⟩ = false := by simp [World.frozen?, BR.out]
          have y10 : v5.cell? ⟨gR, 10, none⟩ = some (.int .i64 0) := by simp [World.cell?, BR.out]
          have zy10 : v5.frozen? ⟨gR, 10, none⟩ = false := by simp [World.frozen?, BR.out]
          have y11 : v5.cell? ⟨gR, 11, none⟩ = some (.int .i64 0) := by simp [World.cell?, BR.out]
          have zy11 : v5.frozen? ⟨gR, 11, none⟩ = false := by simp [World.frozen?, BR.out]
          have y12 : v5.cell? ⟨gR, 12, none⟩ = some (.slice none 0 0) := by simp [World.cell?, BR.out]
          have zy12 : v5.frozen? ⟨gR, 12, none⟩ = false := by simp [World.frozen?, BR.out]
          go_wp2_with fail
          obtain ⟨W, hW, hb2, hf2⟩ := set13 v5 gR 31 (.int .u8 0) (.int .u32 0) (.int .u16 0) (.int .u32 0) (.int .u16 0) (.int .u8 0) (.int .u32 0) (.int .u16 0) (.int .u32 0) (.int .u16 0) (.int .i64 0) (.int .i64 0) (.slice none 0 0) BR.out (.int .u8 0) (.int .u32 0) (.int .u16 0) (.int .u32 0) (.int .u16 0) (.int .u8 0) (.int .u32 0) (.int .u16 0) (.int .u32 0) (.int .u16 0) (.int .i64 0) (.int .i64 0) (.slice none 0 0)
          rw [← hW]
          clear hW y0 zy0 y1 zy1 y2 zy2 y3 zy3 y4 zy4 y5 zy5 y6 zy6 y7 zy7 y8 zy8 y9 zy9 y10 zy10 y11 zy11 y12 zy12
          have y0 : W.cell? ⟨gR, 0, none⟩ = some (.int .u8 0) := by simp [World.cell?, hb2]
          have y1 : W.cell? ⟨gR, 1, none⟩ = some (.int .u32 0) := by simp [World.cell?, hb2]
          have y2 : W.cell? ⟨gR, 2, none⟩ = some (.int .u16 0) := by simp [World.cell?, hb2]
          have y3 : W.cell? ⟨gR, 3, none⟩ = some (.int .u32 0) := by simp [World.cell?, hb2]
          have y4 : W.cell? ⟨gR, 4, none⟩ = some (.int .u16 0) := by simp [World.cell?, hb2]
          have y5 : W.cell? ⟨gR, 5, none⟩ = some (.int .u8 0) := by simp [World.cell?, hb2]
          have y6 : W.cell? ⟨gR, 6, none⟩ = some (.int .u32 0) := by simp [World.cell?, hb2]
          have y7 : W.cell? ⟨gR, 7, none⟩ = some (.int .u16 0) := by simp [World.cell?, hb2]
          have y8 : W.cell? ⟨gR, 8, none⟩ = some (.int .u32 0) := by simp [World.cell?, hb2]
          have y9 : W.cell? ⟨gR, 9, none⟩ = some (.int .u16 0) := by simp [World.cell?, hb2]
          have y10 : W.cell? ⟨gR, 10, none⟩ = some (.int .i64 0) := by simp [World.cell?, hb2]
          have y11 : W.cell? ⟨gR, 11, none⟩ = some (.int .i64 0) := by simp [World.cell?, hb2]
          have y12 : W.cell? ⟨gR, 12, none⟩ = some (.slice none 0 0) := by simp [World.cell?, hb2]
          have HF := Lib.hid (Hm5.out.trans hf2 (fun i hi e => by have h1 : i = gR := e; have h2 := HgR.out; omega))
          have HNP := Lib.hid (N3.out hz3)
          clear hf2 hb2
          refine bodyPost_ret (v := .tuple #[.agg #[.int .u8 0, .int .u32 0, .int .u16 0, .int .u32 0, .int .u16 0, .int .u8 0, .int .u32 0, .int .u16 0, .int .u32 0, .int .u16 0, .int .i64 0, .int .i64 0, .slice none 0 0], .int .i64 3]) (by simp only [results, Tryz.results7]; go_simp) rfl ⟨HF.out, .inl ⟨rfl, HNP.out⟩⟩
end Go.Proofs.YtdmbjndhdldggaaGreatDoor
