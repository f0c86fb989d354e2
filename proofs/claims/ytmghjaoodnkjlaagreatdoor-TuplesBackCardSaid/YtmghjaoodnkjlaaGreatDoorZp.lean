/- Chapter 18, 08: the document's reading of a tuple (written by genzp.py). -/
import Derived.Test.YtmghjaoodnkjlaaGreatDoorZx
import Derived.Test.YtmghjaoodnkjlaaGreatDoorZc
import Derived.Test.YtmghjaoodnkjlaaGreatDoorEpT
namespace Go.Proofs.YtmghjaoodnkjlaaGreatDoor
set_option linter.unusedVariables false
set_option linter.unusedSimpArgs false
open Go.RowKit Go.Lib Go.Sort
theorem cutV_val (o : Option (List UInt8 × List UInt8)) : ∃ (x y : List UInt8) (t : Bool), cutV o = .tuple #[str x, str y, .bool t] ∧ (t = true → o = some (x, y)) ∧ (t = false → o = none ∧ x = [] ∧ y = []) := by
  rcases o with _ | ⟨x, y⟩
  · exact ⟨[], [], false, rfl, (fun h => by cases h), fun _ => ⟨rfl, rfl, rfl⟩⟩
  · exact ⟨x, y, true, rfl, fun _ => rfl, fun h => by cases h⟩
theorem tup_none {l : List UInt8} (h : ∀ k a p b q, tupOf l ≠ some (k, a, p, b, q)) : tupOf l = none := by
  rcases ht : tupOf l with _ | ⟨k, a, p, b, q⟩
  · rfl
  · exact absurd ht (h k a p b q)
theorem tup_cut {l x y : List UInt8} (h : cutLast 32 l = some (x, y)) {n s : List UInt8} (h2 : cutLast 32 x = some (n, s)) {a p b q : Nat} (h3 : withOf 58 65535 s = some (a, p)) (h4 : withOf 58 65535 y = some (b, q)) :
    tupOf l = match wordNo n with | some k => if tupB k p q = true then some (k, a, p, b, q) else none | none => none := by
  rw [← rtupR_eq]
  unfold rtupR
  rw [h]
  dsimp only
  rw [h2]
  dsimp only
  rw [h3, h4]
  rcases wordNo n with _ | k <;> rfl
theorem cutLast_le {c : UInt8} {l x y : List UInt8} (h : cutLast c l = some (x, y)) : x.length ≤ l.length ∧ y.length ≤ l.length := by
  have := (cutLast_some.1 h).1
  rw [this]; simp; omega

set_option maxHeartbeats 8000000 in
set_option maxRecDepth 100000 in
theorem rtup_parse (l : List UInt8) (hl : l.length ≤ 4294967000) (w : World) : Calls Tryz.prog 15 #[str l] w (Ret1 (tupRV (tupOf l)) w) := by
  have Hl := Lib.hid hl
  have kw : ∀ (k : Nat) (W : World), Calls Tryz.prog 41 #[.int .u8 k] W (Ret1 (str (wordOf k)) W) := fun k W => (word_ok k W).mono fun e w' ⟨h1, h2⟩ => ⟨h1, by rw [h2]; exact Fp.refl _ _⟩
  obtain ⟨rest, dst, ok, hv1, ht1, hf1⟩ := cutV_val (cutLast 32 l)
  obtain ⟨nm, src, is, hv2, ht2, hf2⟩ := cutV_val (cutLast 32 rest)
  have hlr : rest.length ≤ 4294967000 ∧ dst.length ≤ 4294967000 := by
    rcases ok with _ | _
    · obtain ⟨_, rfl, rfl⟩ := hf1 rfl; simp
    · have := cutLast_le (ht1 rfl); omega
  have hln : nm.length ≤ 4294967000 ∧ src.length ≤ 4294967000 := by
    rcases is with _ | _
    · obtain ⟨_, rfl, rfl⟩ := hf2 rfl; simp
    · have := cutLast_le (ht2 rfl); omega
  have k1 := fun W => rt_cut l hl 32 W
  have k2 := fun W => rt_cut rest hlr.1 32 W
  rw [hv1] at k1
  rw [hv2] at k2
  obtain ⟨a, p, e1, z1, hp1, hz1, hs1, hn1⟩ := pt_val (withOf 58 65535 src)
  obtain ⟨b, q, e2, z2, hp2, hz2, hs2, hn2⟩ := pt_val (withOf 58 65535 dst)
  have k3 := fun W => rt_point src hln.2 W
  have k4 := fun W => rt_point dst hlr.2 W
  rw [hp1] at k3
  rw [hp2] at k4
  have hno : (ok = false ∨ is = false ∨ z1 = false ∨ z2 = false) → tupOf l = none := by
    intro h
    rw [← rtupR_eq]
    unfold rtupR
    rcases ok with _ | _
    · rw [(hf1 rfl).1]
    rw [ht1 rfl]
    dsimp only
    rcases is with _ | _
    · rw [(hf2 rfl).1]
    rw [ht2 rfl]
    dsimp only
    rcases z1 with _ | _
    · rw [hn1 rfl]; rcases wordNo nm with _ | k <;> rfl
    rcases z2 with _ | _
    · rw [hn2 rfl]; rcases wordNo nm with _ | k <;> rcases withOf 58 65535 src with _ | ⟨x, y⟩ <;> rfl
    · simp at h
  have hyes : ok = true → is = true → z1 = true → z2 = true → tupOf l = match wordNo nm with | some k => if tupB k p q = true then some (k, a, p, b, q) else none | none => none :=
    fun h1 h2 h3 h4 => tup_cut (ht1 h1) (ht2 h2) (hs1 h3) (hs2 h4)
  have K1 := Lib.hid k1
  have K2 := Lib.hid k2
  have K3 := Lib.hid k3
  have K4 := Lib.hid k4
  have KW := Lib.hid kw
  have Hno := Lib.hid hno
  have Hyes := Lib.hid hyes
  clear k1 k2 k3 k4 kw hno hyes ht1 hf1 ht2 hf2 hlr hln hv1 hv2 hp1 hp2 hs1 hn1 hs2 hn2
  go_enter Tryz.func15, Tryz.ntmps15
  go_wp2_with fail
  have hw0 : NoW w (w.alloc (.cells #[.int .u8 0, .int .u32 0, .int .u16 0, .int .u32 0, .int .u16 0] 29)) := (Fp.refl _ _).alloc _
  have hb0 := heap_alloc_new w (.cells #[.int .u8 0, .int .u32 0, .int .u16 0, .int .u32 0, .int .u16 0] 29)
  generalize w.alloc (.cells #[.int .u8 0, .int .u32 0, .int .u16 0, .int .u32 0, .int .u16 0] 29) = w0 at *
  obtain ⟨gR, hgR⟩ : ∃ gR, gR = w.heap.size := ⟨_, rfl⟩
  rw [← hgR] at hb0 ⊢
  have HgR := Lib.hid (show w.heap.size ≤ gR by omega)
  have BR := Lib.hid hb0
  have Hn0 := Lib.hid hw0
  clear hb0 hw0 hgR
  refine (K1.out _).mono ?_
  rintro e v0 ⟨rfl, hp⟩
  have Hm0 := Lib.hid (Hn0.out.trans hp (fun _ _ h => h))
  have hb := (hp.block _ (Array.getElem?_eq_some_iff.1 BR.out).1 id).trans BR.out
  clear BR
  have BR := Lib.hid hb
  clear hb
  clear hp Hn0
  go_wp2_with fail
  refine (K2.out _).mono ?_
  rintro e v1 ⟨rfl, hp⟩
  have Hm1 := Lib.hid (Hm0.out.trans hp (fun _ _ h => h))
  have hb := (hp.block _ (Array.getElem?_eq_some_iff.1 BR.out).1 id).trans BR.out
  clear BR
  have BR := Lib.hid hb
  clear hb
  clear hp Hm0
  go_wp2_with fail
  refine (K3.out _).mono ?_
  rintro e v2 ⟨rfl, hp⟩
  have Hm2 := Lib.hid (Hm1.out.trans hp (fun _ _ h => h))
  have hb := (hp.block _ (Array.getElem?_eq_some_iff.1 BR.out).1 id).trans BR.out
  clear BR
  have BR := Lib.hid hb
  clear hb
  clear hp Hm1
  go_wp2_with fail
  have hq : NoW v2 (v2.alloc (.cells #[.int .u32 a, .int .u16 p] 27)) := (Fp.refl _ _).alloc _
  have Hq0 := Lib.hid (Hm2.out.trans hq (fun _ _ h => h))
  have hb := (hq.block _ (Array.getElem?_eq_some_iff.1 BR.out).1 id).trans BR.out
  clear BR
  have BR := Lib.hid hb
  clear hb
  have hb : (v2.alloc (.cells #[.int .u32 a, .int .u16 p] 27)).heap[v2.heap.size]? = some (.cells #[.int .u32 a, .int .u16 p] 27) := by simpa using heap_alloc_new v2 (.cells #[.int .u32 a, .int .u16 p] 27)
  have BA := Lib.hid hb
  clear hb hq Hm2
  generalize (v2.alloc (.cells #[.int .u32 a, .int .u16 p] 27)) = x0 at *
  generalize v2.heap.size = gBA at *
  refine (K4.out _).mono ?_
  rintro e v3 ⟨rfl, hp⟩
  have Hm3 := Lib.hid (Hq0.out.trans hp (fun _ _ h => h))
  have hb := (hp.block _ (Array.getElem?_eq_some_iff.1 BR.out).1 id).trans BR.out
  clear BR
  have BR := Lib.hid hb
  clear hb
  have hb := (hp.block _ (Array.getElem?_eq_some_iff.1 BA.out).1 id).trans BA.out
  clear BA
  have BA := Lib.hid hb
  clear hb
  clear hp Hq0
  rcases ok with _ | _
  · have q0 : True := trivial
    have y0 : v3.cell? ⟨gR, 0, none⟩ = some (.int .u8 0) := by simp [World.cell?, BR.out]
    have zy0 : v3.frozen? ⟨gR, 0, none⟩ = false := by simp [World.frozen?, BR.out]
    have y1 : v3.cell? ⟨gR, 1, none⟩ = some (.int .u32 0) := by simp [World.cell?, BR.out]
    have zy1 : v3.frozen? ⟨gR, 1, none⟩ = false := by simp [World.frozen?, BR.out]
    have y2 : v3.cell? ⟨gR, 2, none⟩ = some (.int .u16 0) := by simp [World.cell?, BR.out]
    have zy2 : v3.frozen? ⟨gR, 2, none⟩ = false := by simp [World.frozen?, BR.out]
    have y3 : v3.cell? ⟨gR, 3, none⟩ = some (.int .u32 0) := by simp [World.cell?, BR.out]
    have zy3 : v3.frozen? ⟨gR, 3, none⟩ = false := by simp [World.frozen?, BR.out]
    have y4 : v3.cell? ⟨gR, 4, none⟩ = some (.int .u16 0) := by simp [World.cell?, BR.out]
    have zy4 : v3.frozen? ⟨gR, 4, none⟩ = false := by simp [World.frozen?, BR.out]
    have lR := cell_lt y0
    go_wp2_with fail
    obtain ⟨W, hW, hb2, hf2⟩ := set5 v3 gR 29 (.int .u8 0) (.int .u32 0) (.int .u16 0) (.int .u32 0) (.int .u16 0) BR.out (.int .u8 0) (.int .u32 0) (.int .u16 0) (.int .u32 0) (.int .u16 0)
    rw [← hW]
    clear hW
    clear lR y0 zy0 y1 zy1 y2 zy2 y3 zy3 y4 zy4
    have y0 : W.cell? ⟨gR, 0, none⟩ = some (.int .u8 0) := by simp [World.cell?, hb2]
    have y1 : W.cell? ⟨gR, 1, none⟩ = some (.int .u32 0) := by simp [World.cell?, hb2]
    have y2 : W.cell? ⟨gR, 2, none⟩ = some (.int .u16 0) := by simp [World.cell?, hb2]
    have y3 : W.cell? ⟨gR, 3, none⟩ = some (.int .u32 0) := by simp [World.cell?, hb2]
    have y4 : W.cell? ⟨gR, 4, none⟩ = some (.int .u16 0) := by simp [World.cell?, hb2]
    have lR : gR < W.heap.size := cell_lt y0
    have HF := Lib.hid ((Hm3.out).trans hf2 (fun i hi e => by have h1 : i = gR := e; have h2 := HgR.out; omega))
    clear hf2 hb2
    refine bodyPost_ret (v := .tuple #[.agg #[.int .u8 0, .int .u32 0, .int .u16 0, .int .u32 0, .int .u16 0], .int .i64 3]) (by simp only [results, Tryz.results15]; go_simp) rfl ⟨by rw [Hno.out (by simp)]; rfl, HF.out.alloc _⟩
  · rcases is with _ | _
    · have q0 : True := trivial
      have y0 : v3.cell? ⟨gR, 0, none⟩ = some (.int .u8 0) := by simp [World.cell?, BR.out]
      have zy0 : v3.frozen? ⟨gR, 0, none⟩ = false := by simp [World.frozen?, BR.out]
      have y1 : v3.cell? ⟨gR, 1, none⟩ = some (.int .u32 0) := by simp [World.cell?, BR.out]
      have zy1 : v3.frozen? ⟨gR, 1, none⟩ = false := by simp [World.frozen?, BR.out]
      have y2 : v3.cell? ⟨gR, 2, none⟩ = some (.int .u16 0) := by simp [World.cell?, BR.out]
      have zy2 : v3.frozen? ⟨gR, 2, none⟩ = false := by simp [World.frozen?, BR.out]
      have y3 : v3.cell? ⟨gR, 3, none⟩ = some (.int .u32 0) := by simp [World.cell?, BR.out]
      have zy3 : v3.frozen? ⟨gR, 3, none⟩ = false := by simp [World.frozen?, BR.out]
      have y4 : v3.cell? ⟨gR, 4, none⟩ = some (.int .u16 0) := by simp [World.cell?, BR.out]
      have zy4 : v3.frozen? ⟨gR, 4, none⟩ = false := by simp [World.frozen?, BR.out]
      have lR := cell_lt y0
      go_wp2_with fail
      obtain ⟨W, hW, hb2, hf2⟩ := set5 v3 gR 29 (.int .u8 0) (.int .u32 0) (.int .u16 0) (.int .u32 0) (.int .u16 0) BR.out (.int .u8 0) (.int .u32 0) (.int .u16 0) (.int .u32 0) (.int .u16 0)
      rw [← hW]
      clear hW
      clear lR y0 zy0 y1 zy1 y2 zy2 y3 zy3 y4 zy4
      have y0 : W.cell? ⟨gR, 0, none⟩ = some (.int .u8 0) := by simp [World.cell?, hb2]
      have y1 : W.cell? ⟨gR, 1, none⟩ = some (.int .u32 0) := by simp [World.cell?, hb2]
      have y2 : W.cell? ⟨gR, 2, none⟩ = some (.int .u16 0) := by simp [World.cell?, hb2]
      have y3 : W.cell? ⟨gR, 3, none⟩ = some (.int .u32 0) := by simp [World.cell?, hb2]
      have y4 : W.cell? ⟨gR, 4, none⟩ = some (.int .u16 0) := by simp [World.cell?, hb2]
      have lR : gR < W.heap.size := cell_lt y0
      have HF := Lib.hid ((Hm3.out).trans hf2 (fun i hi e => by have h1 : i = gR := e; have h2 := HgR.out; omega))
      clear hf2 hb2
      refine bodyPost_ret (v := .tuple #[.agg #[.int .u8 0, .int .u32 0, .int .u16 0, .int .u32 0, .int .u16 0], .int .i64 3]) (by simp only [results, Tryz.results15]; go_simp) rfl ⟨by rw [Hno.out (by simp)]; rfl, HF.out.alloc _⟩
    · rcases z1 with _ | _
      · have q1 : (e1 != 0) = true := by simp [bne, hz1]
        have y0 : v3.cell? ⟨gR, 0, none⟩ = some (.int .u8 0) := by simp [World.cell?, BR.out]
        have zy0 : v3.frozen? ⟨gR, 0, none⟩ = false := by simp [World.frozen?, BR.out]
        have y1 : v3.cell? ⟨gR, 1, none⟩ = some (.int .u32 0) := by simp [World.cell?, BR.out]
        have zy1 : v3.frozen? ⟨gR, 1, none⟩ = false := by simp [World.frozen?, BR.out]
        have y2 : v3.cell? ⟨gR, 2, none⟩ = some (.int .u16 0) := by simp [World.cell?, BR.out]
        have zy2 : v3.frozen? ⟨gR, 2, none⟩ = false := by simp [World.frozen?, BR.out]
        have y3 : v3.cell? ⟨gR, 3, none⟩ = some (.int .u32 0) := by simp [World.cell?, BR.out]
        have zy3 : v3.frozen? ⟨gR, 3, none⟩ = false := by simp [World.frozen?, BR.out]
        have y4 : v3.cell? ⟨gR, 4, none⟩ = some (.int .u16 0) := by simp [World.cell?, BR.out]
        have zy4 : v3.frozen? ⟨gR, 4, none⟩ = false := by simp [World.frozen?, BR.out]
        have lR := cell_lt y0
        go_wp2_with fail
        obtain ⟨W, hW, hb2, hf2⟩ := set5 v3 gR 29 (.int .u8 0) (.int .u32 0) (.int .u16 0) (.int .u32 0) (.int .u16 0) BR.out (.int .u8 0) (.int .u32 0) (.int .u16 0) (.int .u32 0) (.int .u16 0)
        rw [← hW]
        clear hW
        clear lR y0 zy0 y1 zy1 y2 zy2 y3 zy3 y4 zy4
        have y0 : W.cell? ⟨gR, 0, none⟩ = some (.int .u8 0) := by simp [World.cell?, hb2]
        have y1 : W.cell? ⟨gR, 1, none⟩ = some (.int .u32 0) := by simp [World.cell?, hb2]
        have y2 : W.cell? ⟨gR, 2, none⟩ = some (.int .u16 0) := by simp [World.cell?, hb2]
        have y3 : W.cell? ⟨gR, 3, none⟩ = some (.int .u32 0) := by simp [World.cell?, hb2]
        have y4 : W.cell? ⟨gR, 4, none⟩ = some (.int .u16 0) := by simp [World.cell?, hb2]
        have lR : gR < W.heap.size := cell_lt y0
        have HF := Lib.hid ((Hm3.out).trans hf2 (fun i hi e => by have h1 : i = gR := e; have h2 := HgR.out; omega))
        clear hf2 hb2
        refine bodyPost_ret (v := .tuple #[.agg #[.int .u8 0, .int .u32 0, .int .u16 0, .int .u32 0, .int .u16 0], .int .i64 3]) (by simp only [results, Tryz.results15]; go_simp) rfl ⟨by rw [Hno.out (by simp)]; rfl, HF.out.alloc _⟩
      · rcases z2 with _ | _
        · have q1 : (e1 != 0) = false := by simp [bne, hz1]
          have q2 : (e2 != 0) = true := by simp [bne, hz2]
          have y0 : v3.cell? ⟨gR, 0, none⟩ = some (.int .u8 0) := by simp [World.cell?, BR.out]
          have zy0 : v3.frozen? ⟨gR, 0, none⟩ = false := by simp [World.frozen?, BR.out]
          have y1 : v3.cell? ⟨gR, 1, none⟩ = some (.int .u32 0) := by simp [World.cell?, BR.out]
          have zy1 : v3.frozen? ⟨gR, 1, none⟩ = false := by simp [World.frozen?, BR.out]
          have y2 : v3.cell? ⟨gR, 2, none⟩ = some (.int .u16 0) := by simp [World.cell?, BR.out]
          have zy2 : v3.frozen? ⟨gR, 2, none⟩ = false := by simp [World.frozen?, BR.out]
          have y3 : v3.cell? ⟨gR, 3, none⟩ = some (.int .u32 0) := by simp [World.cell?, BR.out]
          have zy3 : v3.frozen? ⟨gR, 3, none⟩ = false := by simp [World.frozen?, BR.out]
          have y4 : v3.cell? ⟨gR, 4, none⟩ = some (.int .u16 0) := by simp [World.cell?, BR.out]
          have zy4 : v3.frozen? ⟨gR, 4, none⟩ = false := by simp [World.frozen?, BR.out]
          have lR := cell_lt y0
          go_wp2_with fail
          obtain ⟨W, hW, hb2, hf2⟩ := set5 v3 gR 29 (.int .u8 0) (.int .u32 0) (.int .u16 0) (.int .u32 0) (.int .u16 0) BR.out (.int .u8 0) (.int .u32 0) (.int .u16 0) (.int .u32 0) (.int .u16 0)
          rw [← hW]
          clear hW
          clear lR y0 zy0 y1 zy1 y2 zy2 y3 zy3 y4 zy4
          have y0 : W.cell? ⟨gR, 0, none⟩ = some (.int .u8 0) := by simp [World.cell?, hb2]
          have y1 : W.cell? ⟨gR, 1, none⟩ = some (.int .u32 0) := by simp [World.cell?, hb2]
          have y2 : W.cell? ⟨gR, 2, none⟩ = some (.int .u16 0) := by simp [World.cell?, hb2]
          have y3 : W.cell? ⟨gR, 3, none⟩ = some (.int .u32 0) := by simp [World.cell?, hb2]
          have y4 : W.cell? ⟨gR, 4, none⟩ = some (.int .u16 0) := by simp [World.cell?, hb2]
          have lR : gR < W.heap.size := cell_lt y0
          have HF := Lib.hid ((Hm3.out).trans hf2 (fun i hi e => by have h1 : i = gR := e; have h2 := HgR.out; omega))
          clear hf2 hb2
          refine bodyPost_ret (v := .tuple #[.agg #[.int .u8 0, .int .u32 0, .int .u16 0, .int .u32 0, .int .u16 0], .int .i64 3]) (by simp only [results, Tryz.results15]; go_simp) rfl ⟨by rw [Hno.out (by simp)]; rfl, HF.out.alloc _⟩
        · have q1 : (e1 != 0) = false := by simp [bne, hz1]
          have q2 : (e2 != 0) = false := by simp [bne, hz2]
          have HY := Lib.hid (Hyes.out rfl rfl rfl rfl)
          go_wp2_with fail
          have hqB : NoW v3 ((v3.alloc (.cells #[.int .u32 b, .int .u16 q] 27)).alloc (.cells #[.int .u8 1, .int .u8 6, .int .u8 17] 94)) := ((Fp.refl _ _).alloc _).alloc _
          obtain ⟨hbB, hb3⟩ := box2 v3 (.cells #[.int .u32 b, .int .u16 q] 27) (.cells #[.int .u8 1, .int .u8 6, .int .u8 17] 94)
          have hbA := (hqB.block _ (Array.getElem?_eq_some_iff.1 BA.out).1 id).trans BA.out
          have hbR := (hqB.block _ (Array.getElem?_eq_some_iff.1 BR.out).1 id).trans BR.out
          have hnq := Hm3.out.trans hqB (fun _ _ h => h)
          generalize (v3.alloc (.cells #[.int .u32 b, .int .u16 q] 27)).alloc (.cells #[.int .u8 1, .int .u8 6, .int .u8 17] 94) = wL at *
          generalize v3.heap.size + 1 = gP at *
          generalize v3.heap.size = gBB at *
          have CP := Lib.hid hb3
          have CA := Lib.hid hbA
          have CB := Lib.hid hbB
          have CR := Lib.hid hbR
          have HL := Lib.hid hnq
          clear hqB hb3 hbA hbB hbR hnq BA BR Hm3
          go_loopg [15, 16] 4 (fun gg iv s16 wx => ∃ i : Nat, i ≤ 3 ∧ gg = 4 - i ∧ iv = .int .i64 (i : Int) ∧ (∀ j k, j < i → [1, 6, 17][j]? = some k → nm = wordOf k → tupB k p q = false) ∧ NoW wL wx)
          case atStart => exact ⟨0, by omega, by omega, rfl, fun j k hj => by omega, Fp.refl _ _⟩
          case round =>
            obtain ⟨i, hi3, hg, rfl, hall, hf⟩ := hrel
            have Hg := Lib.hid hg
            have Hall := Lib.hid hall
            have Hf := Lib.hid hf
            clear hg hall hf
            have hbP := (Hf.out.block _ (Array.getElem?_eq_some_iff.1 CP.out).1 id).trans CP.out
            have hbA := (Hf.out.block _ (Array.getElem?_eq_some_iff.1 CA.out).1 id).trans CA.out
            have hbB := (Hf.out.block _ (Array.getElem?_eq_some_iff.1 CB.out).1 id).trans CB.out
            have hbR := (Hf.out.block _ (Array.getElem?_eq_some_iff.1 CR.out).1 id).trans CR.out
            rcases i with _ | _ | _ | _ | i
            · have xp : wr.cell? ⟨gP, 0, none⟩ = some (.int .u8 1) := by simp [World.cell?, hbP]
              have xa0 : wr.cell? ⟨gBA, 0, none⟩ = some (.int .u32 a) := by simp [World.cell?, hbA]
              have xa1 : wr.cell? ⟨gBA, 1, none⟩ = some (.int .u16 p) := by simp [World.cell?, hbA]
              have xb0 : wr.cell? ⟨gBB, 0, none⟩ = some (.int .u32 b) := by simp [World.cell?, hbB]
              have xb1 : wr.cell? ⟨gBB, 1, none⟩ = some (.int .u16 q) := by simp [World.cell?, hbB]
              have lp := cell_lt xp
              have la := cell_lt xa0
              have lb := cell_lt xb0
              have BP := Lib.hid hbP
              have BA := Lib.hid hbA
              have BB := Lib.hid hbB
              have BR := Lib.hid hbR
              clear hbP hbA hbB hbR
              go_wp2_with fail
              refine wp_region_held_drew (S := fun wx => NoW wr wx) (by kernel_rfl) (Fp.drew (Fp.refl _ _)) (fun hHeld => ?_)
              (refine take_at 0 (some 59) rfl rfl (by kernel_rfl) (by kernel_rfl) (by kernel_rfl) (fun _ _ _ h => h) (v := ?_) (by kernel_rfl) ?_ (by assumption) ?_; rotate_left; (focus (intro wS hSw; skip; go_simp; try with_reducible rfl)); (try simp only [Act.put, List.setIfInBounds_toArray, List.set_cons_zero, List.set_cons_succ]))
              (refine take_at 1 (some 60) rfl rfl (by kernel_rfl) (by kernel_rfl) (by kernel_rfl) (fun _ _ _ h => h) (v := ?_) (by kernel_rfl) ?_ (by assumption) ?_; rotate_left; (focus (intro wS hSw; skip; go_simp; try with_reducible rfl)); (try simp only [Act.put, List.setIfInBounds_toArray, List.set_cons_zero, List.set_cons_succ]))
              (refine take_at 2 (some 61) rfl rfl (by kernel_rfl) (by kernel_rfl) (by kernel_rfl) (fun _ _ _ h => h) (v := ?_) (by kernel_rfl) ?_ (by assumption) ?_; rotate_left; (focus (intro wS hSw; (have qp := (hSw.cell (p := ⟨gP, 0, none⟩) lp id).trans xp); go_simp; try with_reducible rfl)); (try simp only [Act.put, List.setIfInBounds_toArray, List.set_cons_zero, List.set_cons_succ]))
              (refine take_at 3 (some 62) rfl rfl (by kernel_rfl) (by kernel_rfl) (by kernel_rfl) (fun _ _ _ h => h) (v := ?_) (by kernel_rfl) ?_ (by assumption) ?_; rotate_left; (focus (intro wS hSw; (have qa0 := (hSw.cell (p := ⟨gBA, 0, none⟩) la id).trans xa0); (have qa1 := (hSw.cell (p := ⟨gBA, 1, none⟩) la id).trans xa1); go_simp; try with_reducible rfl)); (try simp only [Act.put, List.setIfInBounds_toArray, List.set_cons_zero, List.set_cons_succ]))
              (refine take_at 4 (some 63) rfl rfl (by kernel_rfl) (by kernel_rfl) (by kernel_rfl) (fun _ _ _ h => h) (v := ?_) (by kernel_rfl) ?_ (by assumption) ?_; rotate_left; (focus (intro wS hSw; (have qb0 := (hSw.cell (p := ⟨gBB, 0, none⟩) lb id).trans xb0); (have qb1 := (hSw.cell (p := ⟨gBB, 1, none⟩) lb id).trans xb1); go_simp; try with_reducible rfl)); (try simp only [Act.put, List.setIfInBounds_toArray, List.set_cons_zero, List.set_cons_succ]))
              (refine take_at 5 (some 64) rfl rfl (by kernel_rfl) (by kernel_rfl) (by kernel_rfl) (fun _ _ _ h => h) (v := ?_) (by kernel_rfl) ?_ (by assumption) ?_; rotate_left; (focus (intro wS hSw; skip; go_simp; try with_reducible rfl)); (try simp only [Act.put, List.setIfInBounds_toArray, List.set_cons_zero, List.set_cons_succ]))
              refine wpAnyH_ready (rs := [6]) (by kernel_rfl) (by simp) ?_
              refine AllReadyH.cons rfl (fun K hK => ?_) AllReadyH.nil
              go_simp
              have hbN0 := heap_alloc_new wr (.cells #[.int .u8 0, .int .u32 0, .int .u16 0, .int .u32 0, .int .u16 0] 29)
              have hbN : (wr.alloc (.cells #[.int .u8 0, .int .u32 0, .int .u16 0, .int .u32 0, .int .u16 0] 29)).drew.heap[wr.heap.size]? = some (.cells #[.int .u8 0, .int .u32 0, .int .u16 0, .int .u32 0, .int .u16 0] 29) := hbN0
              clear hbN0
              refine hK.out _ _ (show NoW wr ((wr.alloc (.cells #[.int .u8 0, .int .u32 0, .int .u16 0, .int .u32 0, .int .u16 0] 29)).drew) from Fp.drew ((Fp.refl _ _).alloc _)) (fun hHeld2 => ?_)
              clear hK K hHeld
              try simp only [Act.put, List.setIfInBounds_toArray, List.set_cons_zero, List.set_cons_succ]
              generalize (wr.alloc (.cells #[.int .u8 0, .int .u32 0, .int .u16 0, .int .u32 0, .int .u16 0] 29)).drew = wN at *
              obtain ⟨gN, hgN⟩ : ∃ gN, gN = wr.heap.size := ⟨_, rfl⟩
              rw [← hgN] at hbN ⊢
              have hge : wr.heap.size ≤ gN := by omega
              clear hgN
              have n0 : wN.cell? ⟨gN, 0, none⟩ = some (.int .u8 0) := by simp [World.cell?, hbN]
              have zn0 : wN.frozen? ⟨gN, 0, none⟩ = false := by simp [World.frozen?, hbN]
              have n1 : wN.cell? ⟨gN, 1, none⟩ = some (.int .u32 0) := by simp [World.cell?, hbN]
              have zn1 : wN.frozen? ⟨gN, 1, none⟩ = false := by simp [World.frozen?, hbN]
              have n2 : wN.cell? ⟨gN, 2, none⟩ = some (.int .u16 0) := by simp [World.cell?, hbN]
              have zn2 : wN.frozen? ⟨gN, 2, none⟩ = false := by simp [World.frozen?, hbN]
              have n3 : wN.cell? ⟨gN, 3, none⟩ = some (.int .u32 0) := by simp [World.cell?, hbN]
              have zn3 : wN.frozen? ⟨gN, 3, none⟩ = false := by simp [World.frozen?, hbN]
              have n4 : wN.cell? ⟨gN, 4, none⟩ = some (.int .u16 0) := by simp [World.cell?, hbN]
              have zn4 : wN.frozen? ⟨gN, 4, none⟩ = false := by simp [World.frozen?, hbN]
              have lN := cell_lt n0
              refine wpAnyH_ready (rs := [7]) (by kernel_rfl) (by simp) ?_
              refine AllReadyH.cons rfl (fun K hK => ?_) AllReadyH.nil
              go_simp
              obtain ⟨W, hW, hb2, hf2⟩ := set5 wN gN 29 (.int .u8 0) (.int .u32 0) (.int .u16 0) (.int .u32 0) (.int .u16 0) hbN (.int .u8 1) (.int .u32 a) (.int .u16 p) (.int .u32 b) (.int .u16 q)
              rw [← hW]
              clear hW
              have hSW : NoW wr W := hHeld2.trans hf2 (fun i hi e => by have h1 : i = gN := e; omega)
              refine hK.out _ _ hSW (fun hHeld => ?_)
              clear hK K hf2 lN n0 zn0 n1 zn1 n2 zn2 n3 zn3 n4 zn4 hHeld2 hbN
              try simp only [Act.put, List.setIfInBounds_toArray, List.set_cons_zero, List.set_cons_succ]
              refine wpAnyH_done (by kernel_rfl) ?_ _
              have xp9 : W.cell? ⟨gP, 0, none⟩ = some (.int .u8 1) := (hSW.cell lp id).trans xp
              have lp9 := cell_lt xp9
              have BN := Lib.hid hb2
              have HSW := Lib.hid hSW
              clear hb2 hSW hHeld xp xa0 xa1 xb0 xb1 lp la lb
              go_wp2_with fail
              refine (KW.out 1 _).mono ?_
              rintro e w7 ⟨rfl, hp⟩
              have hn7 := HSW.out.trans hp (fun _ _ h => h)
              have hb7 := (hp.block _ (Array.getElem?_eq_some_iff.1 BN.out).1 id).trans BN.out
              have HN7 := Lib.hid hn7
              have B7 := Lib.hid hb7
              clear hp hn7 hb7 BN HSW xp9 lp9
              have t0 : w7.cell? ⟨gN, 0, none⟩ = some (.int .u8 1) := by simp [World.cell?, B7.out]
              have t1 : w7.cell? ⟨gN, 1, none⟩ = some (.int .u32 a) := by simp [World.cell?, B7.out]
              have t2 : w7.cell? ⟨gN, 2, none⟩ = some (.int .u16 p) := by simp [World.cell?, B7.out]
              have t3 : w7.cell? ⟨gN, 3, none⟩ = some (.int .u32 b) := by simp [World.cell?, B7.out]
              have t4 : w7.cell? ⟨gN, 4, none⟩ = some (.int .u16 q) := by simp [World.cell?, B7.out]
              have lt7 := cell_lt t0
              rcases hnm : (wordOf 1 == nm) with _ | _
              · have HX := Lib.hid HN7.out
                have Hneq := Lib.hid (show nm ≠ wordOf 1 from fun h => by have := beq_eq_false_iff_ne.1 hnm; exact this h.symm)
                skip
                go_wp2_with fail
                clear t0 t1 t2 t3 t4 lt7
                go_roundg (3)
                case measure => have := Hg.out; omega
                case rel => exact ⟨1, by omega, by omega, by go_num, fun jj kk hjj hk hn => by
                    by_cases e : jj = 0
                    · subst e; simp at hk; subst hk; exact absurd hn Hneq.out
                    · exact Hall.out jj kk (by omega) hk hn, Hf.out.trans HX.out (fun _ _ h => h)⟩
              · have Heq := Lib.hid (show wordOf 1 = nm from eq_of_beq hnm)
                go_wp2_with fail
                refine (rmay8_ok 1 a p b q _).mono ?_
                rintro e w8 ⟨rfl, hp⟩
                have hn8 := HN7.out.trans hp (fun _ _ h => h)
                have hb8 := (hp.block _ (Array.getElem?_eq_some_iff.1 B7.out).1 id).trans B7.out
                have HX := Lib.hid hn8
                have B8 := Lib.hid hb8
                clear hp hn8 hb8 t0 t1 t2 t3 t4 lt7
                rcases hB : tupB 1 p q with _ | _
                · have HB := Lib.hid hB
                  go_wp2_with fail
                  go_roundg (3)
                  case measure => have := Hg.out; omega
                  case rel => exact ⟨1, by omega, by omega, by go_num, fun jj kk hjj hk hn => by
                      by_cases e : jj = 0
                      · subst e; simp at hk; subst hk; exact HB.out
                      · exact Hall.out jj kk (by omega) hk hn, Hf.out.trans HX.out (fun _ _ h => h)⟩
                · have t0 : w8.cell? ⟨gN, 0, none⟩ = some (.int .u8 1) := by simp [World.cell?, B8.out]
                  have t1 : w8.cell? ⟨gN, 1, none⟩ = some (.int .u32 a) := by simp [World.cell?, B8.out]
                  have t2 : w8.cell? ⟨gN, 2, none⟩ = some (.int .u16 p) := by simp [World.cell?, B8.out]
                  have t3 : w8.cell? ⟨gN, 3, none⟩ = some (.int .u32 b) := by simp [World.cell?, B8.out]
                  have t4 : w8.cell? ⟨gN, 4, none⟩ = some (.int .u16 q) := by simp [World.cell?, B8.out]
                  have lt8 := cell_lt t0
                  have hspec : tupOf l = some (1, a, p, b, q) := by rw [HY.out, ← Heq.out, wordNo_of (k := 1) (by decide)]; simp [hB]
                  have HS := Lib.hid hspec
                  clear hspec
                  have hbR8 := (HX.out.block _ (Array.getElem?_eq_some_iff.1 BR.out).1 id).trans BR.out
                  have BR8 := Lib.hid hbR8
                  have HNF := Lib.hid ((HL.out.trans Hf.out (fun _ _ h => h)).trans HX.out (fun _ _ h => h))
                  clear hbR8
                  have y0 : w8.cell? ⟨gR, 0, none⟩ = some (.int .u8 0) := by simp [World.cell?, BR8.out]
                  have zy0 : w8.frozen? ⟨gR, 0, none⟩ = false := by simp [World.frozen?, BR8.out]
                  have y1 : w8.cell? ⟨gR, 1, none⟩ = some (.int .u32 0) := by simp [World.cell?, BR8.out]
                  have zy1 : w8.frozen? ⟨gR, 1, none⟩ = false := by simp [World.frozen?, BR8.out]
                  have y2 : w8.cell? ⟨gR, 2, none⟩ = some (.int .u16 0) := by simp [World.cell?, BR8.out]
                  have zy2 : w8.frozen? ⟨gR, 2, none⟩ = false := by simp [World.frozen?, BR8.out]
                  have y3 : w8.cell? ⟨gR, 3, none⟩ = some (.int .u32 0) := by simp [World.cell?, BR8.out]
                  have zy3 : w8.frozen? ⟨gR, 3, none⟩ = false := by simp [World.frozen?, BR8.out]
                  have y4 : w8.cell? ⟨gR, 4, none⟩ = some (.int .u16 0) := by simp [World.cell?, BR8.out]
                  have zy4 : w8.frozen? ⟨gR, 4, none⟩ = false := by simp [World.frozen?, BR8.out]
                  have lR := cell_lt y0
                  go_wp2_with fail
                  obtain ⟨W, hW, hb2, hf2⟩ := set5 w8 gR 29 (.int .u8 0) (.int .u32 0) (.int .u16 0) (.int .u32 0) (.int .u16 0) BR8.out (.int .u8 1) (.int .u32 a) (.int .u16 p) (.int .u32 b) (.int .u16 q)
                  rw [← hW]
                  clear hW
                  clear lR y0 zy0 y1 zy1 y2 zy2 y3 zy3 y4 zy4
                  have y0 : W.cell? ⟨gR, 0, none⟩ = some (.int .u8 1) := by simp [World.cell?, hb2]
                  have y1 : W.cell? ⟨gR, 1, none⟩ = some (.int .u32 a) := by simp [World.cell?, hb2]
                  have y2 : W.cell? ⟨gR, 2, none⟩ = some (.int .u16 p) := by simp [World.cell?, hb2]
                  have y3 : W.cell? ⟨gR, 3, none⟩ = some (.int .u32 b) := by simp [World.cell?, hb2]
                  have y4 : W.cell? ⟨gR, 4, none⟩ = some (.int .u16 q) := by simp [World.cell?, hb2]
                  have lR : gR < W.heap.size := cell_lt y0
                  have HF := Lib.hid ((HNF.out).trans hf2 (fun i hi e => by have h1 : i = gR := e; have h2 := HgR.out; omega))
                  clear hf2 hb2
                  refine bodyPost_ret (v := .tuple #[.agg #[.int .u8 1, .int .u32 a, .int .u16 p, .int .u32 b, .int .u16 q], .int .i64 0]) (by simp only [results, Tryz.results15]; go_simp) rfl ⟨by rw [HS.out]; rfl, HF.out⟩
            · have xp : wr.cell? ⟨gP, 1, none⟩ = some (.int .u8 6) := by simp [World.cell?, hbP]
              have xa0 : wr.cell? ⟨gBA, 0, none⟩ = some (.int .u32 a) := by simp [World.cell?, hbA]
              have xa1 : wr.cell? ⟨gBA, 1, none⟩ = some (.int .u16 p) := by simp [World.cell?, hbA]
              have xb0 : wr.cell? ⟨gBB, 0, none⟩ = some (.int .u32 b) := by simp [World.cell?, hbB]
              have xb1 : wr.cell? ⟨gBB, 1, none⟩ = some (.int .u16 q) := by simp [World.cell?, hbB]
              have lp := cell_lt xp
              have la := cell_lt xa0
              have lb := cell_lt xb0
              have BP := Lib.hid hbP
              have BA := Lib.hid hbA
              have BB := Lib.hid hbB
              have BR := Lib.hid hbR
              clear hbP hbA hbB hbR
              go_wp2_with fail
              refine wp_region_held_drew (S := fun wx => NoW wr wx) (by kernel_rfl) (Fp.drew (Fp.refl _ _)) (fun hHeld => ?_)
              (refine take_at 0 (some 59) rfl rfl (by kernel_rfl) (by kernel_rfl) (by kernel_rfl) (fun _ _ _ h => h) (v := ?_) (by kernel_rfl) ?_ (by assumption) ?_; rotate_left; (focus (intro wS hSw; skip; go_simp; try with_reducible rfl)); (try simp only [Act.put, List.setIfInBounds_toArray, List.set_cons_zero, List.set_cons_succ]))
              (refine take_at 1 (some 60) rfl rfl (by kernel_rfl) (by kernel_rfl) (by kernel_rfl) (fun _ _ _ h => h) (v := ?_) (by kernel_rfl) ?_ (by assumption) ?_; rotate_left; (focus (intro wS hSw; skip; go_simp; try with_reducible rfl)); (try simp only [Act.put, List.setIfInBounds_toArray, List.set_cons_zero, List.set_cons_succ]))
              (refine take_at 2 (some 61) rfl rfl (by kernel_rfl) (by kernel_rfl) (by kernel_rfl) (fun _ _ _ h => h) (v := ?_) (by kernel_rfl) ?_ (by assumption) ?_; rotate_left; (focus (intro wS hSw; (have qp := (hSw.cell (p := ⟨gP, 1, none⟩) lp id).trans xp); go_simp; try with_reducible rfl)); (try simp only [Act.put, List.setIfInBounds_toArray, List.set_cons_zero, List.set_cons_succ]))
              (refine take_at 3 (some 62) rfl rfl (by kernel_rfl) (by kernel_rfl) (by kernel_rfl) (fun _ _ _ h => h) (v := ?_) (by kernel_rfl) ?_ (by assumption) ?_; rotate_left; (focus (intro wS hSw; (have qa0 := (hSw.cell (p := ⟨gBA, 0, none⟩) la id).trans xa0); (have qa1 := (hSw.cell (p := ⟨gBA, 1, none⟩) la id).trans xa1); go_simp; try with_reducible rfl)); (try simp only [Act.put, List.setIfInBounds_toArray, List.set_cons_zero, List.set_cons_succ]))
              (refine take_at 4 (some 63) rfl rfl (by kernel_rfl) (by kernel_rfl) (by kernel_rfl) (fun _ _ _ h => h) (v := ?_) (by kernel_rfl) ?_ (by assumption) ?_; rotate_left; (focus (intro wS hSw; (have qb0 := (hSw.cell (p := ⟨gBB, 0, none⟩) lb id).trans xb0); (have qb1 := (hSw.cell (p := ⟨gBB, 1, none⟩) lb id).trans xb1); go_simp; try with_reducible rfl)); (try simp only [Act.put, List.setIfInBounds_toArray, List.set_cons_zero, List.set_cons_succ]))
              (refine take_at 5 (some 64) rfl rfl (by kernel_rfl) (by kernel_rfl) (by kernel_rfl) (fun _ _ _ h => h) (v := ?_) (by kernel_rfl) ?_ (by assumption) ?_; rotate_left; (focus (intro wS hSw; skip; go_simp; try with_reducible rfl)); (try simp only [Act.put, List.setIfInBounds_toArray, List.set_cons_zero, List.set_cons_succ]))
              refine wpAnyH_ready (rs := [6]) (by kernel_rfl) (by simp) ?_
              refine AllReadyH.cons rfl (fun K hK => ?_) AllReadyH.nil
              go_simp
              have hbN0 := heap_alloc_new wr (.cells #[.int .u8 0, .int .u32 0, .int .u16 0, .int .u32 0, .int .u16 0] 29)
              have hbN : (wr.alloc (.cells #[.int .u8 0, .int .u32 0, .int .u16 0, .int .u32 0, .int .u16 0] 29)).drew.heap[wr.heap.size]? = some (.cells #[.int .u8 0, .int .u32 0, .int .u16 0, .int .u32 0, .int .u16 0] 29) := hbN0
              clear hbN0
              refine hK.out _ _ (show NoW wr ((wr.alloc (.cells #[.int .u8 0, .int .u32 0, .int .u16 0, .int .u32 0, .int .u16 0] 29)).drew) from Fp.drew ((Fp.refl _ _).alloc _)) (fun hHeld2 => ?_)
              clear hK K hHeld
              try simp only [Act.put, List.setIfInBounds_toArray, List.set_cons_zero, List.set_cons_succ]
              generalize (wr.alloc (.cells #[.int .u8 0, .int .u32 0, .int .u16 0, .int .u32 0, .int .u16 0] 29)).drew = wN at *
              obtain ⟨gN, hgN⟩ : ∃ gN, gN = wr.heap.size := ⟨_, rfl⟩
              rw [← hgN] at hbN ⊢
              have hge : wr.heap.size ≤ gN := by omega
              clear hgN
              have n0 : wN.cell? ⟨gN, 0, none⟩ = some (.int .u8 0) := by simp [World.cell?, hbN]
              have zn0 : wN.frozen? ⟨gN, 0, none⟩ = false := by simp [World.frozen?, hbN]
              have n1 : wN.cell? ⟨gN, 1, none⟩ = some (.int .u32 0) := by simp [World.cell?, hbN]
              have zn1 : wN.frozen? ⟨gN, 1, none⟩ = false := by simp [World.frozen?, hbN]
              have n2 : wN.cell? ⟨gN, 2, none⟩ = some (.int .u16 0) := by simp [World.cell?, hbN]
              have zn2 : wN.frozen? ⟨gN, 2, none⟩ = false := by simp [World.frozen?, hbN]
              have n3 : wN.cell? ⟨gN, 3, none⟩ = some (.int .u32 0) := by simp [World.cell?, hbN]
              have zn3 : wN.frozen? ⟨gN, 3, none⟩ = false := by simp [World.frozen?, hbN]
              have n4 : wN.cell? ⟨gN, 4, none⟩ = some (.int .u16 0) := by simp [World.cell?, hbN]
              have zn4 : wN.frozen? ⟨gN, 4, none⟩ = false := by simp [World.frozen?, hbN]
              have lN := cell_lt n0
              refine wpAnyH_ready (rs := [7]) (by kernel_rfl) (by simp) ?_
              refine AllReadyH.cons rfl (fun K hK => ?_) AllReadyH.nil
              go_simp
              obtain ⟨W, hW, hb2, hf2⟩ := set5 wN gN 29 (.int .u8 0) (.int .u32 0) (.int .u16 0) (.int .u32 0) (.int .u16 0) hbN (.int .u8 6) (.int .u32 a) (.int .u16 p) (.int .u32 b) (.int .u16 q)
              rw [← hW]
              clear hW
              have hSW : NoW wr W := hHeld2.trans hf2 (fun i hi e => by have h1 : i = gN := e; omega)
              refine hK.out _ _ hSW (fun hHeld => ?_)
              clear hK K hf2 lN n0 zn0 n1 zn1 n2 zn2 n3 zn3 n4 zn4 hHeld2 hbN
              try simp only [Act.put, List.setIfInBounds_toArray, List.set_cons_zero, List.set_cons_succ]
              refine wpAnyH_done (by kernel_rfl) ?_ _
              have xp9 : W.cell? ⟨gP, 1, none⟩ = some (.int .u8 6) := (hSW.cell lp id).trans xp
              have lp9 := cell_lt xp9
              have BN := Lib.hid hb2
              have HSW := Lib.hid hSW
              clear hb2 hSW hHeld xp xa0 xa1 xb0 xb1 lp la lb
              go_wp2_with fail
              refine (KW.out 6 _).mono ?_
              rintro e w7 ⟨rfl, hp⟩
              have hn7 := HSW.out.trans hp (fun _ _ h => h)
              have hb7 := (hp.block _ (Array.getElem?_eq_some_iff.1 BN.out).1 id).trans BN.out
              have HN7 := Lib.hid hn7
              have B7 := Lib.hid hb7
              clear hp hn7 hb7 BN HSW xp9 lp9
              have t0 : w7.cell? ⟨gN, 0, none⟩ = some (.int .u8 6) := by simp [World.cell?, B7.out]
              have t1 : w7.cell? ⟨gN, 1, none⟩ = some (.int .u32 a) := by simp [World.cell?, B7.out]
              have t2 : w7.cell? ⟨gN, 2, none⟩ = some (.int .u16 p) := by simp [World.cell?, B7.out]
              have t3 : w7.cell? ⟨gN, 3, none⟩ = some (.int .u32 b) := by simp [World.cell?, B7.out]
              have t4 : w7.cell? ⟨gN, 4, none⟩ = some (.int .u16 q) := by simp [World.cell?, B7.out]
              have lt7 := cell_lt t0
              rcases hnm : (wordOf 6 == nm) with _ | _
              · have HX := Lib.hid HN7.out
                have Hneq := Lib.hid (show nm ≠ wordOf 6 from fun h => by have := beq_eq_false_iff_ne.1 hnm; exact this h.symm)
                skip
                go_wp2_with fail
                clear t0 t1 t2 t3 t4 lt7
                go_roundg (2)
                case measure => have := Hg.out; omega
                case rel => exact ⟨2, by omega, by omega, by go_num, fun jj kk hjj hk hn => by
                    by_cases e : jj = 1
                    · subst e; simp at hk; subst hk; exact absurd hn Hneq.out
                    · exact Hall.out jj kk (by omega) hk hn, Hf.out.trans HX.out (fun _ _ h => h)⟩
              · have Heq := Lib.hid (show wordOf 6 = nm from eq_of_beq hnm)
                go_wp2_with fail
                refine (rmay8_ok 6 a p b q _).mono ?_
                rintro e w8 ⟨rfl, hp⟩
                have hn8 := HN7.out.trans hp (fun _ _ h => h)
                have hb8 := (hp.block _ (Array.getElem?_eq_some_iff.1 B7.out).1 id).trans B7.out
                have HX := Lib.hid hn8
                have B8 := Lib.hid hb8
                clear hp hn8 hb8 t0 t1 t2 t3 t4 lt7
                rcases hB : tupB 6 p q with _ | _
                · have HB := Lib.hid hB
                  go_wp2_with fail
                  go_roundg (2)
                  case measure => have := Hg.out; omega
                  case rel => exact ⟨2, by omega, by omega, by go_num, fun jj kk hjj hk hn => by
                      by_cases e : jj = 1
                      · subst e; simp at hk; subst hk; exact HB.out
                      · exact Hall.out jj kk (by omega) hk hn, Hf.out.trans HX.out (fun _ _ h => h)⟩
                · have t0 : w8.cell? ⟨gN, 0, none⟩ = some (.int .u8 6) := by simp [World.cell?, B8.out]
                  have t1 : w8.cell? ⟨gN, 1, none⟩ = some (.int .u32 a) := by simp [World.cell?, B8.out]
                  have t2 : w8.cell? ⟨gN, 2, none⟩ = some (.int .u16 p) := by simp [World.cell?, B8.out]
                  have t3 : w8.cell? ⟨gN, 3, none⟩ = some (.int .u32 b) := by simp [World.cell?, B8.out]
                  have t4 : w8.cell? ⟨gN, 4, none⟩ = some (.int .u16 q) := by simp [World.cell?, B8.out]
                  have lt8 := cell_lt t0
                  have hspec : tupOf l = some (6, a, p, b, q) := by rw [HY.out, ← Heq.out, wordNo_of (k := 6) (by decide)]; simp [hB]
                  have HS := Lib.hid hspec
                  clear hspec
                  have hbR8 := (HX.out.block _ (Array.getElem?_eq_some_iff.1 BR.out).1 id).trans BR.out
                  have BR8 := Lib.hid hbR8
                  have HNF := Lib.hid ((HL.out.trans Hf.out (fun _ _ h => h)).trans HX.out (fun _ _ h => h))
                  clear hbR8
                  have y0 : w8.cell? ⟨gR, 0, none⟩ = some (.int .u8 0) := by simp [World.cell?, BR8.out]
                  have zy0 : w8.frozen? ⟨gR, 0, none⟩ = false := by simp [World.frozen?, BR8.out]
                  have y1 : w8.cell? ⟨gR, 1, none⟩ = some (.int .u32 0) := by simp [World.cell?, BR8.out]
                  have zy1 : w8.frozen? ⟨gR, 1, none⟩ = false := by simp [World.frozen?, BR8.out]
                  have y2 : w8.cell? ⟨gR, 2, none⟩ = some (.int .u16 0) := by simp [World.cell?, BR8.out]
                  have zy2 : w8.frozen? ⟨gR, 2, none⟩ = false := by simp [World.frozen?, BR8.out]
                  have y3 : w8.cell? ⟨gR, 3, none⟩ = some (.int .u32 0) := by simp [World.cell?, BR8.out]
                  have zy3 : w8.frozen? ⟨gR, 3, none⟩ = false := by simp [World.frozen?, BR8.out]
                  have y4 : w8.cell? ⟨gR, 4, none⟩ = some (.int .u16 0) := by simp [World.cell?, BR8.out]
                  have zy4 : w8.frozen? ⟨gR, 4, none⟩ = false := by simp [World.frozen?, BR8.out]
                  have lR := cell_lt y0
                  go_wp2_with fail
                  obtain ⟨W, hW, hb2, hf2⟩ := set5 w8 gR 29 (.int .u8 0) (.int .u32 0) (.int .u16 0) (.int .u32 0) (.int .u16 0) BR8.out (.int .u8 6) (.int .u32 a) (.int .u16 p) (.int .u32 b) (.int .u16 q)
                  rw [← hW]
                  clear hW
                  clear lR y0 zy0 y1 zy1 y2 zy2 y3 zy3 y4 zy4
                  have y0 : W.cell? ⟨gR, 0, none⟩ = some (.int .u8 6) := by simp [World.cell?, hb2]
                  have y1 : W.cell? ⟨gR, 1, none⟩ = some (.int .u32 a) := by simp [World.cell?, hb2]
                  have y2 : W.cell? ⟨gR, 2, none⟩ = some (.int .u16 p) := by simp [World.cell?, hb2]
                  have y3 : W.cell? ⟨gR, 3, none⟩ = some (.int .u32 b) := by simp [World.cell?, hb2]
                  have y4 : W.cell? ⟨gR, 4, none⟩ = some (.int .u16 q) := by simp [World.cell?, hb2]
                  have lR : gR < W.heap.size := cell_lt y0
                  have HF := Lib.hid ((HNF.out).trans hf2 (fun i hi e => by have h1 : i = gR := e; have h2 := HgR.out; omega))
                  clear hf2 hb2
                  refine bodyPost_ret (v := .tuple #[.agg #[.int .u8 6, .int .u32 a, .int .u16 p, .int .u32 b, .int .u16 q], .int .i64 0]) (by simp only [results, Tryz.results15]; go_simp) rfl ⟨by rw [HS.out]; rfl, HF.out⟩
            · have xp : wr.cell? ⟨gP, 2, none⟩ = some (.int .u8 17) := by simp [World.cell?, hbP]
              have xa0 : wr.cell? ⟨gBA, 0, none⟩ = some (.int .u32 a) := by simp [World.cell?, hbA]
              have xa1 : wr.cell? ⟨gBA, 1, none⟩ = some (.int .u16 p) := by simp [World.cell?, hbA]
              have xb0 : wr.cell? ⟨gBB, 0, none⟩ = some (.int .u32 b) := by simp [World.cell?, hbB]
              have xb1 : wr.cell? ⟨gBB, 1, none⟩ = some (.int .u16 q) := by simp [World.cell?, hbB]
              have lp := cell_lt xp
              have la := cell_lt xa0
              have lb := cell_lt xb0
              have BP := Lib.hid hbP
              have BA := Lib.hid hbA
              have BB := Lib.hid hbB
              have BR := Lib.hid hbR
              clear hbP hbA hbB hbR
              go_wp2_with fail
              refine wp_region_held_drew (S := fun wx => NoW wr wx) (by kernel_rfl) (Fp.drew (Fp.refl _ _)) (fun hHeld => ?_)
              (refine take_at 0 (some 59) rfl rfl (by kernel_rfl) (by kernel_rfl) (by kernel_rfl) (fun _ _ _ h => h) (v := ?_) (by kernel_rfl) ?_ (by assumption) ?_; rotate_left; (focus (intro wS hSw; skip; go_simp; try with_reducible rfl)); (try simp only [Act.put, List.setIfInBounds_toArray, List.set_cons_zero, List.set_cons_succ]))
              (refine take_at 1 (some 60) rfl rfl (by kernel_rfl) (by kernel_rfl) (by kernel_rfl) (fun _ _ _ h => h) (v := ?_) (by kernel_rfl) ?_ (by assumption) ?_; rotate_left; (focus (intro wS hSw; skip; go_simp; try with_reducible rfl)); (try simp only [Act.put, List.setIfInBounds_toArray, List.set_cons_zero, List.set_cons_succ]))
              (refine take_at 2 (some 61) rfl rfl (by kernel_rfl) (by kernel_rfl) (by kernel_rfl) (fun _ _ _ h => h) (v := ?_) (by kernel_rfl) ?_ (by assumption) ?_; rotate_left; (focus (intro wS hSw; (have qp := (hSw.cell (p := ⟨gP, 2, none⟩) lp id).trans xp); go_simp; try with_reducible rfl)); (try simp only [Act.put, List.setIfInBounds_toArray, List.set_cons_zero, List.set_cons_succ]))
              (refine take_at 3 (some 62) rfl rfl (by kernel_rfl) (by kernel_rfl) (by kernel_rfl) (fun _ _ _ h => h) (v := ?_) (by kernel_rfl) ?_ (by assumption) ?_; rotate_left; (focus (intro wS hSw; (have qa0 := (hSw.cell (p := ⟨gBA, 0, none⟩) la id).trans xa0); (have qa1 := (hSw.cell (p := ⟨gBA, 1, none⟩) la id).trans xa1); go_simp; try with_reducible rfl)); (try simp only [Act.put, List.setIfInBounds_toArray, List.set_cons_zero, List.set_cons_succ]))
              (refine take_at 4 (some 63) rfl rfl (by kernel_rfl) (by kernel_rfl) (by kernel_rfl) (fun _ _ _ h => h) (v := ?_) (by kernel_rfl) ?_ (by assumption) ?_; rotate_left; (focus (intro wS hSw; (have qb0 := (hSw.cell (p := ⟨gBB, 0, none⟩) lb id).trans xb0); (have qb1 := (hSw.cell (p := ⟨gBB, 1, none⟩) lb id).trans xb1); go_simp; try with_reducible rfl)); (try simp only [Act.put, List.setIfInBounds_toArray, List.set_cons_zero, List.set_cons_succ]))
              (refine take_at 5 (some 64) rfl rfl (by kernel_rfl) (by kernel_rfl) (by kernel_rfl) (fun _ _ _ h => h) (v := ?_) (by kernel_rfl) ?_ (by assumption) ?_; rotate_left; (focus (intro wS hSw; skip; go_simp; try with_reducible rfl)); (try simp only [Act.put, List.setIfInBounds_toArray, List.set_cons_zero, List.set_cons_succ]))
              refine wpAnyH_ready (rs := [6]) (by kernel_rfl) (by simp) ?_
              refine AllReadyH.cons rfl (fun K hK => ?_) AllReadyH.nil
              go_simp
              have hbN0 := heap_alloc_new wr (.cells #[.int .u8 0, .int .u32 0, .int .u16 0, .int .u32 0, .int .u16 0] 29)
              have hbN : (wr.alloc (.cells #[.int .u8 0, .int .u32 0, .int .u16 0, .int .u32 0, .int .u16 0] 29)).drew.heap[wr.heap.size]? = some (.cells #[.int .u8 0, .int .u32 0, .int .u16 0, .int .u32 0, .int .u16 0] 29) := hbN0
              clear hbN0
              refine hK.out _ _ (show NoW wr ((wr.alloc (.cells #[.int .u8 0, .int .u32 0, .int .u16 0, .int .u32 0, .int .u16 0] 29)).drew) from Fp.drew ((Fp.refl _ _).alloc _)) (fun hHeld2 => ?_)
              clear hK K hHeld
              try simp only [Act.put, List.setIfInBounds_toArray, List.set_cons_zero, List.set_cons_succ]
              generalize (wr.alloc (.cells #[.int .u8 0, .int .u32 0, .int .u16 0, .int .u32 0, .int .u16 0] 29)).drew = wN at *
              obtain ⟨gN, hgN⟩ : ∃ gN, gN = wr.heap.size := ⟨_, rfl⟩
              rw [← hgN] at hbN ⊢
              have hge : wr.heap.size ≤ gN := by omega
              clear hgN
              have n0 : wN.cell? ⟨gN, 0, none⟩ = some (.int .u8 0) := by simp [World.cell?, hbN]
              have zn0 : wN.frozen? ⟨gN, 0, none⟩ = false := by simp [World.frozen?, hbN]
              have n1 : wN.cell? ⟨gN, 1, none⟩ = some (.int .u32 0) := by simp [World.cell?, hbN]
              have zn1 : wN.frozen? ⟨gN, 1, none⟩ = false := by simp [World.frozen?, hbN]
              have n2 : wN.cell? ⟨gN, 2, none⟩ = some (.int .u16 0) := by simp [World.cell?, hbN]
              have zn2 : wN.frozen? ⟨gN, 2, none⟩ = false := by simp [World.frozen?, hbN]
              have n3 : wN.cell? ⟨gN, 3, none⟩ = some (.int .u32 0) := by simp [World.cell?, hbN]
              have zn3 : wN.frozen? ⟨gN, 3, none⟩ = false := by simp [World.frozen?, hbN]
              have n4 : wN.cell? ⟨gN, 4, none⟩ = some (.int .u16 0) := by simp [World.cell?, hbN]
              have zn4 : wN.frozen? ⟨gN, 4, none⟩ = false := by simp [World.frozen?, hbN]
              have lN := cell_lt n0
              refine wpAnyH_ready (rs := [7]) (by kernel_rfl) (by simp) ?_
              refine AllReadyH.cons rfl (fun K hK => ?_) AllReadyH.nil
              go_simp
              obtain ⟨W, hW, hb2, hf2⟩ := set5 wN gN 29 (.int .u8 0) (.int .u32 0) (.int .u16 0) (.int .u32 0) (.int .u16 0) hbN (.int .u8 17) (.int .u32 a) (.int .u16 p) (.int .u32 b) (.int .u16 q)
              rw [← hW]
              clear hW
              have hSW : NoW wr W := hHeld2.trans hf2 (fun i hi e => by have h1 : i = gN := e; omega)
              refine hK.out _ _ hSW (fun hHeld => ?_)
              clear hK K hf2 lN n0 zn0 n1 zn1 n2 zn2 n3 zn3 n4 zn4 hHeld2 hbN
              try simp only [Act.put, List.setIfInBounds_toArray, List.set_cons_zero, List.set_cons_succ]
              refine wpAnyH_done (by kernel_rfl) ?_ _
              have xp9 : W.cell? ⟨gP, 2, none⟩ = some (.int .u8 17) := (hSW.cell lp id).trans xp
              have lp9 := cell_lt xp9
              have BN := Lib.hid hb2
              have HSW := Lib.hid hSW
              clear hb2 hSW hHeld xp xa0 xa1 xb0 xb1 lp la lb
              go_wp2_with fail
              refine (KW.out 17 _).mono ?_
              rintro e w7 ⟨rfl, hp⟩
              have hn7 := HSW.out.trans hp (fun _ _ h => h)
              have hb7 := (hp.block _ (Array.getElem?_eq_some_iff.1 BN.out).1 id).trans BN.out
              have HN7 := Lib.hid hn7
              have B7 := Lib.hid hb7
              clear hp hn7 hb7 BN HSW xp9 lp9
              have t0 : w7.cell? ⟨gN, 0, none⟩ = some (.int .u8 17) := by simp [World.cell?, B7.out]
              have t1 : w7.cell? ⟨gN, 1, none⟩ = some (.int .u32 a) := by simp [World.cell?, B7.out]
              have t2 : w7.cell? ⟨gN, 2, none⟩ = some (.int .u16 p) := by simp [World.cell?, B7.out]
              have t3 : w7.cell? ⟨gN, 3, none⟩ = some (.int .u32 b) := by simp [World.cell?, B7.out]
              have t4 : w7.cell? ⟨gN, 4, none⟩ = some (.int .u16 q) := by simp [World.cell?, B7.out]
              have lt7 := cell_lt t0
              rcases hnm : (wordOf 17 == nm) with _ | _
              · have HX := Lib.hid HN7.out
                have Hneq := Lib.hid (show nm ≠ wordOf 17 from fun h => by have := beq_eq_false_iff_ne.1 hnm; exact this h.symm)
                skip
                go_wp2_with fail
                clear t0 t1 t2 t3 t4 lt7
                go_roundg (1)
                case measure => have := Hg.out; omega
                case rel => exact ⟨3, by omega, by omega, by go_num, fun jj kk hjj hk hn => by
                    by_cases e : jj = 2
                    · subst e; simp at hk; subst hk; exact absurd hn Hneq.out
                    · exact Hall.out jj kk (by omega) hk hn, Hf.out.trans HX.out (fun _ _ h => h)⟩
              · have Heq := Lib.hid (show wordOf 17 = nm from eq_of_beq hnm)
                go_wp2_with fail
                refine (rmay8_ok 17 a p b q _).mono ?_
                rintro e w8 ⟨rfl, hp⟩
                have hn8 := HN7.out.trans hp (fun _ _ h => h)
                have hb8 := (hp.block _ (Array.getElem?_eq_some_iff.1 B7.out).1 id).trans B7.out
                have HX := Lib.hid hn8
                have B8 := Lib.hid hb8
                clear hp hn8 hb8 t0 t1 t2 t3 t4 lt7
                rcases hB : tupB 17 p q with _ | _
                · have HB := Lib.hid hB
                  go_wp2_with fail
                  go_roundg (1)
                  case measure => have := Hg.out; omega
                  case rel => exact ⟨3, by omega, by omega, by go_num, fun jj kk hjj hk hn => by
                      by_cases e : jj = 2
                      · subst e; simp at hk; subst hk; exact HB.out
                      · exact Hall.out jj kk (by omega) hk hn, Hf.out.trans HX.out (fun _ _ h => h)⟩
                · have t0 : w8.cell? ⟨gN, 0, none⟩ = some (.int .u8 17) := by simp [World.cell?, B8.out]
                  have t1 : w8.cell? ⟨gN, 1, none⟩ = some (.int .u32 a) := by simp [World.cell?, B8.out]
                  have t2 : w8.cell? ⟨gN, 2, none⟩ = some (.int .u16 p) := by simp [World.cell?, B8.out]
                  have t3 : w8.cell? ⟨gN, 3, none⟩ = some (.int .u32 b) := by simp [World.cell?, B8.out]
                  have t4 : w8.cell? ⟨gN, 4, none⟩ = some (.int .u16 q) := by simp [World.cell?, B8.out]
                  have lt8 := cell_lt t0
                  have hspec : tupOf l = some (17, a, p, b, q) := by rw [HY.out, ← Heq.out, wordNo_of (k := 17) (by decide)]; simp [hB]
                  have HS := Lib.hid hspec
                  clear hspec
                  have hbR8 := (HX.out.block _ (Array.getElem?_eq_some_iff.1 BR.out).1 id).trans BR.out
                  have BR8 := Lib.hid hbR8
                  have HNF := Lib.hid ((HL.out.trans Hf.out (fun _ _ h => h)).trans HX.out (fun _ _ h => h))
                  clear hbR8
                  have y0 : w8.cell? ⟨gR, 0, none⟩ = some (.int .u8 0) := by simp [World.cell?, BR8.out]
                  have zy0 : w8.frozen? ⟨gR, 0, none⟩ = false := by simp [World.frozen?, BR8.out]
                  have y1 : w8.cell? ⟨gR, 1, none⟩ = some (.int .u32 0) := by simp [World.cell?, BR8.out]
                  have zy1 : w8.frozen? ⟨gR, 1, none⟩ = false := by simp [World.frozen?, BR8.out]
                  have y2 : w8.cell? ⟨gR, 2, none⟩ = some (.int .u16 0) := by simp [World.cell?, BR8.out]
                  have zy2 : w8.frozen? ⟨gR, 2, none⟩ = false := by simp [World.frozen?, BR8.out]
                  have y3 : w8.cell? ⟨gR, 3, none⟩ = some (.int .u32 0) := by simp [World.cell?, BR8.out]
                  have zy3 : w8.frozen? ⟨gR, 3, none⟩ = false := by simp [World.frozen?, BR8.out]
                  have y4 : w8.cell? ⟨gR, 4, none⟩ = some (.int .u16 0) := by simp [World.cell?, BR8.out]
                  have zy4 : w8.frozen? ⟨gR, 4, none⟩ = false := by simp [World.frozen?, BR8.out]
                  have lR := cell_lt y0
                  go_wp2_with fail
                  obtain ⟨W, hW, hb2, hf2⟩ := set5 w8 gR 29 (.int .u8 0) (.int .u32 0) (.int .u16 0) (.int .u32 0) (.int .u16 0) BR8.out (.int .u8 17) (.int .u32 a) (.int .u16 p) (.int .u32 b) (.int .u16 q)
                  rw [← hW]
                  clear hW
                  clear lR y0 zy0 y1 zy1 y2 zy2 y3 zy3 y4 zy4
                  have y0 : W.cell? ⟨gR, 0, none⟩ = some (.int .u8 17) := by simp [World.cell?, hb2]
                  have y1 : W.cell? ⟨gR, 1, none⟩ = some (.int .u32 a) := by simp [World.cell?, hb2]
                  have y2 : W.cell? ⟨gR, 2, none⟩ = some (.int .u16 p) := by simp [World.cell?, hb2]
                  have y3 : W.cell? ⟨gR, 3, none⟩ = some (.int .u32 b) := by simp [World.cell?, hb2]
                  have y4 : W.cell? ⟨gR, 4, none⟩ = some (.int .u16 q) := by simp [World.cell?, hb2]
                  have lR : gR < W.heap.size := cell_lt y0
                  have HF := Lib.hid ((HNF.out).trans hf2 (fun i hi e => by have h1 : i = gR := e; have h2 := HgR.out; omega))
                  clear hf2 hb2
                  refine bodyPost_ret (v := .tuple #[.agg #[.int .u8 17, .int .u32 a, .int .u16 p, .int .u32 b, .int .u16 q], .int .i64 0]) (by simp only [results, Tryz.results15]; go_simp) rfl ⟨by rw [HS.out]; rfl, HF.out⟩
            · have hno : tupOf l = none := by
                rw [HY.out]
                rcases hw : wordNo nm with _ | k
                · rfl
                · obtain ⟨h1, h2⟩ := wordNo_some.1 hw
                  have h3 : tupB k p q = false := by
                    have h1' := of_decide_eq_true h1
                    rcases h1' with rfl | rfl | rfl
                    · exact Hall.out 0 1 (by omega) rfl h2
                    · exact Hall.out 1 6 (by omega) rfl h2
                    · exact Hall.out 2 17 (by omega) rfl h2
                  simp [h3]
              have HNO := Lib.hid hno
              have BR9 := Lib.hid hbR
              have HNF := Lib.hid (HL.out.trans Hf.out (fun _ _ h => h))
              clear hno hbP hbA hbB hbR
              have y0 : wr.cell? ⟨gR, 0, none⟩ = some (.int .u8 0) := by simp [World.cell?, BR9.out]
              have zy0 : wr.frozen? ⟨gR, 0, none⟩ = false := by simp [World.frozen?, BR9.out]
              have y1 : wr.cell? ⟨gR, 1, none⟩ = some (.int .u32 0) := by simp [World.cell?, BR9.out]
              have zy1 : wr.frozen? ⟨gR, 1, none⟩ = false := by simp [World.frozen?, BR9.out]
              have y2 : wr.cell? ⟨gR, 2, none⟩ = some (.int .u16 0) := by simp [World.cell?, BR9.out]
              have zy2 : wr.frozen? ⟨gR, 2, none⟩ = false := by simp [World.frozen?, BR9.out]
              have y3 : wr.cell? ⟨gR, 3, none⟩ = some (.int .u32 0) := by simp [World.cell?, BR9.out]
              have zy3 : wr.frozen? ⟨gR, 3, none⟩ = false := by simp [World.frozen?, BR9.out]
              have y4 : wr.cell? ⟨gR, 4, none⟩ = some (.int .u16 0) := by simp [World.cell?, BR9.out]
              have zy4 : wr.frozen? ⟨gR, 4, none⟩ = false := by simp [World.frozen?, BR9.out]
              have lR := cell_lt y0
              go_wp2_with fail
              obtain ⟨W, hW, hb2, hf2⟩ := set5 wr gR 29 (.int .u8 0) (.int .u32 0) (.int .u16 0) (.int .u32 0) (.int .u16 0) BR9.out (.int .u8 0) (.int .u32 0) (.int .u16 0) (.int .u32 0) (.int .u16 0)
              rw [← hW]
              clear hW
              clear lR y0 zy0 y1 zy1 y2 zy2 y3 zy3 y4 zy4
              have y0 : W.cell? ⟨gR, 0, none⟩ = some (.int .u8 0) := by simp [World.cell?, hb2]
              have y1 : W.cell? ⟨gR, 1, none⟩ = some (.int .u32 0) := by simp [World.cell?, hb2]
              have y2 : W.cell? ⟨gR, 2, none⟩ = some (.int .u16 0) := by simp [World.cell?, hb2]
              have y3 : W.cell? ⟨gR, 3, none⟩ = some (.int .u32 0) := by simp [World.cell?, hb2]
              have y4 : W.cell? ⟨gR, 4, none⟩ = some (.int .u16 0) := by simp [World.cell?, hb2]
              have lR : gR < W.heap.size := cell_lt y0
              have HF := Lib.hid ((HNF.out).trans hf2 (fun i hi e => by have h1 : i = gR := e; have h2 := HgR.out; omega))
              clear hf2 hb2
              refine bodyPost_ret (v := .tuple #[.agg #[.int .u8 0, .int .u32 0, .int .u16 0, .int .u32 0, .int .u16 0], .int .i64 3]) (by simp only [results, Tryz.results15]; go_simp) rfl ⟨by rw [HNO.out]; rfl, HF.out⟩
            · omega
end Go.Proofs.YtmghjaoodnkjlaaGreatDoor
