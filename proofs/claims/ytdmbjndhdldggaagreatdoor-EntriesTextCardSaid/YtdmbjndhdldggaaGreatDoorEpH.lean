/- Chapter 18: entries.hold; Text of an entry that may not be (written by genhold.py). -/
import Derived.Test.YtdmbjndhdldggaaGreatDoorEpT
namespace Go.Proofs.YtdmbjndhdldggaaGreatDoor
set_option linter.unusedVariables false
set_option linter.unusedSimpArgs false
open Go.RowKit Go.Lib Go.Sort
set_option maxHeartbeats 4000000 in
set_option maxRecDepth 100000 in
theorem hold_ok (l : List UInt8) (hl : l.length ≤ 4294967000) : ∃ (a p b q : Nat) (ok : Bool), (ok = true → holdOf l = some (a, p, b, q)) ∧ (ok = false → holdOf l = none) ∧
    ∀ w : World, TbP w → Calls Tryz.prog 25 #[str l] w (Ret1 (.tuple #[.agg #[.int .u32 a, .int .u16 p, .int .u32 b, .int .u16 q], .bool ok]) w) := by
  obtain ⟨x, y, t, hcut, hx, hy, hxy⟩ : ∃ x y t, Lib.cut l [61] = (x, y, t) ∧ x.length ≤ l.length ∧ y.length ≤ l.length ∧ holdOf l = (if t = true then (match withOf 58 65535 x, withOf 58 65535 y with | some (a, p), some (b, q) => some (a, p, b, q) | _, _ => none) else none) := by
    rw [lib_cut]
    rcases h : cutFirst 61 l with _ | ⟨x, y⟩
    · exact ⟨l, [], false, rfl, Nat.le_refl _, by simp, by unfold holdOf; rw [h]; rfl⟩
    · have := (cutFirst_some.1 h).1
      exact ⟨x, y, true, rfl, by rw [this]; simp, by rw [this]; simp; omega, by unfold holdOf; rw [h]; rfl⟩
  obtain ⟨a, p, e1, z1, hv1, hz1, hs1, hn1⟩ := pt_val (withOf 58 65535 x)
  obtain ⟨b, q, e2, z2, hv2, hz2, hs2, hn2⟩ := pt_val (withOf 58 65535 y)
  refine ⟨a, p, b, q, t && z1 && z2, ?_, ?_, fun w ht => ?_⟩
  · intro h
    simp only [Bool.and_eq_true] at h
    rw [hxy, if_pos h.1.1, hs1 h.1.2, hs2 h.2]
  · intro h
    rw [hxy]
    rcases t with _ | _
    · rfl
    · rw [if_pos rfl]
      rcases z1 with _ | _
      · rw [hn1 rfl]
      · rcases z2 with _ | _
        · rw [hn2 rfl]; rcases withOf 58 65535 x with _ | ⟨_, _⟩ <;> rfl
        · cases h
  · have kc := fun W hW => cut_any 61 l hl W hW hcut
    have k1 := fun W hW => ad_point x (by omega) W hW
    have k2 := fun W hW => ad_point y (by omega) W hW
    rw [hv1] at k1
    rw [hv2] at k2
    have KC := Lib.hid kc
    have K1 := Lib.hid k1
    have K2 := Lib.hid k2
    have Ht := Lib.hid ht
    clear kc k1 k2 ht hv1 hv2 hs1 hn1 hs2 hn2 hxy hcut hx hy hl
    go_enter Tryz.func25, Tryz.ntmps25
    go_wp2_with fail
    have hwz : NoW w (w.alloc (.cells #[.int .u32 0, .int .u16 0, .int .u32 0, .int .u16 0] 59)) := (Fp.refl _ _).alloc _
    have hbR := heap_alloc_new w (.cells #[.int .u32 0, .int .u16 0, .int .u32 0, .int .u16 0] 59)
    generalize w.alloc (.cells #[.int .u32 0, .int .u16 0, .int .u32 0, .int .u16 0] 59) = w0 at *
    obtain ⟨gR, hgR⟩ : ∃ gR, gR = w.heap.size := ⟨_, rfl⟩
    rw [← hgR] at hbR ⊢
    have HgR := Lib.hid (show w.heap.size ≤ gR by omega)
    clear hgR
    refine (KC.out w0 (Ht.out.low hwz)).mono ?_
    rintro e v0 ⟨rfl, hp⟩
    have hbR1 := (hp.block _ (Array.getElem?_eq_some_iff.1 hbR).1 id).trans hbR
    have M0 := Lib.hid (hwz.trans hp (fun _ _ h => h))
    clear hp hwz hbR
    go_wp2_with fail
    refine (K1.out v0 (Ht.out.low M0.out)).mono ?_
    rintro e v1 ⟨rfl, hp⟩
    have hbR2 := (hp.block _ (Array.getElem?_eq_some_iff.1 hbR1).1 id).trans hbR1
    have M1 := Lib.hid (M0.out.trans hp (fun _ _ h => h))
    clear hp M0 hbR1
    go_wp2_with fail
    have hq5 : NoW v1 (v1.alloc (.cells #[.int .u32 a, .int .u16 p] 26)) := (Fp.refl _ _).alloc _
    have B5 := heap_alloc_new v1 (.cells #[.int .u32 a, .int .u16 p] 26)
    have hbR3 := (hq5.block _ (Array.getElem?_eq_some_iff.1 hbR2).1 id).trans hbR2
    have M2 := Lib.hid (M1.out.trans hq5 (fun _ _ h => h))
    clear hq5 M1 hbR2
    generalize v1.alloc (.cells #[.int .u32 a, .int .u16 p] 26) = v2 at *
    generalize v1.heap.size = g5 at *
    refine (K2.out v2 (Ht.out.low M2.out)).mono ?_
    rintro e v3 ⟨rfl, hp⟩
    have hb5 := (hp.block _ (Array.getElem?_eq_some_iff.1 B5).1 id).trans B5
    have hbR3b := (hp.block _ (Array.getElem?_eq_some_iff.1 hbR3).1 id).trans hbR3
    have M5 := Lib.hid (M2.out.trans hp (fun _ _ h => h))
    have f0 : v3.cell? ⟨g5, 0, none⟩ = some (.int .u32 a) := by simp [World.cell?, hb5]
    have f1 : v3.cell? ⟨g5, 1, none⟩ = some (.int .u16 p) := by simp [World.cell?, hb5]
    have y0 : v3.cell? ⟨gR, 0, none⟩ = some (.int .u32 0) := by simp [World.cell?, hbR3b]
    have zy0 : v3.frozen? ⟨gR, 0, none⟩ = false := by simp [World.frozen?, hbR3b]
    have y1 : v3.cell? ⟨gR, 1, none⟩ = some (.int .u16 0) := by simp [World.cell?, hbR3b]
    have zy1 : v3.frozen? ⟨gR, 1, none⟩ = false := by simp [World.frozen?, hbR3b]
    have y2 : v3.cell? ⟨gR, 2, none⟩ = some (.int .u32 0) := by simp [World.cell?, hbR3b]
    have zy2 : v3.frozen? ⟨gR, 2, none⟩ = false := by simp [World.frozen?, hbR3b]
    have y3 : v3.cell? ⟨gR, 3, none⟩ = some (.int .u16 0) := by simp [World.cell?, hbR3b]
    have zy3 : v3.frozen? ⟨gR, 3, none⟩ = false := by simp [World.frozen?, hbR3b]
    have l5 := cell_lt f0
    have lR := cell_lt y0
    clear hp M2 hb5 hbR3 B5
    rcases t with _ | _ <;> rcases z1 with _ | _ <;> rcases z2 with _ | _
    · go_wp2_with fail
      obtain ⟨W, hW, hb2, hf2⟩ := set4 v3 gR 59 (.int .u32 0) (.int .u16 0) (.int .u32 0) (.int .u16 0) hbR3b (.int .u32 a) (.int .u16 p) (.int .u32 b) (.int .u16 q)
      rw [← hW]
      clear hW y0 zy0 y1 zy1 y2 zy2 y3 zy3 hbR3b f0 f1
      have y0 : W.cell? ⟨gR, 0, none⟩ = some (.int .u32 a) := by simp [World.cell?, hb2]
      have y1 : W.cell? ⟨gR, 1, none⟩ = some (.int .u16 p) := by simp [World.cell?, hb2]
      have y2 : W.cell? ⟨gR, 2, none⟩ = some (.int .u32 b) := by simp [World.cell?, hb2]
      have y3 : W.cell? ⟨gR, 3, none⟩ = some (.int .u16 q) := by simp [World.cell?, hb2]
      have lRW : gR < W.heap.size := cell_lt y0
      have HF := Lib.hid (M5.out.trans hf2 (fun i hi e => by have h1 : i = gR := e; have h2 := HgR.out; omega))
      clear hf2 hb2
      refine bodyPost_ret (v := .tuple #[.agg #[.int .u32 a, .int .u16 p, .int .u32 b, .int .u16 q], .bool false]) (by simp only [results, Tryz.results25]; go_simp) rfl ⟨rfl, HF.out.alloc _⟩

    · go_wp2_with fail
      obtain ⟨W, hW, hb2, hf2⟩ := set4 v3 gR 59 (.int .u32 0) (.int .u16 0) (.int .u32 0) (.int .u16 0) hbR3b (.int .u32 a) (.int .u16 p) (.int .u32 b) (.int .u16 q)
      rw [← hW]
      clear hW y0 zy0 y1 zy1 y2 zy2 y3 zy3 hbR3b f0 f1
      have y0 : W.cell? ⟨gR, 0, none⟩ = some (.int .u32 a) := by simp [World.cell?, hb2]
      have y1 : W.cell? ⟨gR, 1, none⟩ = some (.int .u16 p) := by simp [World.cell?, hb2]
      have y2 : W.cell? ⟨gR, 2, none⟩ = some (.int .u32 b) := by simp [World.cell?, hb2]
      have y3 : W.cell? ⟨gR, 3, none⟩ = some (.int .u16 q) := by simp [World.cell?, hb2]
      have lRW : gR < W.heap.size := cell_lt y0
      have HF := Lib.hid (M5.out.trans hf2 (fun i hi e => by have h1 : i = gR := e; have h2 := HgR.out; omega))
      clear hf2 hb2
      refine bodyPost_ret (v := .tuple #[.agg #[.int .u32 a, .int .u16 p, .int .u32 b, .int .u16 q], .bool false]) (by simp only [results, Tryz.results25]; go_simp) rfl ⟨rfl, HF.out.alloc _⟩

    · go_wp2_with fail
      obtain ⟨W, hW, hb2, hf2⟩ := set4 v3 gR 59 (.int .u32 0) (.int .u16 0) (.int .u32 0) (.int .u16 0) hbR3b (.int .u32 a) (.int .u16 p) (.int .u32 b) (.int .u16 q)
      rw [← hW]
      clear hW y0 zy0 y1 zy1 y2 zy2 y3 zy3 hbR3b f0 f1
      have y0 : W.cell? ⟨gR, 0, none⟩ = some (.int .u32 a) := by simp [World.cell?, hb2]
      have y1 : W.cell? ⟨gR, 1, none⟩ = some (.int .u16 p) := by simp [World.cell?, hb2]
      have y2 : W.cell? ⟨gR, 2, none⟩ = some (.int .u32 b) := by simp [World.cell?, hb2]
      have y3 : W.cell? ⟨gR, 3, none⟩ = some (.int .u16 q) := by simp [World.cell?, hb2]
      have lRW : gR < W.heap.size := cell_lt y0
      have HF := Lib.hid (M5.out.trans hf2 (fun i hi e => by have h1 : i = gR := e; have h2 := HgR.out; omega))
      clear hf2 hb2
      refine bodyPost_ret (v := .tuple #[.agg #[.int .u32 a, .int .u16 p, .int .u32 b, .int .u16 q], .bool false]) (by simp only [results, Tryz.results25]; go_simp) rfl ⟨rfl, HF.out.alloc _⟩

    · go_wp2_with fail
      obtain ⟨W, hW, hb2, hf2⟩ := set4 v3 gR 59 (.int .u32 0) (.int .u16 0) (.int .u32 0) (.int .u16 0) hbR3b (.int .u32 a) (.int .u16 p) (.int .u32 b) (.int .u16 q)
      rw [← hW]
      clear hW y0 zy0 y1 zy1 y2 zy2 y3 zy3 hbR3b f0 f1
      have y0 : W.cell? ⟨gR, 0, none⟩ = some (.int .u32 a) := by simp [World.cell?, hb2]
      have y1 : W.cell? ⟨gR, 1, none⟩ = some (.int .u16 p) := by simp [World.cell?, hb2]
      have y2 : W.cell? ⟨gR, 2, none⟩ = some (.int .u32 b) := by simp [World.cell?, hb2]
      have y3 : W.cell? ⟨gR, 3, none⟩ = some (.int .u16 q) := by simp [World.cell?, hb2]
      have lRW : gR < W.heap.size := cell_lt y0
      have HF := Lib.hid (M5.out.trans hf2 (fun i hi e => by have h1 : i = gR := e; have h2 := HgR.out; omega))
      clear hf2 hb2
      refine bodyPost_ret (v := .tuple #[.agg #[.int .u32 a, .int .u16 p, .int .u32 b, .int .u16 q], .bool false]) (by simp only [results, Tryz.results25]; go_simp) rfl ⟨rfl, HF.out.alloc _⟩

    · go_wp2_with fail
      obtain ⟨W, hW, hb2, hf2⟩ := set4 v3 gR 59 (.int .u32 0) (.int .u16 0) (.int .u32 0) (.int .u16 0) hbR3b (.int .u32 a) (.int .u16 p) (.int .u32 b) (.int .u16 q)
      rw [← hW]
      clear hW y0 zy0 y1 zy1 y2 zy2 y3 zy3 hbR3b f0 f1
      have y0 : W.cell? ⟨gR, 0, none⟩ = some (.int .u32 a) := by simp [World.cell?, hb2]
      have y1 : W.cell? ⟨gR, 1, none⟩ = some (.int .u16 p) := by simp [World.cell?, hb2]
      have y2 : W.cell? ⟨gR, 2, none⟩ = some (.int .u32 b) := by simp [World.cell?, hb2]
      have y3 : W.cell? ⟨gR, 3, none⟩ = some (.int .u16 q) := by simp [World.cell?, hb2]
      have lRW : gR < W.heap.size := cell_lt y0
      have HF := Lib.hid (M5.out.trans hf2 (fun i hi e => by have h1 : i = gR := e; have h2 := HgR.out; omega))
      clear hf2 hb2
      refine bodyPost_ret (v := .tuple #[.agg #[.int .u32 a, .int .u16 p, .int .u32 b, .int .u16 q], .bool false]) (by simp only [results, Tryz.results25]; go_simp) rfl ⟨rfl, HF.out.alloc _⟩

    · go_wp2_with fail
      obtain ⟨W, hW, hb2, hf2⟩ := set4 v3 gR 59 (.int .u32 0) (.int .u16 0) (.int .u32 0) (.int .u16 0) hbR3b (.int .u32 a) (.int .u16 p) (.int .u32 b) (.int .u16 q)
      rw [← hW]
      clear hW y0 zy0 y1 zy1 y2 zy2 y3 zy3 hbR3b f0 f1
      have y0 : W.cell? ⟨gR, 0, none⟩ = some (.int .u32 a) := by simp [World.cell?, hb2]
      have y1 : W.cell? ⟨gR, 1, none⟩ = some (.int .u16 p) := by simp [World.cell?, hb2]
      have y2 : W.cell? ⟨gR, 2, none⟩ = some (.int .u32 b) := by simp [World.cell?, hb2]
      have y3 : W.cell? ⟨gR, 3, none⟩ = some (.int .u16 q) := by simp [World.cell?, hb2]
      have lRW : gR < W.heap.size := cell_lt y0
      have HF := Lib.hid (M5.out.trans hf2 (fun i hi e => by have h1 : i = gR := e; have h2 := HgR.out; omega))
      clear hf2 hb2
      refine bodyPost_ret (v := .tuple #[.agg #[.int .u32 a, .int .u16 p, .int .u32 b, .int .u16 q], .bool false]) (by simp only [results, Tryz.results25]; go_simp) rfl ⟨rfl, HF.out.alloc _⟩

    · go_wp2_with fail
      obtain ⟨W, hW, hb2, hf2⟩ := set4 v3 gR 59 (.int .u32 0) (.int .u16 0) (.int .u32 0) (.int .u16 0) hbR3b (.int .u32 a) (.int .u16 p) (.int .u32 b) (.int .u16 q)
      rw [← hW]
      clear hW y0 zy0 y1 zy1 y2 zy2 y3 zy3 hbR3b f0 f1
      have y0 : W.cell? ⟨gR, 0, none⟩ = some (.int .u32 a) := by simp [World.cell?, hb2]
      have y1 : W.cell? ⟨gR, 1, none⟩ = some (.int .u16 p) := by simp [World.cell?, hb2]
      have y2 : W.cell? ⟨gR, 2, none⟩ = some (.int .u32 b) := by simp [World.cell?, hb2]
      have y3 : W.cell? ⟨gR, 3, none⟩ = some (.int .u16 q) := by simp [World.cell?, hb2]
      have lRW : gR < W.heap.size := cell_lt y0
      have HF := Lib.hid (M5.out.trans hf2 (fun i hi e => by have h1 : i = gR := e; have h2 := HgR.out; omega))
      clear hf2 hb2
      refine bodyPost_ret (v := .tuple #[.agg #[.int .u32 a, .int .u16 p, .int .u32 b, .int .u16 q], .bool false]) (by simp only [results, Tryz.results25]; go_simp) rfl ⟨rfl, HF.out.alloc _⟩

    · go_wp2_with fail
      obtain ⟨W, hW, hb2, hf2⟩ := set4 v3 gR 59 (.int .u32 0) (.int .u16 0) (.int .u32 0) (.int .u16 0) hbR3b (.int .u32 a) (.int .u16 p) (.int .u32 b) (.int .u16 q)
      rw [← hW]
      clear hW y0 zy0 y1 zy1 y2 zy2 y3 zy3 hbR3b f0 f1
      have y0 : W.cell? ⟨gR, 0, none⟩ = some (.int .u32 a) := by simp [World.cell?, hb2]
      have y1 : W.cell? ⟨gR, 1, none⟩ = some (.int .u16 p) := by simp [World.cell?, hb2]
      have y2 : W.cell? ⟨gR, 2, none⟩ = some (.int .u32 b) := by simp [World.cell?, hb2]
      have y3 : W.cell? ⟨gR, 3, none⟩ = some (.int .u16 q) := by simp [World.cell?, hb2]
      have lRW : gR < W.heap.size := cell_lt y0
      have HF := Lib.hid (M5.out.trans hf2 (fun i hi e => by have h1 : i = gR := e; have h2 := HgR.out; omega))
      clear hf2 hb2
      refine bodyPost_ret (v := .tuple #[.agg #[.int .u32 a, .int .u16 p, .int .u32 b, .int .u16 q], .bool true]) (by simp only [results, Tryz.results25]; go_simp) rfl ⟨rfl, HF.out.alloc _⟩


set_option maxHeartbeats 1000000 in
theorem text_bad (r a p b q r2 a2 p2 b2 q2 : Nat) (st dl : Int) (ad : Option Addr) (n c : Nat) (w : World)
    (k0 : ∀ W, NoW w W → Calls Tryz.prog 16 #[.agg #[.int .u8 r, .int .u32 a, .int .u16 p, .int .u32 b, .int .u16 q, .int .u8 r2, .int .u32 a2, .int .u16 p2, .int .u32 b2, .int .u16 q2, .int .i64 st, .int .i64 dl, .slice ad n c]] W (Ret1 (.int .i64 2) W)) :
    Calls Tryz.prog 6 #[.agg #[.int .u8 r, .int .u32 a, .int .u16 p, .int .u32 b, .int .u16 q, .int .u8 r2, .int .u32 a2, .int .u16 p2, .int .u32 b2, .int .u16 q2, .int .i64 st, .int .i64 dl, .slice ad n c]] w (Ret1 (str []) w) := by
  have K0 := Lib.hid k0
  clear k0
  go_enter Tryz.func6, Tryz.ntmps6
  go_wp2_with fail
  have hw0 : NoW w (w.alloc (.cells #[.int .u8 r, .int .u32 a, .int .u16 p, .int .u32 b, .int .u16 q, .int .u8 r2, .int .u32 a2, .int .u16 p2, .int .u32 b2, .int .u16 q2, .int .i64 st, .int .i64 dl, .slice ad n c] 31)) := (Fp.refl _ _).alloc _
  refine (K0.out _ hw0).mono ?_
  rintro e v0 ⟨rfl, hp⟩
  have Hn := Lib.hid (hw0.trans hp (fun _ _ h => h))
  clear hp hw0
  go_wp2_with fail
  go_ret
  exact ⟨rfl, Hn.out⟩
end Go.Proofs.YtdmbjndhdldggaaGreatDoor
