/- Chapter 18: tuples.Parse (written by gentparse.py). -/
import Derived.Test.YtmghjaoodnkjlaaGreatDoorEpJ
import Derived.Test.YtmghjaoodnkjlaaGreatDoorEnL
import Derived.Test.YtmghjaoodnkjlaaGreatDoorSeeE
import Derived.Maps.RangeWalk
import Derived.Maps.Views
namespace Go.Proofs.YtmghjaoodnkjlaaGreatDoor
set_option linter.unusedVariables false
set_option linter.unusedSimpArgs false
open Go.RowKit Go.Lib Go.Sort
theorem set5 (w : World) (g : Nat) (T : TypeId) (z0 z1 z2 z3 z4 : Value) (h : w.heap[g]? = some (.cells #[z0, z1, z2, z3, z4] T (0, 0))) (x0 x1 x2 x3 x4 : Value) :
    ∃ W, W = (((((w.setCell ⟨g, 0, none⟩ x0).setCell ⟨g, 1, none⟩ x1).setCell ⟨g, 2, none⟩ x2).setCell ⟨g, 3, none⟩ x3).setCell ⟨g, 4, none⟩ x4) ∧ W.heap[g]? = some (.cells #[x0, x1, x2, x3, x4] T (0, 0)) ∧ Fp (fun k => k = g) w W := by
  refine ⟨_, rfl, ?_, ?_⟩
  · have h0 := heap_set w g 0 _ T x0 h
    have h1 := heap_set _ g 1 _ T x1 h0
    have h2 := heap_set _ g 2 _ T x2 h1
    have h3 := heap_set _ g 3 _ T x3 h2
    have h4 := heap_set _ g 4 _ T x4 h3
    rw [h4]; simp
  · exact ((((((Fp.refl (fun k => k = g) w).setCell (p := ⟨g, 0, none⟩) (Or.inr rfl) x0).setCell (p := ⟨g, 1, none⟩) (Or.inr rfl) x1).setCell (p := ⟨g, 2, none⟩) (Or.inr rfl) x2).setCell (p := ⟨g, 3, none⟩) (Or.inr rfl) x3).setCell (p := ⟨g, 4, none⟩) (Or.inr rfl) x4)

/-- What ranging over the words wants. -/
structure TbQ (w : World) : Prop where
  toP : TbP w
  rng : ∃ (bm n : Nat) (D : DataW Unit) (R : Value → Option (DataW Unit × List MemPlace)), w.cell? ⟨0, 0, none⟩ = some (.map (some bm)) ∧ w.ownsMap Tryz.prog 5 R bm n D ∧
    (∀ v y, R v = some y → ∃ s : List UInt8, v = str s ∧ y.1 = .lit (.string s)) ∧ ∀ k : Nat, k < 256 → ∀ zd, D.atKey (.int .u8 k) zd = if isWord k = true then .lit (.string (wordOf k)) else zd
theorem owns_low {w w' : World} {R : Value → Option (DataW Unit × List MemPlace)} {b n : Nat} {D : DataW Unit} (h : w.ownsMap Tryz.prog 5 R b n D) (hf : NoW w w') : w'.ownsMap Tryz.prog 5 R b n D := by
  obtain ⟨es, cl, hb, r⟩ := h
  exact ⟨es, cl, (hf.block _ (Array.getElem?_eq_some_iff.1 hb).1 id).trans hb, r⟩
theorem TbQ.low {w w' : World} (h : TbQ w) (hf : NoW w w') : TbQ w' := by
  obtain ⟨hb, bm, n, D, R, h1, h2, h3, h4⟩ := h
  exact ⟨hb.low hf, bm, n, D, R, (hf.cell (cell_lt h1) id).trans h1, owns_low h2 hf, h3, h4⟩
theorem ranges_low {w w' : World} {R : Value → Option (DataW Unit × List MemPlace)} {b r n cnt : Nat} {D : DataW Unit} {left : Lit → Bool} (h : w.ranges Tryz.prog 5 R b r n D left cnt) (hf : NoW w w') : w'.ranges Tryz.prog 5 R b r n D left cnt := by
  obtain ⟨es, cl, since, seen, c0, hb, F, hs, hD, hr, rest⟩ := h
  exact ⟨es, cl, since, seen, c0, (hf.block _ (Array.getElem?_eq_some_iff.1 hb).1 id).trans hb, F, hs, hD, (hf.block _ (Array.getElem?_eq_some_iff.1 hr).1 id).trans hr, rest⟩
theorem has_word {D : DataW Unit} (h : ∀ k : Nat, k < 256 → ∀ zd, D.atKey (.int .u8 k) zd = if isWord k = true then .lit (.string (wordOf k)) else zd) {k : Nat} (hk : isWord k = true) : Maps.has D (.int .u8 k) = true := by
  have hk' := of_decide_eq_true hk
  exact Maps.has_true_of_atKey (y := .lit (.string (wordOf k))) (fun z => by rw [h k (by omega) z, if_pos hk])

/-- What Parse answers. -/
def tupRV : Option (Nat × Nat × Nat × Nat × Nat) → Value
  | some (k, a, p, b, q) => .tuple #[.agg #[.int .u8 k, .int .u32 a, .int .u16 p, .int .u32 b, .int .u16 q], .int .i64 0]
  | none => .tuple #[.agg #[.int .u8 0, .int .u32 0, .int .u16 0, .int .u32 0, .int .u16 0], .int .i64 3]
theorem pt_val (o : Option (Nat × Nat)) : ∃ (a n : Nat) (e : Int) (z : Bool), ptV o = .tuple #[.agg #[.int .u32 a, .int .u16 n], .int .i64 e] ∧ (e == 0) = z ∧ (z = true → o = some (a, n)) ∧ (z = false → o = none) := by
  rcases o with _ | ⟨a, n⟩
  · exact ⟨0, 0, 3, false, rfl, rfl, (fun h => by cases h), fun _ => rfl⟩
  · exact ⟨a, n, 0, true, rfl, rfl, fun _ => rfl, fun h => by cases h⟩

set_option maxHeartbeats 4000000 in
set_option maxRecDepth 100000 in
theorem tup_parse (l : List UInt8) (hl : l.length ≤ 4294967000) (w : World) (ht : TbQ w) :
    Calls Tryz.prog 13 #[str l] w (Ret1 (tupRV (tupOf l)) w) := by
  obtain ⟨mm, hmx0⟩ := ht.toP.mx
  have hsz : (⟨l.toArray⟩ : ByteArray).size = l.length := by simp [ByteArray.size]
  have Ht := Lib.hid ht
  have hcnt := count_list 32 l
  clear ht
  obtain ⟨ps, hps⟩ : ∃ ps, ps = pieces 32 l := ⟨_, rfl⟩
  have hsplit := split_list 32 l
  rw [← hps] at hcnt hsplit
  have hlen : ∀ p, p ∈ ps → p.length ≤ 4294967000 := by
    intro p hp
    have : p.length ≤ l.length := by rw [hps] at hp; exact pieces_le hp
    omega
  have Hlen := Lib.hid hlen
  have Hps := Lib.hid hps
  have hwz : NoW w (w.alloc (.cells #[.int .u8 0, .int .u32 0, .int .u16 0, .int .u32 0, .int .u16 0] 29)) := (Fp.refl _ _).alloc _
  have hmx := (hwz.cell (cell_lt hmx0) id).trans hmx0
  go_enter Tryz.func13, Tryz.ntmps13
  go_wp2_with fail
  have hbR := heap_alloc_new w (.cells #[.int .u8 0, .int .u32 0, .int .u16 0, .int .u32 0, .int .u16 0] 29)
  generalize w.alloc (.cells #[.int .u8 0, .int .u32 0, .int .u16 0, .int .u32 0, .int .u16 0] 29) = w0 at *
  obtain ⟨gR, hgR⟩ : ∃ gR, gR = w.heap.size := ⟨_, rfl⟩
  rw [← hgR] at hbR ⊢
  have HgR := Lib.hid (show w.heap.size ≤ gR by omega)
  clear hgR
  refine (Tryz.strings_Split ⟨l.toArray⟩ ⟨#[32]⟩ mm w0 (by rw [hsz]; omega) hmx (by decide)).mono ?_
  rintro e w1 ⟨rfl, rfl⟩
  rw [hcnt, hsplit]
  have hcell : ∀ k (h : k < ps.length), (w0.alloc (.cells ((ps.map (fun p => (⟨p.toArray⟩ : ByteArray))).map Value.string).toArray 9)).cell? ⟨w0.heap.size, k, none⟩ = some (str ps[k]) := by
    intro k h
    have hb := heap_alloc_new w0 (.cells ((ps.map (fun p => (⟨p.toArray⟩ : ByteArray))).map Value.string).toArray 9)
    unfold World.cell?
    rw [hb]
    simp [h]
  have hn1 : NoW w0 (w0.alloc (.cells ((ps.map (fun p => (⟨p.toArray⟩ : ByteArray))).map Value.string).toArray 9)) := (Fp.refl _ _).alloc _
  generalize w0.alloc (.cells ((ps.map (fun p => (⟨p.toArray⟩ : ByteArray))).map Value.string).toArray 9) = w1 at *
  generalize w0.heap.size = gP at *
  have Hn1 := Lib.hid (hwz.trans hn1 (fun _ _ h => h))
  have hbR1 := (hn1.block _ (Array.getElem?_eq_some_iff.1 hbR).1 id).trans hbR
  have BR := Lib.hid hbR1
  have Hcell := Lib.hid hcell
  clear hn1 hcell hcnt hsplit hlen hmx hmx0 hps hwz hbR hbR1 hsz
  by_cases h3 : ps.length = 3
  · obtain ⟨p0, p1, p2, rfl⟩ : ∃ p0 p1 p2, ps = [p0, p1, p2] := by
      rcases ps with _ | ⟨a, _ | ⟨b, _ | ⟨c, _ | ⟨d, r⟩⟩⟩⟩ <;> simp at h3
      exact ⟨a, b, c, rfl⟩
    have x0 : w1.cell? ⟨gP, 0, none⟩ = some (str p0) := Hcell.out 0 (by simp)
    have x1 : w1.cell? ⟨gP, 1, none⟩ = some (str p1) := Hcell.out 1 (by simp)
    have x2 : w1.cell? ⟨gP, 2, none⟩ = some (str p2) := Hcell.out 2 (by simp)
    have lP : gP < w1.heap.size := cell_lt x0
    have Hx := Lib.hid (show ∀ W, NoW w1 W → W.cell? ⟨gP, 0, none⟩ = some (str p0) ∧ W.cell? ⟨gP, 1, none⟩ = some (str p1) ∧ W.cell? ⟨gP, 2, none⟩ = some (str p2) from fun W h => ⟨(h.cell (p := ⟨gP, 0, none⟩) lP id).trans x0, (h.cell (p := ⟨gP, 1, none⟩) lP id).trans x1, (h.cell (p := ⟨gP, 2, none⟩) lP id).trans x2⟩)
    obtain ⟨a, p, e1, z1, hv1, hz1, hs1, hn1⟩ := pt_val (withOf 58 65535 p1)
    obtain ⟨b, q, e2, z2, hv2, hz2, hs2, hn2⟩ := pt_val (withOf 58 65535 p2)
    have k1 := fun W hW => ad_point p1 (Hlen.out p1 (by simp)) W hW
    have k2 := fun W hW => ad_point p2 (Hlen.out p2 (by simp)) W hW
    rw [hv1] at k1
    rw [hv2] at k2
    have K1 := Lib.hid k1
    have K2 := Lib.hid k2
    have Hs1 := Lib.hid (And.intro hs1 hn1)
    have Hs2 := Lib.hid (And.intro hs2 hn2)
    have Hq := Lib.hid (show ∀ W, NoW w1 W → TbQ W from fun W h => Ht.out.low (Hn1.out.trans h (fun _ _ h => h)))
    have HzR := Lib.hid (show ∀ W, NoW w1 W → W.heap[gR]? = some (.cells #[.int .u8 0, .int .u32 0, .int .u16 0, .int .u32 0, .int .u16 0] 29) from fun W h => (h.block _ (Array.getElem?_eq_some_iff.1 BR.out).1 id).trans BR.out)
    clear h3 k1 k2 hv1 hv2 hs1 hn1 hs2 hn2 Hcell
    go_wp2_with fail
    clear x0 x1 x2
    refine (K1.out _ (Hq.out w1 (Fp.refl _ _)).toP).mono ?_
    rintro e v1 ⟨rfl, hp⟩
    obtain ⟨x0, x1, x2⟩ := Hx.out v1 hp
    have lP1 : gP < v1.heap.size := cell_lt x0
    have M1 := Lib.hid hp
    clear hp
    go_wp2_with fail
    clear x0 x1 x2 lP1
    have hq5 : NoW v1 (v1.alloc (.cells #[.int .u32 a, .int .u16 p] 27)) := (Fp.refl _ _).alloc _
    have B5 := Lib.hid (heap_alloc_new v1 (.cells #[.int .u32 a, .int .u16 p] 27))
    have M2 := Lib.hid (M1.out.trans hq5 (fun _ _ h => h))
    clear hq5 M1
    generalize v1.alloc (.cells #[.int .u32 a, .int .u16 p] 27) = v2 at *
    generalize v1.heap.size = g5 at *
    refine (K2.out _ (Hq.out v2 M2.out).toP).mono ?_
    rintro e v3 ⟨rfl, hp⟩
    have B5b := Lib.hid ((hp.block _ (Array.getElem?_eq_some_iff.1 B5.out).1 id).trans B5.out)
    have M3 := Lib.hid (M2.out.trans hp (fun _ _ h => h))
    clear hp M2 B5
    obtain ⟨bm, n, D, R, hwd, hown, hinv, hat⟩ := (Hq.out v3 M3.out).rng
    have lwd := cell_lt hwd
    have Hinv := Lib.hid hinv
    have Hat := Lib.hid hat
    have Hown := Lib.hid hown
    clear hinv hat hown
    go_wp2_with (at_range; refine wpList_range_own _ rfl _ 85 rfl 5 9 (Go.Maps.int_keyed Tryz.underlying5) Tryz.underlying85 R bm n D rfl (owns_low Hown.out ((Fp.refl _ _).alloc _)) ?_; intro w6 hrg hg6 hs6)
    go_frame
    have hq7 : NoW v3 (v3.alloc (.cells #[.int .u32 b, .int .u16 q] 27)) := (Fp.refl _ _).alloc _
    have hb7 := heap_alloc_new v3 (.cells #[.int .u32 b, .int .u16 q] 27)
    have hb5 := (hq7.block _ (Array.getElem?_eq_some_iff.1 B5b.out).1 id).trans B5b.out
    have hm4 := M3.out.trans hq7 (fun _ _ h => h)
    clear hq7 M3 B5b hwd lwd Hown
    generalize v3.alloc (.cells #[.int .u32 b, .int .u16 q] 27) = v4 at *
    generalize v3.heap.size = g7 at *
    have h6n : NoW v4 w6 := (Fp.refl _ _).grown hg6 (fun k e => by cases e)
    obtain ⟨gI, hgI⟩ : ∃ gI, gI = v4.heap.size := ⟨_, rfl⟩
    rw [← hgI] at hrg ⊢
    have HgI := Lib.hid hgI
    have B5 := Lib.hid hb5
    have B7 := Lib.hid hb7
    have M4 := Lib.hid hm4
    have Hrg := Lib.hid hrg
    have H6n := Lib.hid h6n
    clear hgI hb5 hb7 hm4 hg6 hs6 hrg h6n
    go_loopg [9] (Maps.size D) (fun gg v9 wx => ∃ (left : Lit → Bool) (cnt : Nat), gg = cnt ∧ wx.ranges Tryz.prog 5 R bm gI n D left cnt ∧ NoW v4 wx ∧ ∀ k : Nat, isWord k = true → left (.int .u8 k) = false → ¬ (wordOf k = p0 ∧ z1 = true ∧ z2 = true ∧ tupB k p q = true))
    case atStart => exact ⟨Maps.has D, Maps.size D, rfl, Hrg.out, H6n.out, fun k hk h => by rw [has_word Hat.out hk] at h; cases h⟩
    case round =>
      obtain ⟨left, cnt, rfl, hrg, hf, hno⟩ := hrel
      have Hf := Lib.hid hf
      have Hno := Lib.hid hno
      clear hf hno
      have hwf' : NoW w1 wr := M4.out.trans Hf.out (fun _ _ h => h)
      go_wp2_with (at_next; go_loud (refine wpList_next_ranges _ rfl _ rfl 5 (Go.Maps.int_keyed Tryz.underlying5) R (Value.int .u8) (fun s : List UInt8 => str s) (fun key kl hkey => by obtain ⟨x, rfl, _⟩ := Maps.keyOf_int_inv Tryz.underlying5 hkey; exact ⟨x, rfl⟩) (fun v y hv => by obtain ⟨s, rfl, _⟩ := Hinv.out v y hv; exact ⟨s, rfl⟩) bm gI n D _ _ rfl hrg ?_ ?_))
      · intro hc0 hl0
        have hn0 : NoW w wr := Hn1.out.trans hwf' (fun _ _ h => h)
        have HE : tupOf l = none := by
          unfold tupOf
          rw [← Hps.out]
          dsimp only
          rcases h0 : wordNo p0 with _ | k
          · rfl
          · obtain ⟨hk, hp0⟩ := wordNo_some.1 h0
            have hk' := Hno.out k hk (hl0 _)
            rcases z1 with _ | _
            · rw [Hs1.out.2 rfl]
            · rcases z2 with _ | _
              · rw [Hs1.out.1 rfl, Hs2.out.2 rfl]
              · rw [Hs1.out.1 (by first | rfl | trivial), Hs2.out.1 (by first | rfl | trivial)]
                dsimp only
                rw [if_neg (fun h => hk' ⟨hp0.symm, rfl, rfl, h⟩)]
        have hy := HzR.out wr hwf'
        have y0 : wr.cell? ⟨gR, 0, none⟩ = some (.int .u8 0) := by simp [World.cell?, hy]
        have zy0 : wr.frozen? ⟨gR, 0, none⟩ = false := by simp [World.frozen?, hy]
        have y1 : wr.cell? ⟨gR, 1, none⟩ = some (.int .u32 0) := by simp [World.cell?, hy]
        have zy1 : wr.frozen? ⟨gR, 1, none⟩ = false := by simp [World.frozen?, hy]
        have y2 : wr.cell? ⟨gR, 2, none⟩ = some (.int .u16 0) := by simp [World.cell?, hy]
        have zy2 : wr.frozen? ⟨gR, 2, none⟩ = false := by simp [World.frozen?, hy]
        have y3 : wr.cell? ⟨gR, 3, none⟩ = some (.int .u32 0) := by simp [World.cell?, hy]
        have zy3 : wr.frozen? ⟨gR, 3, none⟩ = false := by simp [World.frozen?, hy]
        have y4 : wr.cell? ⟨gR, 4, none⟩ = some (.int .u16 0) := by simp [World.cell?, hy]
        have zy4 : wr.frozen? ⟨gR, 4, none⟩ = false := by simp [World.frozen?, hy]
        go_wp2_with fail
        obtain ⟨W, hW, hb2, hf2⟩ := set5 wr gR 29 (.int .u8 0) (.int .u32 0) (.int .u16 0) (.int .u32 0) (.int .u16 0) (HzR.out wr hwf') (.int .u8 0) (.int .u32 0) (.int .u16 0) (.int .u32 0) (.int .u16 0)
        rw [← hW]
        clear hW y0 zy0 y1 zy1 y2 zy2 y3 zy3 y4 zy4 hy
        have y0 : W.cell? ⟨gR, 0, none⟩ = some (.int .u8 0) := by simp [World.cell?, hb2]
        have y1 : W.cell? ⟨gR, 1, none⟩ = some (.int .u32 0) := by simp [World.cell?, hb2]
        have y2 : W.cell? ⟨gR, 2, none⟩ = some (.int .u16 0) := by simp [World.cell?, hb2]
        have y3 : W.cell? ⟨gR, 3, none⟩ = some (.int .u32 0) := by simp [World.cell?, hb2]
        have y4 : W.cell? ⟨gR, 4, none⟩ = some (.int .u16 0) := by simp [World.cell?, hb2]
        have HF := Lib.hid (hn0.trans hf2 (fun i hi e => by have h1 : i = gR := e; have h2 := HgR.out; omega))
        have HE2 := Lib.hid HE
        clear hf2 hb2 HE
        refine bodyPost_ret (v := .tuple #[.agg #[.int .u8 0, .int .u32 0, .int .u16 0, .int .u32 0, .int .u16 0], .int .i64 3]) (by simp only [results, Tryz.results13]; go_simp) rfl ⟨by rw [HE2.out]; rfl, HF.out⟩

      · intro x c kl yd yp w5 cnt5 hkey hlk hRy hat5 hrg5 hlt5 hg5 hs5 hen
        obtain ⟨x', ex, rfl, hwf⟩ := Maps.keyOf_int_inv Tryz.underlying5 hkey
        cases ex
        obtain ⟨k, rfl, hk256⟩ := wf_nat hwf rfl
        obtain ⟨s, hs, hy⟩ := Hinv.out _ _ hRy
        have hcs : c = s := by simpa using hs
        subst hcs
        have hkey2 := Hat.out k hk256 .nil
        rw [hat5] at hkey2
        have hisw : isWord k = true := by
          rcases hi : isWord k with _ | _
          · rw [hi] at hkey2; simp only [Bool.false_eq_true, if_false] at hkey2; rw [show yd = _ from hy] at hkey2; cases hkey2
          · rfl
        rw [hisw, if_pos rfl, show yd = _ from hy] at hkey2
        have hcw : c = wordOf k := by simpa using hkey2
        subst hcw
        have n5 : NoW v4 w5 := Fp.grown Hf.out hg5 (fun i e => Or.inl (by have h1 : gI = i := by simpa using e
                                                                          have := HgI.out; omega))
        have N5 := Lib.hid n5
        have Hrg5 := Lib.hid hrg5
        have hb5 := (n5.block _ (Array.getElem?_eq_some_iff.1 B5.out).1 id).trans B5.out
        have hb7 := (n5.block _ (Array.getElem?_eq_some_iff.1 B7.out).1 id).trans B7.out
        have f0 : w5.cell? ⟨g5, 0, none⟩ = some (.int .u32 a) := by simp [World.cell?, hb5]
        have f1 : w5.cell? ⟨g5, 1, none⟩ = some (.int .u16 p) := by simp [World.cell?, hb5]
        have d0 : w5.cell? ⟨g7, 0, none⟩ = some (.int .u32 b) := by simp [World.cell?, hb7]
        have d1 : w5.cell? ⟨g7, 1, none⟩ = some (.int .u16 q) := by simp [World.cell?, hb7]
        obtain ⟨x0, _, _⟩ := Hx.out w5 (M4.out.trans n5 (fun _ _ h => h))
        have l5 := cell_lt f0
        have l7 := cell_lt d0
        have lP5 := cell_lt x0
        have km := fun W hW => tup_ok k a p b q hk256 W hW
        clear hwf' hkey hlk hRy hat5 hs hy hkey2 n5 hb5 hb7 hg5 hs5 hrg5
        rcases hw : (wordOf k == p0) with _ | _
        · have hb : (wordOf k == p0) = false := hw
          go_wp2_with fail
          go_roundg cnt5
          case measure => exact hlt5
          case rel => exact ⟨_, cnt5, rfl, (ranges_low Hrg5.out ((Fp.refl _ _).alloc _ : NoW w5 (w5.alloc (.cells #[.int .u8 k, .int .u32 a, .int .u16 p, .int .u32 b, .int .u16 q] 29)))), (N5.out.trans ((Fp.refl _ _).alloc _ : NoW w5 (w5.alloc (.cells #[.int .u8 k, .int .u32 a, .int .u16 p, .int .u32 b, .int .u16 q] 29))) (fun _ _ h => h)), fun k' hk' hl' => by
              simp only [Bool.and_eq_false_iff] at hl'
              rcases hl' with h | h
              · exact Hno.out k' hk' h
              · have hkk : k' = k := by
                  by_cases e : k' = k
                  · exact e
                  · exfalso
                    have : (Lit.int .u8 (k' : Int)).sameKey (.int .u8 (k : Int)) = false := by simp [Lit.sameKey]; omega
                    rw [this] at h; cases h
                subst hkk
                exact fun h => by rw [h.1] at hw; simp at hw⟩
        · have hwp : wordOf k = p0 := by simpa using hw
          rcases hz : z1 with _ | _
          · subst hz
            go_wp2_with fail
            go_roundg cnt5
            case measure => exact hlt5
            case rel => exact ⟨_, cnt5, rfl, (ranges_low Hrg5.out ((Fp.refl _ _).alloc _ : NoW w5 (w5.alloc (.cells #[.int .u8 k, .int .u32 a, .int .u16 p, .int .u32 b, .int .u16 q] 29)))), (N5.out.trans ((Fp.refl _ _).alloc _ : NoW w5 (w5.alloc (.cells #[.int .u8 k, .int .u32 a, .int .u16 p, .int .u32 b, .int .u16 q] 29))) (fun _ _ h => h)), fun k' hk' hl' => by
                simp only [Bool.and_eq_false_iff] at hl'
                rcases hl' with h | h
                · exact Hno.out k' hk' h
                · have hkk : k' = k := by
                    by_cases e : k' = k
                    · exact e
                    · exfalso
                      have : (Lit.int .u8 (k' : Int)).sameKey (.int .u8 (k : Int)) = false := by simp [Lit.sameKey]; omega
                      rw [this] at h; cases h
                  subst hkk
                  exact fun h => by cases h.2.1⟩
          · rcases hz' : z2 with _ | _
            · subst hz'
              go_wp2_with fail
              go_roundg cnt5
              case measure => exact hlt5
              case rel => exact ⟨_, cnt5, rfl, (ranges_low Hrg5.out ((Fp.refl _ _).alloc _ : NoW w5 (w5.alloc (.cells #[.int .u8 k, .int .u32 a, .int .u16 p, .int .u32 b, .int .u16 q] 29)))), (N5.out.trans ((Fp.refl _ _).alloc _ : NoW w5 (w5.alloc (.cells #[.int .u8 k, .int .u32 a, .int .u16 p, .int .u32 b, .int .u16 q] 29))) (fun _ _ h => h)), fun k' hk' hl' => by
                  simp only [Bool.and_eq_false_iff] at hl'
                  rcases hl' with h | h
                  · exact Hno.out k' hk' h
                  · have hkk : k' = k := by
                      by_cases e : k' = k
                      · exact e
                      · exfalso
                        have : (Lit.int .u8 (k' : Int)).sameKey (.int .u8 (k : Int)) = false := by simp [Lit.sameKey]; omega
                        rw [this] at h; cases h
                    subst hkk
                    exact fun h => by cases h.2.2.1⟩
            · subst hz
              subst hz'
              rcases hB : tupB k p q with _ | _
              · rw [hB] at km
                have KM := Lib.hid km
                clear km
                go_wp2_with fail
                have hqb : NoW w5 (w5.alloc (.cells #[.int .u8 k, .int .u32 a, .int .u16 p, .int .u32 b, .int .u16 q] 29)) := (Fp.refl _ _).alloc _
                have B11 := heap_alloc_new w5 (.cells #[.int .u8 k, .int .u32 a, .int .u16 p, .int .u32 b, .int .u16 q] 29)
                have hNb := N5.out.trans hqb (fun _ _ h => h)
                have hRb := ranges_low Hrg5.out hqb
                clear hqb
                generalize w5.alloc (.cells #[.int .u8 k, .int .u32 a, .int .u16 p, .int .u32 b, .int .u16 q] 29) = w7 at *
                generalize w5.heap.size = g11 at *
                refine (KM.out _ (Hq.out w7 (M4.out.trans hNb (fun _ _ h => h))).toP.base).mono ?_
                rintro e w8 ⟨rfl, hp⟩
                have N8 := hNb.trans hp (fun _ _ h => h)
                have R8 := ranges_low hRb hp
                have hb11 := (hp.block _ (Array.getElem?_eq_some_iff.1 B11).1 id).trans B11
                clear hp hNb hRb B11
                go_wp2_with fail
                go_roundg cnt5
                case measure => exact hlt5
                case rel => exact ⟨_, cnt5, rfl, R8, N8, fun k' hk' hl' => by
                    simp only [Bool.and_eq_false_iff] at hl'
                    rcases hl' with h | h
                    · exact Hno.out k' hk' h
                    · have hkk : k' = k := by
                        by_cases e : k' = k
                        · exact e
                        · exfalso
                          have : (Lit.int .u8 (k' : Int)).sameKey (.int .u8 (k : Int)) = false := by simp [Lit.sameKey]; omega
                          rw [this] at h; cases h
                      subst hkk
                      exact fun h => by rw [hB] at h; cases h.2.2.2⟩
              · rw [hB] at km
                have KM := Lib.hid km
                clear km
                go_wp2_with fail
                have hqb : NoW w5 (w5.alloc (.cells #[.int .u8 k, .int .u32 a, .int .u16 p, .int .u32 b, .int .u16 q] 29)) := (Fp.refl _ _).alloc _
                have B11 := heap_alloc_new w5 (.cells #[.int .u8 k, .int .u32 a, .int .u16 p, .int .u32 b, .int .u16 q] 29)
                have hNb := N5.out.trans hqb (fun _ _ h => h)
                have hRb := ranges_low Hrg5.out hqb
                clear hqb
                generalize w5.alloc (.cells #[.int .u8 k, .int .u32 a, .int .u16 p, .int .u32 b, .int .u16 q] 29) = w7 at *
                generalize w5.heap.size = g11 at *
                refine (KM.out _ (Hq.out w7 (M4.out.trans hNb (fun _ _ h => h))).toP.base).mono ?_
                rintro e w8 ⟨rfl, hp⟩
                have N8 := hNb.trans hp (fun _ _ h => h)
                have R8 := ranges_low hRb hp
                have hb11 := (hp.block _ (Array.getElem?_eq_some_iff.1 B11).1 id).trans B11
                clear hp hNb hRb B11
                have t0 : w8.cell? ⟨g11, 0, none⟩ = some (.int .u8 k) := by simp [World.cell?, hb11]
                have t1 : w8.cell? ⟨g11, 1, none⟩ = some (.int .u32 a) := by simp [World.cell?, hb11]
                have t2 : w8.cell? ⟨g11, 2, none⟩ = some (.int .u16 p) := by simp [World.cell?, hb11]
                have t3 : w8.cell? ⟨g11, 3, none⟩ = some (.int .u32 b) := by simp [World.cell?, hb11]
                have t4 : w8.cell? ⟨g11, 4, none⟩ = some (.int .u16 q) := by simp [World.cell?, hb11]
                have hN8 : NoW w1 w8 := M4.out.trans N8 (fun _ _ h => h)
                have hn0 : NoW w w8 := Hn1.out.trans hN8 (fun _ _ h => h)
                have HE : tupOf l = some (k, a, p, b, q) := by
                  unfold tupOf
                  rw [← Hps.out]
                  dsimp only
                  rw [← hwp, wordNo_of hisw, Hs1.out.1 (by first | rfl | trivial), Hs2.out.1 (by first | rfl | trivial)]
                  dsimp only
                  rw [if_pos hB]
                have lg11 := cell_lt t0
                have hy := HzR.out w8 hN8
                have y0 : w8.cell? ⟨gR, 0, none⟩ = some (.int .u8 0) := by simp [World.cell?, hy]
                have zy0 : w8.frozen? ⟨gR, 0, none⟩ = false := by simp [World.frozen?, hy]
                have y1 : w8.cell? ⟨gR, 1, none⟩ = some (.int .u32 0) := by simp [World.cell?, hy]
                have zy1 : w8.frozen? ⟨gR, 1, none⟩ = false := by simp [World.frozen?, hy]
                have y2 : w8.cell? ⟨gR, 2, none⟩ = some (.int .u16 0) := by simp [World.cell?, hy]
                have zy2 : w8.frozen? ⟨gR, 2, none⟩ = false := by simp [World.frozen?, hy]
                have y3 : w8.cell? ⟨gR, 3, none⟩ = some (.int .u32 0) := by simp [World.cell?, hy]
                have zy3 : w8.frozen? ⟨gR, 3, none⟩ = false := by simp [World.frozen?, hy]
                have y4 : w8.cell? ⟨gR, 4, none⟩ = some (.int .u16 0) := by simp [World.cell?, hy]
                have zy4 : w8.frozen? ⟨gR, 4, none⟩ = false := by simp [World.frozen?, hy]
                go_wp2_with fail
                obtain ⟨W, hW, hb2, hf2⟩ := set5 w8 gR 29 (.int .u8 0) (.int .u32 0) (.int .u16 0) (.int .u32 0) (.int .u16 0) (HzR.out w8 hN8) (.int .u8 k) (.int .u32 a) (.int .u16 p) (.int .u32 b) (.int .u16 q)
                rw [← hW]
                clear hW y0 zy0 y1 zy1 y2 zy2 y3 zy3 y4 zy4 hy
                have y0 : W.cell? ⟨gR, 0, none⟩ = some (.int .u8 k) := by simp [World.cell?, hb2]
                have y1 : W.cell? ⟨gR, 1, none⟩ = some (.int .u32 a) := by simp [World.cell?, hb2]
                have y2 : W.cell? ⟨gR, 2, none⟩ = some (.int .u16 p) := by simp [World.cell?, hb2]
                have y3 : W.cell? ⟨gR, 3, none⟩ = some (.int .u32 b) := by simp [World.cell?, hb2]
                have y4 : W.cell? ⟨gR, 4, none⟩ = some (.int .u16 q) := by simp [World.cell?, hb2]
                have HF := Lib.hid (hn0.trans hf2 (fun i hi e => by have h1 : i = gR := e; have h2 := HgR.out; omega))
                have HE2 := Lib.hid HE
                clear hf2 hb2 HE
                refine bodyPost_ret (v := .tuple #[.agg #[.int .u8 k, .int .u32 a, .int .u16 p, .int .u32 b, .int .u16 q], .int .i64 0]) (by simp only [results, Tryz.results13]; go_simp) rfl ⟨by rw [HE2.out]; rfl, HF.out⟩
  · have HE : tupOf l = none := by
      unfold tupOf
      rw [← Hps.out]
      rcases ps with _ | ⟨a, _ | ⟨b, _ | ⟨c, _ | ⟨d, r⟩⟩⟩⟩ <;> first | rfl | (simp at h3)
    have hne : (((ps.length : Nat) : Int) != 3) = true := by simp; omega
    clear h3
    have hy := BR.out
    have y0 : w1.cell? ⟨gR, 0, none⟩ = some (.int .u8 0) := by simp [World.cell?, hy]
    have zy0 : w1.frozen? ⟨gR, 0, none⟩ = false := by simp [World.frozen?, hy]
    have y1 : w1.cell? ⟨gR, 1, none⟩ = some (.int .u32 0) := by simp [World.cell?, hy]
    have zy1 : w1.frozen? ⟨gR, 1, none⟩ = false := by simp [World.frozen?, hy]
    have y2 : w1.cell? ⟨gR, 2, none⟩ = some (.int .u16 0) := by simp [World.cell?, hy]
    have zy2 : w1.frozen? ⟨gR, 2, none⟩ = false := by simp [World.frozen?, hy]
    have y3 : w1.cell? ⟨gR, 3, none⟩ = some (.int .u32 0) := by simp [World.cell?, hy]
    have zy3 : w1.frozen? ⟨gR, 3, none⟩ = false := by simp [World.frozen?, hy]
    have y4 : w1.cell? ⟨gR, 4, none⟩ = some (.int .u16 0) := by simp [World.cell?, hy]
    have zy4 : w1.frozen? ⟨gR, 4, none⟩ = false := by simp [World.frozen?, hy]
    go_wp2_with fail
    obtain ⟨W, hW, hb2, hf2⟩ := set5 w1 gR 29 (.int .u8 0) (.int .u32 0) (.int .u16 0) (.int .u32 0) (.int .u16 0) BR.out (.int .u8 0) (.int .u32 0) (.int .u16 0) (.int .u32 0) (.int .u16 0)
    rw [← hW]
    clear hW y0 zy0 y1 zy1 y2 zy2 y3 zy3 y4 zy4 hy
    have y0 : W.cell? ⟨gR, 0, none⟩ = some (.int .u8 0) := by simp [World.cell?, hb2]
    have y1 : W.cell? ⟨gR, 1, none⟩ = some (.int .u32 0) := by simp [World.cell?, hb2]
    have y2 : W.cell? ⟨gR, 2, none⟩ = some (.int .u16 0) := by simp [World.cell?, hb2]
    have y3 : W.cell? ⟨gR, 3, none⟩ = some (.int .u32 0) := by simp [World.cell?, hb2]
    have y4 : W.cell? ⟨gR, 4, none⟩ = some (.int .u16 0) := by simp [World.cell?, hb2]
    have HF := Lib.hid (Hn1.out.trans hf2 (fun i hi e => by have h1 : i = gR := e; have h2 := HgR.out; omega))
    have HE2 := Lib.hid HE
    clear hf2 hb2 HE
    refine bodyPost_ret (v := .tuple #[.agg #[.int .u8 0, .int .u32 0, .int .u16 0, .int .u32 0, .int .u16 0], .int .i64 3]) (by simp only [results, Tryz.results13]; go_simp) rfl ⟨by rw [HE2.out]; rfl, HF.out⟩

end Go.Proofs.YtmghjaoodnkjlaaGreatDoor
