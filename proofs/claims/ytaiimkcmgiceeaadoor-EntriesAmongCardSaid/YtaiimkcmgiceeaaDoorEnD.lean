/- Chapter 18: addrs.Text (of chapter 03's text, by gen18.py). · Chapter 18: PointText, Less (of chapter 03's texts, by gen18.py). · Chapter 18: the small functions (written by genen.py). · Chapter 18: track, tuples.May, Check (written by genec.py). · Chapter 18: Check (written by gened.py). -/
import Derived.Test.YtaiimkcmgiceeaaDoorEnN
import Derived.Deep.RegionHeld3
import Derived.Test.YtaiimkcmgiceeaaDoorBase
import Derived.Laws.StructEq
namespace Go.Proofs.YtaiimkcmgiceeaaDoor
set_option linter.unusedVariables false
set_option linter.unusedSimpArgs false
open Go.RowKit Go.Lib Go.Sort

def pt (a : Nat) : List (List UInt8) := [decDigits (a / 16777216), decDigits (a / 65536 % 256), decDigits (a / 256 % 256), decDigits (a % 256)]
theorem infoStr : ∃ i, Tryd.prog.info? 9 = some i ∧ i.zero = some (.string ByteArray.empty) ∧ i.size = 1 ∧ i.bytes ≤ 65536 := by
  have h : ((Tryd.prog.info? 9).map fun i => (i.zero, i.size, decide (i.bytes ≤ 65536))) = some (some (.string ByteArray.empty), 1, true) := by kernel_rfl
  rcases hi : Tryd.prog.info? 9 with _ | i
  · simp [hi] at h
  · simp [hi] at h
    exact ⟨i, rfl, h.1, h.2.1, h.2.2⟩
theorem itoa_any (n : Nat) (hn : n < 9223372036854775807) (w : World) (ht : Tb w) : Calls Tryd.prog 40 #[.int .i64 n] w (Ret1 (str (decDigits n)) w) := by
  refine (Tryd.strconv_Itoa n (by omega) (by omega) w ht.pow).mono ?_
  rintro e w' ⟨rfl, k, os, rfl⟩
  exact ⟨by rw [itoa_nonneg], noW_grow w k os⟩
theorem and255 (x : Nat) (hx : x < 4294967296) : bits .and .u32 (x : Int) 255 = ((x % 256 : Nat) : Int) := by
  have h := u32_and_nat x 255 hx (by omega)
  rw [nat_mask8] at h
  exact h

theorem join_pt (a : Nat) : Lib.join (((pt a).map fun p => (⟨p.toArray⟩ : ByteArray)).map (·.data.toList)) (⟨#[46]⟩ : ByteArray).data.toList = addrT a := by
  simp [pt, Lib.join, List.intercalate, addrT]
theorem add_eq0 (b i : Nat) : (⟨b, 0, none⟩ : Addr).add i = ⟨b, i, none⟩ := by unfold Addr.add; split <;> simp_all

set_option maxHeartbeats 2000000 in
theorem ad_text (a : Nat) (ha : a < 4294967296) (w : World) (ht : Tb w) :
    Calls Tryd.prog 51 #[.int .u32 a] w (Ret1 (str (addrT a)) w) := by
  have Ht := Lib.hid ht
  clear ht
  have m0 := and255 (a / 16777216) (by omega)
  have m1 := and255 (a / 65536) (by omega)
  have m2 := and255 (a / 256) (by omega)
  have m3 := and255 a ha
  go_enter Tryd.func51, Tryd.ntmps51
  go_wp2_with fail
  go_loopg [3, 4] 5 (fun g v i wx => ∃ (k : Nat) (v' : Value), v' = v ∧ k ≤ 4 ∧ g = 5 - k ∧ i = .int .i64 (24 - 8 * (k : Int)) ∧ wx.ownsRow w.heap.size 9 1 v' k (((pt a).map str).take k) ∧ NoW w wx)
  case atStart => exact ⟨0, _, rfl, by omega, rfl, rfl, World.ownsRow_nil _ _ _ 1, Fp.refl _ _⟩
  case round =>
    obtain ⟨k, v, rfl, hk, hg, rfl, hown, hf⟩ := hrel
    have Hg := Lib.hid hg
    have Hf := Lib.hid hf
    have Hown := Lib.hid hown
    have hsz := hf.size
    clear hg hf hown
    by_cases hlt : k < 4
    · obtain ⟨n, hn⟩ : ∃ n : Nat, (pt a)[k]? = some (decDigits n) ∧ n < 256 ∧ bits .and .u32 ((a : Int) / 2 ^ (24 - 8 * k)) 255 = (n : Int) := by
        have : k = 0 ∨ k = 1 ∨ k = 2 ∨ k = 3 := by omega
        rcases this with rfl | rfl | rfl | rfl
        · exact ⟨a / 16777216, rfl, by omega, by rw [show (a : Int) / 2 ^ (24 - 8 * 0) = ((a / 16777216 : Nat) : Int) by simp, m0, Nat.mod_eq_of_lt (by omega)]⟩
        · exact ⟨a / 65536 % 256, rfl, by omega, by rw [show (a : Int) / 2 ^ (24 - 8 * 1) = ((a / 65536 : Nat) : Int) by simp, m1]⟩
        · exact ⟨a / 256 % 256, rfl, by omega, by rw [show (a : Int) / 2 ^ (24 - 8 * 2) = ((a / 256 : Nat) : Int) by simp, m2]⟩
        · exact ⟨a % 256, rfl, by omega, by rw [show (a : Int) / 2 ^ (24 - 8 * 3) = ((a : Nat) : Int) by simp, m3]⟩
      obtain ⟨hp, hn256, hbit⟩ := hn
      have Hp := Lib.hid hp
      clear hp
      clear m0 m1 m2 m3
      go_wp2_with fail
      refine (itoa_any n (by omega) _ (Ht.out.low Hf.out)).mono ?_
      rintro e w2 ⟨rfl, hp2⟩
      have hown2 : w2.ownsRow w.heap.size 9 1 v k (((pt a).map str).take k) := ownsRow_of_block Hown.out fun g e => hp2.block g (World.ownsRow.lt Hown.out g e).2 id
      have Hf2 := Lib.hid (Hf.out.trans hp2 (fun _ _ h => h))
      have Hown2 := Lib.hid hown2
      have hsz2 := Hf2.out.size
      clear hp2 hown2 Hf Hown
      go_wp2_with (at_builtin; refine wp_append1 rfl _ _ 79 rfl w.heap.size 9 (.string ByteArray.empty) 1 Tryd.underlying79 infoStr rfl (by decide) v k _ rfl (World.ownsRow.alloc Hown2.out _) w2.heap.size [str (decDigits n)] rfl rfl (heap_new _ _ _ rfl) ?_ ?_ ?_ ?_)
      · intro u hu; simp at hu; rw [hu]; rfl
      · omega
      · simp; omega
      intro v2 w3 hown3 hgr3 _ _
      have hf3 : NoW w w3 := Fp.grown (Hf2.out.alloc _) hgr3 (fun q e => Or.inl (World.ownsRow.lt Hown2.out q e).1)
      have htk : ((pt a).map str).take (k + 1) = ((pt a).map str).take k ++ [str (decDigits n)] := by
        rw [List.take_add_one, List.getElem?_map, Hp.out]; rfl
      rw [← htk] at hown3
      have Hown3 := Lib.hid hown3
      have Hf3 := Lib.hid hf3
      clear hown3 hgr3 htk hf3 Hown2 Hf2 hbit
      go_wp2_with fail
      go_roundg (4 - k)
      case measure => have := Hg.out; omega
      case rel => exact ⟨k + 1, _, rfl, by omega, by omega, by go_num, Hown3.out, Hf3.out⟩
    · obtain rfl : k = 4 := by omega
      obtain ⟨gv, cap, hv, hcap, hlt2, hcell⟩ : ∃ (gv cap : Nat), v = .slice (some ⟨gv, 0, none⟩) 4 cap ∧ 4 ≤ cap ∧ gv < wr.heap.size ∧ ∀ j u, (((pt a).map str).take 4)[j]? = some u → wr.cell? ⟨gv, j, none⟩ = some u := by
        have hc := Hown.out
        obtain ⟨_, h2⟩ := Hown.out
        rcases h2 with ⟨_, h0⟩ | ⟨g, cap, cur, rfl, hg2, hh, hcap, hcap2, hcs, htk⟩
        · omega
        · refine ⟨g, cap, rfl, hcap, (Array.getElem?_eq_some_iff.1 hh).1, fun j u hj => ?_⟩
          have := World.ownsRow.cells hc (g := g) rfl j u hj
          rwa [add_eq0] at this
      subst hv
      have Hcell := Lib.hid hcell
      clear hcell Hown m0 m1 m2 m3
      go_wp2_with fail
      have hj := Tryd.strings_Join gv 0 cap ((pt a).map fun p => (⟨p.toArray⟩ : ByteArray)) ⟨#[46]⟩ wr (fun j x hx => by
        have h1 : (((pt a).map str).take 4)[j]? = some (.string x) := by
          rw [List.take_of_length_le (by simp [pt]), List.getElem?_map]
          rw [List.getElem?_map] at hx
          rcases hp : (pt a)[j]? with _ | p
          · simp [hp] at hx
          · simp only [hp, Option.map_some, Option.some.injEq] at hx ⊢
            rw [← hx]
        rw [Nat.zero_add]
        exact Hcell.out j _ h1) hlt2 (by simp [pt]) (by simpa [pt] using hcap) (by
          have := addrT_len ha
          rw [join_pt]; omega)
      refine (show Calls _ _ _ _ _ from hj).mono ?_
      rintro e w2 ⟨rfl, hb2⟩
      have Hw := Lib.hid (Hf.out.trans (Fp.of_below hb2) (fun _ _ h => h))
      clear hb2 hj
      rw [join_pt]
      go_wp2_with fail
      go_ret
      exact ⟨rfl, Hw.out⟩
end Go.Proofs.YtaiimkcmgiceeaaDoor
namespace Go.Proofs.YtaiimkcmgiceeaaDoor
set_option linter.unusedVariables false
set_option linter.unusedSimpArgs false
open Go.RowKit Go.Lib Go.Sort

set_option maxHeartbeats 2000000 in
theorem point_text (a : Nat) (ha : a < 4294967296) (p : Nat) (hp : p < 65536) (w : World) (ht : Tb w) :
    Calls Tryd.prog 41 #[.agg #[.int .u32 a, .int .u16 p]] w (Ret1 (str (withT 58 a p)) w) := by
  have hl1 := addrT_len ha
  have hl2 := dec_len 5 p (by omega) (by omega)
  have hadd1 : ∀ W, (Op.stringOp .add ⟨(addrT a).toArray⟩ ⟨#[58]⟩).run Tryd.prog W = .ok (str (addrT a ++ [58])) W := fun W => run_string_add_lists W (addrT a) [58] (by omega) (by simp)
  have hadd2 : ∀ W, (Op.stringOp .add ⟨(addrT a ++ [58]).toArray⟩ ⟨(decDigits p).toArray⟩).run Tryd.prog W = .ok (str (addrT a ++ [58] ++ decDigits p)) W := fun W => run_string_add_lists W (addrT a ++ [58]) (decDigits p) (by simp; omega) (by omega)
  have hw16 : IntKind.i64.wrap (p : Int) = p := IntWalk.i64_in _ (by omega)
  go_enter Tryd.func41, Tryd.ntmps41
  go_wp2_with fail
  have h0 : (w.alloc (.cells #[.int .u32 a, .int .u16 p] 27)).cell? ⟨w.heap.size, 0, none⟩ = some (.int .u32 a) := by simp
  have h1 : (w.alloc (.cells #[.int .u32 a, .int .u16 p] 27)).cell? ⟨w.heap.size, 1, none⟩ = some (.int .u16 p) := by simp
  have hn0 : NoW w (w.alloc (.cells #[.int .u32 a, .int .u16 p] 27)) := (Fp.refl _ _).alloc _
  generalize w.alloc (.cells #[.int .u32 a, .int .u16 p] 27) = w0 at *
  generalize w.heap.size = g at *
  have Hl : withT 58 a p = addrT a ++ 58 :: decDigits p := rfl
  have HL := Lib.hid Hl
  clear Hl
  have ht0 := ht.low hn0
  have hT := fun W (h : NoW w0 W) => ad_text a ha W (ht0.low h)
  have hI := fun W (h : NoW w0 W) => itoa_any p (by omega) W (ht0.low h)
  have lg : g < w0.heap.size := cell_lt h0
  have hkk : ∀ wx, NoW w0 wx → wx.cell? ⟨g, 0, none⟩ = some (.int .u32 a) ∧ wx.cell? ⟨g, 1, none⟩ = some (.int .u16 p) :=
    fun wx hn => ⟨(hn.cell (p := ⟨g, 0, none⟩) lg id).trans h0, (hn.cell (p := ⟨g, 1, none⟩) lg id).trans h1⟩
  have Hkk := Lib.hid hkk
  have HT := Lib.hid hT
  have HI := Lib.hid hI
  have Hn0 := Lib.hid hn0
  clear hkk h0 h1 hT hI ht0 ht hn0 ha
  go_region_held3 (fun wx => wx.cell? ⟨g, 0, none⟩ = some (.int .u32 a) ∧ wx.cell? ⟨g, 1, none⟩ = some (.int .u16 p)) (first | exact Hkk.out _ hn | exact Hkk.out _ (Fp.drew (Fp.refl _ _)))
    (first | (go_at_call 51; refine (HT.out _ (by first | exact hn | exact Fp.drew (Fp.refl _ _))).mono ?_; rintro e w1 ⟨rfl, hq⟩; have hm : NoW w0 w1 := Fp.trans (by first | exact hn | exact Fp.drew (Fp.refl _ _)) hq (fun _ _ h => h); clear hq; (try clear hn); have hn := hm; clear hm) | (go_at_call 40; refine (HI.out _ (by first | exact hn | exact Fp.drew (Fp.refl _ _))).mono ?_; rintro e w1 ⟨rfl, hq⟩; have hm : NoW w0 w1 := Fp.trans (by first | exact hn | exact Fp.drew (Fp.refl _ _)) hq (fun _ _ h => h); clear hq; (try clear hn); have hn := hm; clear hm))
  all_goals go_wp2_with fail
  all_goals go_ret
  all_goals exact ⟨by rw [HL.out]; rfl, Hn0.out.trans hn (fun _ _ h => h)⟩

set_option maxHeartbeats 1000000 in
theorem less_ok (a p b q : Nat) (w : World) :
    Calls Tryd.prog 57 #[.agg #[.int .u32 a, .int .u16 p], .agg #[.int .u32 b, .int .u16 q]] w (Ret1 (.bool (decide (a < b ∨ a = b ∧ p < q))) w) := by
  by_cases h : a = b
  · subst h
    have e : decide (a < a ∨ a = a ∧ p < q) = decide (p < q) := by simp
    rw [e]
    clear e
    go_enter Tryd.func57, Tryd.ntmps57
    go_wp2_with fail
    go_ret
    exact ⟨rfl, ((Fp.refl _ _).alloc _).alloc _⟩
  · have e : decide (a < b ∨ a = b ∧ p < q) = decide (a < b) := by simp [h]
    rw [e]
    have h2 : ((a : Int) == (b : Int)) = false := by simp; omega
    clear e h
    go_enter Tryd.func57, Tryd.ntmps57
    go_wp2_with fail
    go_ret
    exact ⟨rfl, ((Fp.refl _ _).alloc _).alloc _⟩
end Go.Proofs.YtaiimkcmgiceeaaDoor
namespace Go.Proofs.YtaiimkcmgiceeaaDoor
set_option linter.unusedVariables false
set_option linter.unusedSimpArgs false
open Go.RowKit Go.Lib Go.Sort
theorem box2 (w : World) (A B : Obj) : ((w.alloc A).alloc B).heap[w.heap.size]? = some A ∧ ((w.alloc A).alloc B).heap[w.heap.size + 1]? = some B := by
  refine ⟨?_, ?_⟩
  · exact (((Fp.refl (fun _ => False) (w.alloc A)).alloc B).block w.heap.size (by simp) id).trans (heap_alloc_new w A)
  · simpa using heap_alloc_new (w.alloc A) B

set_option maxHeartbeats 1000000 in
theorem live_ok (r a p b q r2 a2 p2 b2 q2 st dl : Int) (h : Value) (now : Int) (w : World) : Calls Tryd.prog 20 #[.agg #[.int .u8 r, .int .u32 a, .int .u16 p, .int .u32 b, .int .u16 q, .int .u8 r2, .int .u32 a2, .int .u16 p2, .int .u32 b2, .int .u16 q2, .int .i64 st, .int .i64 dl, h], .int .i64 now] w (Ret1 (.bool (decide (now < dl))) w) := by
  go_enter Tryd.func20, Tryd.ntmps20
  go_wp2_with fail
  go_ret
  exact ⟨rfl, (Fp.refl _ _).alloc _⟩

set_option maxHeartbeats 1000000 in
theorem other_t (r a p b q r2 a2 p2 b2 q2 st dl : Int) (h : Value) (w : World) : Calls Tryd.prog 34 #[.agg #[.int .u8 r, .int .u32 a, .int .u16 p, .int .u32 b, .int .u16 q, .int .u8 r2, .int .u32 a2, .int .u16 p2, .int .u32 b2, .int .u16 q2, .int .i64 st, .int .i64 dl, h], .bool true] w (Ret1 (.agg #[.int .u8 r, .int .u32 a, .int .u16 p, .int .u32 b, .int .u16 q]) w) := by
  go_enter Tryd.func34, Tryd.ntmps34
  go_wp2_with fail
  refine bodyPost_ret (v := .agg #[.int .u8 r, .int .u32 a, .int .u16 p, .int .u32 b, .int .u16 q]) (by simp only [results, Tryd.results34]; go_simp) rfl ⟨rfl, ?_⟩
  (repeat (first | exact Fp.refl _ _ | refine Fp.drew ?_ | refine Fp.drewN ?_ _ | refine Fp.alloc ?_ _ | (refine Fp.setCell ?_ (Or.inl (by simp)) _) | (refine Fp.setCell ?_ (Or.inl (by simp; omega)) _) | refine Fp.trans ?_ (by assumption) (fun _ _ h => h)))

set_option maxHeartbeats 1000000 in
theorem other_f (r a p b q r2 a2 p2 b2 q2 st dl : Int) (h : Value) (w : World) : Calls Tryd.prog 34 #[.agg #[.int .u8 r, .int .u32 a, .int .u16 p, .int .u32 b, .int .u16 q, .int .u8 r2, .int .u32 a2, .int .u16 p2, .int .u32 b2, .int .u16 q2, .int .i64 st, .int .i64 dl, h], .bool false] w (Ret1 (.agg #[.int .u8 r2, .int .u32 a2, .int .u16 p2, .int .u32 b2, .int .u16 q2]) w) := by
  go_enter Tryd.func34, Tryd.ntmps34
  go_wp2_with fail
  refine bodyPost_ret (v := .agg #[.int .u8 r2, .int .u32 a2, .int .u16 p2, .int .u32 b2, .int .u16 q2]) (by simp only [results, Tryd.results34]; go_simp) rfl ⟨rfl, ?_⟩
  (repeat (first | exact Fp.refl _ _ | refine Fp.drew ?_ | refine Fp.drewN ?_ _ | refine Fp.alloc ?_ _ | (refine Fp.setCell ?_ (Or.inl (by simp)) _) | (refine Fp.setCell ?_ (Or.inl (by simp; omega)) _) | refine Fp.trans ?_ (by assumption) (fun _ _ h => h)))

set_option maxHeartbeats 1000000 in
theorem turn_t (r a p b q r2 a2 p2 b2 q2 st dl : Int) (h : Value) (w : World) : Calls Tryd.prog 16 #[.agg #[.int .u8 r, .int .u32 a, .int .u16 p, .int .u32 b, .int .u16 q, .int .u8 r2, .int .u32 a2, .int .u16 p2, .int .u32 b2, .int .u16 q2, .int .i64 st, .int .i64 dl, h], .bool true] w (Ret1 (.agg #[.int .u32 b, .int .u16 q, .int .u32 a, .int .u16 p]) w) := by
  go_enter Tryd.func16, Tryd.ntmps16
  go_wp2_with fail
  have hn0 : NoW w ((w.alloc (.cells #[.int .u8 r, .int .u32 a, .int .u16 p, .int .u32 b, .int .u16 q, .int .u8 r2, .int .u32 a2, .int .u16 p2, .int .u32 b2, .int .u16 q2, .int .i64 st, .int .i64 dl, h] 32)).alloc (.cells #[.int .u32 0, .int .u16 0, .int .u32 0, .int .u16 0] 53)) := ((Fp.refl _ _).alloc _).alloc _
  have hb0 : ((w.alloc (.cells #[.int .u8 r, .int .u32 a, .int .u16 p, .int .u32 b, .int .u16 q, .int .u8 r2, .int .u32 a2, .int .u16 p2, .int .u32 b2, .int .u16 q2, .int .i64 st, .int .i64 dl, h] 32)).alloc (.cells #[.int .u32 0, .int .u16 0, .int .u32 0, .int .u16 0] 53)).heap[w.heap.size + 1]? = some (.cells #[.int .u32 0, .int .u16 0, .int .u32 0, .int .u16 0] 53) := by
    exact (box2 w _ _).2
  refine (other_t r a p b q r2 a2 p2 b2 q2 st dl h _).mono ?_
  rintro e v ⟨rfl, hp⟩
  have hb := (hp.block _ (Array.getElem?_eq_some_iff.1 hb0).1 id).trans hb0
  have Hn := Lib.hid (hn0.trans hp (fun _ _ h => h))
  have hgl : w.heap.size ≤ w.heap.size + 1 := by omega
  clear hp hn0 hb0
  generalize w.heap.size + 1 = g at *
  have lg : g < v.heap.size := (Array.getElem?_eq_some_iff.1 hb).1
  have c0 : v.cell? ⟨g, 0, none⟩ = some (.int .u32 0) := by simp [World.cell?, hb]
  have c1 : v.cell? ⟨g, 1, none⟩ = some (.int .u16 0) := by simp [World.cell?, hb]
  have c2 : v.cell? ⟨g, 2, none⟩ = some (.int .u32 0) := by simp [World.cell?, hb]
  have c3 : v.cell? ⟨g, 3, none⟩ = some (.int .u16 0) := by simp [World.cell?, hb]
  have z0 : v.frozen? ⟨g, 0, none⟩ = false := by simp [World.frozen?, hb]
  have z1 : v.frozen? ⟨g, 1, none⟩ = false := by simp [World.frozen?, hb]
  have z2 : v.frozen? ⟨g, 2, none⟩ = false := by simp [World.frozen?, hb]
  have z3 : v.frozen? ⟨g, 3, none⟩ = false := by simp [World.frozen?, hb]
  clear hb
  go_wp2_with fail
  refine bodyPost_ret (v := .agg #[.int .u32 b, .int .u16 q, .int .u32 a, .int .u16 p]) (by simp only [results, Tryd.results16]; go_simp) rfl ⟨rfl, ?_⟩
  repeat (first | exact Hn.out | refine Fp.alloc ?_ _ | (refine Fp.setCell ?_ (Or.inl (by assumption)) _))

set_option maxHeartbeats 1000000 in
theorem turn_f (r a p b q r2 a2 p2 b2 q2 st dl : Int) (h : Value) (w : World) : Calls Tryd.prog 16 #[.agg #[.int .u8 r, .int .u32 a, .int .u16 p, .int .u32 b, .int .u16 q, .int .u8 r2, .int .u32 a2, .int .u16 p2, .int .u32 b2, .int .u16 q2, .int .i64 st, .int .i64 dl, h], .bool false] w (Ret1 (.agg #[.int .u32 b2, .int .u16 q2, .int .u32 a2, .int .u16 p2]) w) := by
  go_enter Tryd.func16, Tryd.ntmps16
  go_wp2_with fail
  have hn0 : NoW w ((w.alloc (.cells #[.int .u8 r, .int .u32 a, .int .u16 p, .int .u32 b, .int .u16 q, .int .u8 r2, .int .u32 a2, .int .u16 p2, .int .u32 b2, .int .u16 q2, .int .i64 st, .int .i64 dl, h] 32)).alloc (.cells #[.int .u32 0, .int .u16 0, .int .u32 0, .int .u16 0] 53)) := ((Fp.refl _ _).alloc _).alloc _
  have hb0 : ((w.alloc (.cells #[.int .u8 r, .int .u32 a, .int .u16 p, .int .u32 b, .int .u16 q, .int .u8 r2, .int .u32 a2, .int .u16 p2, .int .u32 b2, .int .u16 q2, .int .i64 st, .int .i64 dl, h] 32)).alloc (.cells #[.int .u32 0, .int .u16 0, .int .u32 0, .int .u16 0] 53)).heap[w.heap.size + 1]? = some (.cells #[.int .u32 0, .int .u16 0, .int .u32 0, .int .u16 0] 53) := by
    exact (box2 w _ _).2
  refine (other_f r a p b q r2 a2 p2 b2 q2 st dl h _).mono ?_
  rintro e v ⟨rfl, hp⟩
  have hb := (hp.block _ (Array.getElem?_eq_some_iff.1 hb0).1 id).trans hb0
  have Hn := Lib.hid (hn0.trans hp (fun _ _ h => h))
  have hgl : w.heap.size ≤ w.heap.size + 1 := by omega
  clear hp hn0 hb0
  generalize w.heap.size + 1 = g at *
  have lg : g < v.heap.size := (Array.getElem?_eq_some_iff.1 hb).1
  have c0 : v.cell? ⟨g, 0, none⟩ = some (.int .u32 0) := by simp [World.cell?, hb]
  have c1 : v.cell? ⟨g, 1, none⟩ = some (.int .u16 0) := by simp [World.cell?, hb]
  have c2 : v.cell? ⟨g, 2, none⟩ = some (.int .u32 0) := by simp [World.cell?, hb]
  have c3 : v.cell? ⟨g, 3, none⟩ = some (.int .u16 0) := by simp [World.cell?, hb]
  have z0 : v.frozen? ⟨g, 0, none⟩ = false := by simp [World.frozen?, hb]
  have z1 : v.frozen? ⟨g, 1, none⟩ = false := by simp [World.frozen?, hb]
  have z2 : v.frozen? ⟨g, 2, none⟩ = false := by simp [World.frozen?, hb]
  have z3 : v.frozen? ⟨g, 3, none⟩ = false := by simp [World.frozen?, hb]
  clear hb
  go_wp2_with fail
  refine bodyPost_ret (v := .agg #[.int .u32 b2, .int .u16 q2, .int .u32 a2, .int .u16 p2]) (by simp only [results, Tryd.results16]; go_simp) rfl ⟨rfl, ?_⟩
  repeat (first | exact Hn.out | refine Fp.alloc ?_ _ | (refine Fp.setCell ?_ (Or.inl (by assumption)) _))

set_option maxHeartbeats 1000000 in
theorem inside_t (r a p b q r2 a2 p2 b2 q2 st dl : Int) (h : Value) (w : World) : Calls Tryd.prog 17 #[.agg #[.int .u8 r, .int .u32 a, .int .u16 p, .int .u32 b, .int .u16 q, .int .u8 r2, .int .u32 a2, .int .u16 p2, .int .u32 b2, .int .u16 q2, .int .i64 st, .int .i64 dl, h], .bool true] w (Ret1 (.agg #[.int .u32 a, .int .u16 p, .int .u32 b, .int .u16 q]) w) := by
  go_enter Tryd.func17, Tryd.ntmps17
  go_wp2_with fail
  have hn0 : NoW w ((w.alloc (.cells #[.int .u8 r, .int .u32 a, .int .u16 p, .int .u32 b, .int .u16 q, .int .u8 r2, .int .u32 a2, .int .u16 p2, .int .u32 b2, .int .u16 q2, .int .i64 st, .int .i64 dl, h] 32)).alloc (.cells #[.int .u32 0, .int .u16 0, .int .u32 0, .int .u16 0] 53)) := ((Fp.refl _ _).alloc _).alloc _
  have hb0 : ((w.alloc (.cells #[.int .u8 r, .int .u32 a, .int .u16 p, .int .u32 b, .int .u16 q, .int .u8 r2, .int .u32 a2, .int .u16 p2, .int .u32 b2, .int .u16 q2, .int .i64 st, .int .i64 dl, h] 32)).alloc (.cells #[.int .u32 0, .int .u16 0, .int .u32 0, .int .u16 0] 53)).heap[w.heap.size + 1]? = some (.cells #[.int .u32 0, .int .u16 0, .int .u32 0, .int .u16 0] 53) := by
    exact (box2 w _ _).2
  refine (other_t r a p b q r2 a2 p2 b2 q2 st dl h _).mono ?_
  rintro e v ⟨rfl, hp⟩
  have hb := (hp.block _ (Array.getElem?_eq_some_iff.1 hb0).1 id).trans hb0
  have Hn := Lib.hid (hn0.trans hp (fun _ _ h => h))
  have hgl : w.heap.size ≤ w.heap.size + 1 := by omega
  clear hp hn0 hb0
  generalize w.heap.size + 1 = g at *
  have lg : g < v.heap.size := (Array.getElem?_eq_some_iff.1 hb).1
  have c0 : v.cell? ⟨g, 0, none⟩ = some (.int .u32 0) := by simp [World.cell?, hb]
  have c1 : v.cell? ⟨g, 1, none⟩ = some (.int .u16 0) := by simp [World.cell?, hb]
  have c2 : v.cell? ⟨g, 2, none⟩ = some (.int .u32 0) := by simp [World.cell?, hb]
  have c3 : v.cell? ⟨g, 3, none⟩ = some (.int .u16 0) := by simp [World.cell?, hb]
  have z0 : v.frozen? ⟨g, 0, none⟩ = false := by simp [World.frozen?, hb]
  have z1 : v.frozen? ⟨g, 1, none⟩ = false := by simp [World.frozen?, hb]
  have z2 : v.frozen? ⟨g, 2, none⟩ = false := by simp [World.frozen?, hb]
  have z3 : v.frozen? ⟨g, 3, none⟩ = false := by simp [World.frozen?, hb]
  clear hb
  go_wp2_with fail
  refine bodyPost_ret (v := .agg #[.int .u32 a, .int .u16 p, .int .u32 b, .int .u16 q]) (by simp only [results, Tryd.results17]; go_simp) rfl ⟨rfl, ?_⟩
  repeat (first | exact Hn.out | refine Fp.alloc ?_ _ | (refine Fp.setCell ?_ (Or.inl (by assumption)) _))

set_option maxHeartbeats 1000000 in
theorem inside_f (r a p b q r2 a2 p2 b2 q2 st dl : Int) (h : Value) (w : World) : Calls Tryd.prog 17 #[.agg #[.int .u8 r, .int .u32 a, .int .u16 p, .int .u32 b, .int .u16 q, .int .u8 r2, .int .u32 a2, .int .u16 p2, .int .u32 b2, .int .u16 q2, .int .i64 st, .int .i64 dl, h], .bool false] w (Ret1 (.agg #[.int .u32 a2, .int .u16 p2, .int .u32 b2, .int .u16 q2]) w) := by
  go_enter Tryd.func17, Tryd.ntmps17
  go_wp2_with fail
  have hn0 : NoW w ((w.alloc (.cells #[.int .u8 r, .int .u32 a, .int .u16 p, .int .u32 b, .int .u16 q, .int .u8 r2, .int .u32 a2, .int .u16 p2, .int .u32 b2, .int .u16 q2, .int .i64 st, .int .i64 dl, h] 32)).alloc (.cells #[.int .u32 0, .int .u16 0, .int .u32 0, .int .u16 0] 53)) := ((Fp.refl _ _).alloc _).alloc _
  have hb0 : ((w.alloc (.cells #[.int .u8 r, .int .u32 a, .int .u16 p, .int .u32 b, .int .u16 q, .int .u8 r2, .int .u32 a2, .int .u16 p2, .int .u32 b2, .int .u16 q2, .int .i64 st, .int .i64 dl, h] 32)).alloc (.cells #[.int .u32 0, .int .u16 0, .int .u32 0, .int .u16 0] 53)).heap[w.heap.size + 1]? = some (.cells #[.int .u32 0, .int .u16 0, .int .u32 0, .int .u16 0] 53) := by
    exact (box2 w _ _).2
  refine (other_f r a p b q r2 a2 p2 b2 q2 st dl h _).mono ?_
  rintro e v ⟨rfl, hp⟩
  have hb := (hp.block _ (Array.getElem?_eq_some_iff.1 hb0).1 id).trans hb0
  have Hn := Lib.hid (hn0.trans hp (fun _ _ h => h))
  have hgl : w.heap.size ≤ w.heap.size + 1 := by omega
  clear hp hn0 hb0
  generalize w.heap.size + 1 = g at *
  have lg : g < v.heap.size := (Array.getElem?_eq_some_iff.1 hb).1
  have c0 : v.cell? ⟨g, 0, none⟩ = some (.int .u32 0) := by simp [World.cell?, hb]
  have c1 : v.cell? ⟨g, 1, none⟩ = some (.int .u16 0) := by simp [World.cell?, hb]
  have c2 : v.cell? ⟨g, 2, none⟩ = some (.int .u32 0) := by simp [World.cell?, hb]
  have c3 : v.cell? ⟨g, 3, none⟩ = some (.int .u16 0) := by simp [World.cell?, hb]
  have z0 : v.frozen? ⟨g, 0, none⟩ = false := by simp [World.frozen?, hb]
  have z1 : v.frozen? ⟨g, 1, none⟩ = false := by simp [World.frozen?, hb]
  have z2 : v.frozen? ⟨g, 2, none⟩ = false := by simp [World.frozen?, hb]
  have z3 : v.frozen? ⟨g, 3, none⟩ = false := by simp [World.frozen?, hb]
  clear hb
  go_wp2_with fail
  refine bodyPost_ret (v := .agg #[.int .u32 a2, .int .u16 p2, .int .u32 b2, .int .u16 q2]) (by simp only [results, Tryd.results17]; go_simp) rfl ⟨rfl, ?_⟩
  repeat (first | exact Hn.out | refine Fp.alloc ?_ _ | (refine Fp.setCell ?_ (Or.inl (by assumption)) _))

set_option maxHeartbeats 1000000 in
theorem match_orig (r a p b q r2 a2 p2 b2 q2 st dl : Int) (h : Value) (w : World) : Calls Tryd.prog 31 #[.agg #[.int .u8 r, .int .u32 a, .int .u16 p, .int .u32 b, .int .u16 q, .int .u8 r2, .int .u32 a2, .int .u16 p2, .int .u32 b2, .int .u16 q2, .int .i64 st, .int .i64 dl, h], .agg #[.int .u8 r, .int .u32 a, .int .u16 p, .int .u32 b, .int .u16 q]] w (Ret1 (.tuple #[.bool false, .bool true]) w) := by
  go_enter Tryd.func31, Tryd.ntmps31
  go_wp2_with fail
  refine bodyPost_ret (v := .tuple #[.bool false, .bool true]) (by simp [results, Tryd.results31, go_sem]) rfl ⟨rfl, ((Fp.refl _ _).alloc _).alloc _⟩

set_option maxHeartbeats 1000000 in
theorem match_reply0 (r a p b q a2 p2 b2 q2 st dl : Int) (h : Value) (w : World) (hne : (a2 == a) = false) : Calls Tryd.prog 31 #[.agg #[.int .u8 r, .int .u32 a, .int .u16 p, .int .u32 b, .int .u16 q, .int .u8 r, .int .u32 a2, .int .u16 p2, .int .u32 b2, .int .u16 q2, .int .i64 st, .int .i64 dl, h], .agg #[.int .u8 r, .int .u32 a2, .int .u16 p2, .int .u32 b2, .int .u16 q2]] w (Ret1 (.tuple #[.bool true, .bool true]) w) := by
  go_enter Tryd.func31, Tryd.ntmps31
  go_wp2_with fail
  refine bodyPost_ret (v := .tuple #[.bool true, .bool true]) (by simp [results, Tryd.results31, go_sem]) rfl ⟨rfl, ((Fp.refl _ _).alloc _).alloc _⟩

set_option maxHeartbeats 1000000 in
theorem match_reply1 (r a p b q p2 b2 q2 st dl : Int) (h : Value) (w : World) (hne : (p2 == p) = false) : Calls Tryd.prog 31 #[.agg #[.int .u8 r, .int .u32 a, .int .u16 p, .int .u32 b, .int .u16 q, .int .u8 r, .int .u32 a, .int .u16 p2, .int .u32 b2, .int .u16 q2, .int .i64 st, .int .i64 dl, h], .agg #[.int .u8 r, .int .u32 a, .int .u16 p2, .int .u32 b2, .int .u16 q2]] w (Ret1 (.tuple #[.bool true, .bool true]) w) := by
  go_enter Tryd.func31, Tryd.ntmps31
  go_wp2_with fail
  refine bodyPost_ret (v := .tuple #[.bool true, .bool true]) (by simp [results, Tryd.results31, go_sem]) rfl ⟨rfl, ((Fp.refl _ _).alloc _).alloc _⟩

set_option maxHeartbeats 1000000 in
theorem match_reply2 (r a p b q b2 q2 st dl : Int) (h : Value) (w : World) (hne : (b2 == b) = false) : Calls Tryd.prog 31 #[.agg #[.int .u8 r, .int .u32 a, .int .u16 p, .int .u32 b, .int .u16 q, .int .u8 r, .int .u32 a, .int .u16 p, .int .u32 b2, .int .u16 q2, .int .i64 st, .int .i64 dl, h], .agg #[.int .u8 r, .int .u32 a, .int .u16 p, .int .u32 b2, .int .u16 q2]] w (Ret1 (.tuple #[.bool true, .bool true]) w) := by
  go_enter Tryd.func31, Tryd.ntmps31
  go_wp2_with fail
  refine bodyPost_ret (v := .tuple #[.bool true, .bool true]) (by simp [results, Tryd.results31, go_sem]) rfl ⟨rfl, ((Fp.refl _ _).alloc _).alloc _⟩

set_option maxHeartbeats 1000000 in
theorem match_reply3 (r a p b q q2 st dl : Int) (h : Value) (w : World) (hne : (q2 == q) = false) : Calls Tryd.prog 31 #[.agg #[.int .u8 r, .int .u32 a, .int .u16 p, .int .u32 b, .int .u16 q, .int .u8 r, .int .u32 a, .int .u16 p, .int .u32 b, .int .u16 q2, .int .i64 st, .int .i64 dl, h], .agg #[.int .u8 r, .int .u32 a, .int .u16 p, .int .u32 b, .int .u16 q2]] w (Ret1 (.tuple #[.bool true, .bool true]) w) := by
  go_enter Tryd.func31, Tryd.ntmps31
  go_wp2_with fail
  refine bodyPost_ret (v := .tuple #[.bool true, .bool true]) (by simp [results, Tryd.results31, go_sem]) rfl ⟨rfl, ((Fp.refl _ _).alloc _).alloc _⟩
end Go.Proofs.YtaiimkcmgiceeaaDoor
namespace Go.Proofs.YtaiimkcmgiceeaaDoor
set_option linter.unusedVariables false
set_option linter.unusedSimpArgs false
open Go.RowKit Go.Lib Go.Sort

def flowN (k : Nat) : Nat := if k = 1 then 2 else if k = 6 then 3 else if k = 17 then 1 else 0
theorem flowN_lt (k : Nat) : flowN k < 4 := by unfold flowN; split <;> (try split) <;> (try split) <;> omega
/-- How long a state lasts, any numbers. -/
def toN (f : Nat) (s : Int) : Int := if 0 ≤ s ∧ s ≤ 7 then lastN f s.toNat else 0

set_option maxHeartbeats 1000000 in
set_option maxRecDepth 100000 in
theorem flow_ok (k : Nat) (w : World) : Calls Tryd.prog 27 #[.int .u8 k] w fun e w' => e = .returned (.int .i64 (flowN k : Nat)) ∧ w' = w := by
  by_cases h1 : k = 1
  · subst h1
    go_enter Tryd.func27, Tryd.ntmps27
    go_wp2_with fail
    go_ret
    exact ⟨rfl, rfl⟩
  · have e1 : ((k : Int) == 1) = false := beq_eq_false_iff_ne.2 (by omega)
    by_cases h6 : k = 6
    · subst h6
      go_enter Tryd.func27, Tryd.ntmps27
      go_wp2_with fail
      go_ret
      exact ⟨rfl, rfl⟩
    · have e6 : ((k : Int) == 6) = false := beq_eq_false_iff_ne.2 (by omega)
      by_cases h17 : k = 17
      · subst h17
        go_enter Tryd.func27, Tryd.ntmps27
        go_wp2_with fail
        go_ret
        exact ⟨rfl, rfl⟩
      · have e17 : ((k : Int) == 17) = false := beq_eq_false_iff_ne.2 (by omega)
        have hf : flowN k = 0 := by simp [flowN, h1, h6, h17]
        rw [hf]
        go_enter Tryd.func27, Tryd.ntmps27
        go_wp2_with fail
        go_ret
        exact ⟨rfl, rfl⟩

set_option maxHeartbeats 1000000 in
set_option maxRecDepth 100000 in
theorem timeout_ok (f : Nat) (hf : f < 4) (s : Int) (w : World) (ht : Tb w) : Calls Tryd.prog 36 #[.int .i64 f, .int .i64 s] w fun e w' => e = .returned (.int .i64 (toN f s)) ∧ w' = w := by
  have hlast := ht.lasts
  have Hlast := Lib.hid hlast
  clear hlast ht
  have hf0 : ¬ ((f : Int) < 0) := by omega
  have hf1 : decide ((4 : Int) ≤ (f : Int)) = false := by simp; omega
  by_cases h0 : s < 0
  · have ht : toN f s = 0 := by unfold toN; rw [if_neg (by omega)]
    rw [ht]
    have d0 : decide (s < 0) = true := by simpa using h0
    go_enter Tryd.func36, Tryd.ntmps36
    go_wp2_with fail
    go_ret
    exact ⟨rfl, rfl⟩
  · have d0 : decide (s < 0) = false := by simpa using h0
    by_cases h7 : s ≤ 7
    · have d7 : decide (7 < s) = false := by simpa using h7
      obtain ⟨n, rfl⟩ : ∃ n : Nat, s = n := ⟨s.toNat, by omega⟩
      have ht : toN f n = lastN f n := by unfold toN; rw [if_pos (by omega), Int.toNat_natCast]
      rw [ht]
      have hc : w.cell? ⟨0, f * 8 + n, none⟩ = some (.int .i64 (lastN f n)) := Hlast.out f n hf (by omega)
      have hn8 : n < 8 := by omega
      go_enter Tryd.func36, Tryd.ntmps36
      go_wp2_with fail
      go_ret
      exact ⟨rfl, rfl⟩
    · have d7 : decide (7 < s) = true := by simp; omega
      have ht : toN f s = 0 := by unfold toN; rw [if_neg (by omega)]
      rw [ht]
      go_enter Tryd.func36, Tryd.ntmps36
      go_wp2_with fail
      go_ret
      exact ⟨rfl, rfl⟩

theorem tmay_ok (f : Nat) (hf : f < 4) (s : Int) (w : World) (ht : Tb w) : Calls Tryd.prog 38 #[.int .i64 f, .int .i64 s] w fun e w' => e = .returned (.bool (decide (0 < toN f s))) ∧ w' = w := by
  have k := fun W hW => timeout_ok f hf s W hW
  have K := Lib.hid k
  have Ht := Lib.hid ht
  clear k ht
  go_enter Tryd.func38, Tryd.ntmps38
  go_wp2_with fail
  refine (K.out _ Ht.out).mono ?_
  rintro e w' ⟨rfl, rfl⟩
  go_wp2_with fail
  go_ret
  exact ⟨rfl, rfl⟩

/-- May a tuple be? -/
def tupB (k p q : Nat) : Bool := isWord k && (decide (k ≠ 1) || decide (p = 0) || decide (q = 0))
set_option maxHeartbeats 1000000 in
set_option maxRecDepth 100000 in
theorem tup_ok (k a p b q : Nat) (hk : k < 256) (w : World) (ht : Tb w) : Calls Tryd.prog 37 #[.agg #[.int .u8 k, .int .u32 a, .int .u16 p, .int .u32 b, .int .u16 q]] w (Ret1 (.bool (tupB k p q)) w) := by
  obtain ⟨bm, o, h1, h2, h3⟩ := ht.words
  have lg := cell_lt h1
  have hl := (h3 _ ((Fp.refl (fun _ => False) w).alloc (.cells #[.int .u8 k, .int .u32 a, .int .u16 p, .int .u32 b, .int .u16 q] 29) |>.block _ (Array.getElem?_eq_some_iff.1 h2).1 id |>.trans h2) k hk).1
  rcases hw : isWord k with _ | _
  · have e : tupB k p q = false := by simp [tupB, hw]
    rw [e]
    rw [hw] at hl
    have Hl := hl
    clear e h3 hw ht
    go_enter Tryd.func37, Tryd.ntmps37
    go_wp2_with fail
    go_ret
    exact ⟨rfl, (Fp.refl _ _).alloc _⟩
  · rw [hw] at hl
    clear h3 ht
    by_cases k1 : k = 1
    · have ek : ((k : Int) == 1) = true := by rw [k1]; rfl
      have ek2 : ((k : Int) != 1) = false := by rw [k1]; rfl
      by_cases p0 : p = 0
      · have ep : ((p : Int) == 0) = true := by rw [p0]; rfl
        rw [show tupB k p q = true by simp [tupB, hw, p0]]
        clear k1 p0
        go_enter Tryd.func37, Tryd.ntmps37
        go_wp2_with fail
        go_ret
        exact ⟨rfl, (Fp.refl _ _).alloc _⟩
      · have ep : ((p : Int) == 0) = false := beq_eq_false_iff_ne.2 (by omega)
        rw [show tupB k p q = decide (q = 0) by have := hw; rw [k1] at this; simp [tupB, this, p0, k1]]
        clear k1
        have eq : ((q : Int) == 0) = decide (q = 0) := by rw [Bool.eq_iff_iff]; simp
        go_enter Tryd.func37, Tryd.ntmps37
        go_wp2_with fail
        go_ret
        exact ⟨rfl, (Fp.refl _ _).alloc _⟩
    · have ek : ((k : Int) == 1) = false := beq_eq_false_iff_ne.2 (by omega)
      have ek2 : ((k : Int) != 1) = true := by simp; omega
      rw [show tupB k p q = true by simp [tupB, hw, k1]]
      go_enter Tryd.func37, Tryd.ntmps37
      go_wp2_with fail
      go_ret
      exact ⟨rfl, (Fp.refl _ _).alloc _⟩
end Go.Proofs.YtaiimkcmgiceeaaDoor
namespace Go.Proofs.YtaiimkcmgiceeaaDoor
set_option linter.unusedVariables false
set_option linter.unusedSimpArgs false
open Go.RowKit Go.Lib Go.Sort

/-- Two tuples, compared. -/
theorem tup_eql (r a p b q r2 a2 p2 b2 q2 : Nat) (W : World) : (binOp .eql 29 (.agg #[.int .u8 r2, .int .u32 a2, .int .u16 p2, .int .u32 b2, .int .u16 q2]) (.agg #[.int .u8 r, .int .u32 a, .int .u16 p, .int .u32 b, .int .u16 q])).run Tryd.prog W =
    .ok (.bool (decide (r2 = r ∧ a2 = a ∧ p2 = p ∧ b2 = b ∧ q2 = q))) W := by
  have beq : ∀ x y : Nat, x ≠ y → ((x : Int) == (y : Int)) = false := fun x y h => beq_eq_false_iff_ne.2 (by omega)
  by_cases h1 : r2 = r
  · subst h1
    by_cases h2 : a2 = a
    · subst h2
      by_cases h3 : p2 = p
      · subst h3
        by_cases h4 : b2 = b
        · subst h4
          by_cases h5 : q2 = q
          · subst h5; simp only [and_self, decide_true]; go_simp
          · have e := beq _ _ h5
            rw [decide_eq_false (by simp [h5])]; go_simp
        · have e := beq _ _ h4
          rw [decide_eq_false (by simp [h4])]; go_simp
      · have e := beq _ _ h3
        rw [decide_eq_false (by simp [h3])]; go_simp
    · have e := beq _ _ h2
      rw [decide_eq_false (by simp [h2])]; go_simp
  · have e := beq _ _ h1
    rw [decide_eq_false (by simp [h1])]; go_simp

/-- May an entry be? -/
def chkB (r p q r2 p2 q2 : Nat) (same : Bool) (st dl : Int) (n : Nat) : Bool :=
  tupB r p q && tupB r2 p2 q2 && !same && decide (r = r2) && decide (0 < toN (flowN r) st) && decide (0 ≤ dl ∧ dl ≤ 1099511635216) && decide (1 ≤ n ∧ n ≤ 2)

set_option maxHeartbeats 2000000 in
set_option maxRecDepth 100000 in
theorem check_t1 (r a p b q r2 a2 p2 b2 q2 : Nat) (st dl : Int) (o : Option Addr) (n c : Nat) (hr : r < 256) (hr2 : r2 < 256) (w : World) (ht : Tb w) (h1 : tupB r p q = false) :
    Calls Tryd.prog 19 #[.agg #[.int .u8 r, .int .u32 a, .int .u16 p, .int .u32 b, .int .u16 q, .int .u8 r2, .int .u32 a2, .int .u16 p2, .int .u32 b2, .int .u16 q2, .int .i64 st, .int .i64 dl, .slice o n c]] w (Ret1 (.int .i64 2) w) := by
  have k1 := fun W hW => tup_ok r a p b q hr W hW
  have k2 := fun W hW => tup_ok r2 a2 p2 b2 q2 hr2 W hW
  have k3 := fun W => flow_ok r W
  have k4 := fun W hW => tmay_ok (flowN r) (flowN_lt r) st W hW
  rw [h1] at k1
  have K1 := Lib.hid k1
  have K2 := Lib.hid k2
  have K3 := Lib.hid k3
  have K4 := Lib.hid k4
  have Ht := Lib.hid ht
  clear k1 k2 k3 k4 ht
  go_enter Tryd.func19, Tryd.ntmps19
  go_wp2_with fail
  have hn0 : NoW w (w.alloc (.cells #[.int .u8 r, .int .u32 a, .int .u16 p, .int .u32 b, .int .u16 q, .int .u8 r2, .int .u32 a2, .int .u16 p2, .int .u32 b2, .int .u16 q2, .int .i64 st, .int .i64 dl, .slice o n c] 32)) := (Fp.refl _ _).alloc _
  have hb0 := heap_alloc_new w (.cells #[.int .u8 r, .int .u32 a, .int .u16 p, .int .u32 b, .int .u16 q, .int .u8 r2, .int .u32 a2, .int .u16 p2, .int .u32 b2, .int .u16 q2, .int .i64 st, .int .i64 dl, .slice o n c] 32)
  generalize w.alloc (.cells #[.int .u8 r, .int .u32 a, .int .u16 p, .int .u32 b, .int .u16 q, .int .u8 r2, .int .u32 a2, .int .u16 p2, .int .u32 b2, .int .u16 q2, .int .i64 st, .int .i64 dl, .slice o n c] 32) = w0 at *
  generalize w.heap.size = g at *
  have Hn0 := Lib.hid hn0
  have B := Lib.hid hb0
  clear hn0 hb0
  refine (K1.out _ (Ht.out.low Hn0.out)).mono ?_
  rintro e v0 ⟨rfl, hp⟩
  have Hm0 := Lib.hid (Hn0.out.trans hp (fun _ _ h => h))
  have hb := (hp.block _ (Array.getElem?_eq_some_iff.1 B.out).1 id).trans B.out
  clear B hp Hn0
  have B := Lib.hid hb
  clear hb
  have c0 : v0.cell? ⟨g, 0, none⟩ = some (.int .u8 r) := by simp [World.cell?, B.out]
  have c1 : v0.cell? ⟨g, 1, none⟩ = some (.int .u32 a) := by simp [World.cell?, B.out]
  have c2 : v0.cell? ⟨g, 2, none⟩ = some (.int .u16 p) := by simp [World.cell?, B.out]
  have c3 : v0.cell? ⟨g, 3, none⟩ = some (.int .u32 b) := by simp [World.cell?, B.out]
  have c4 : v0.cell? ⟨g, 4, none⟩ = some (.int .u16 q) := by simp [World.cell?, B.out]
  have c5 : v0.cell? ⟨g, 5, none⟩ = some (.int .u8 r2) := by simp [World.cell?, B.out]
  have c6 : v0.cell? ⟨g, 6, none⟩ = some (.int .u32 a2) := by simp [World.cell?, B.out]
  have c7 : v0.cell? ⟨g, 7, none⟩ = some (.int .u16 p2) := by simp [World.cell?, B.out]
  have c8 : v0.cell? ⟨g, 8, none⟩ = some (.int .u32 b2) := by simp [World.cell?, B.out]
  have c9 : v0.cell? ⟨g, 9, none⟩ = some (.int .u16 q2) := by simp [World.cell?, B.out]
  have c10 : v0.cell? ⟨g, 10, none⟩ = some (.int .i64 st) := by simp [World.cell?, B.out]
  have c11 : v0.cell? ⟨g, 11, none⟩ = some (.int .i64 dl) := by simp [World.cell?, B.out]
  have c12 : v0.cell? ⟨g, 12, none⟩ = some (.slice o n c) := by simp [World.cell?, B.out]
  go_wp2_with fail
  go_ret
  exact ⟨rfl, Hm0.out⟩

set_option maxHeartbeats 2000000 in
set_option maxRecDepth 100000 in
theorem check_t2 (r a p b q r2 a2 p2 b2 q2 : Nat) (st dl : Int) (o : Option Addr) (n c : Nat) (hr : r < 256) (hr2 : r2 < 256) (w : World) (ht : Tb w) (h1 : tupB r p q = true) (h2 : tupB r2 p2 q2 = false) :
    Calls Tryd.prog 19 #[.agg #[.int .u8 r, .int .u32 a, .int .u16 p, .int .u32 b, .int .u16 q, .int .u8 r2, .int .u32 a2, .int .u16 p2, .int .u32 b2, .int .u16 q2, .int .i64 st, .int .i64 dl, .slice o n c]] w (Ret1 (.int .i64 2) w) := by
  have k1 := fun W hW => tup_ok r a p b q hr W hW
  have k2 := fun W hW => tup_ok r2 a2 p2 b2 q2 hr2 W hW
  have k3 := fun W => flow_ok r W
  have k4 := fun W hW => tmay_ok (flowN r) (flowN_lt r) st W hW
  rw [h1] at k1
  rw [h2] at k2
  have K1 := Lib.hid k1
  have K2 := Lib.hid k2
  have K3 := Lib.hid k3
  have K4 := Lib.hid k4
  have Ht := Lib.hid ht
  clear k1 k2 k3 k4 ht
  go_enter Tryd.func19, Tryd.ntmps19
  go_wp2_with fail
  have hn0 : NoW w (w.alloc (.cells #[.int .u8 r, .int .u32 a, .int .u16 p, .int .u32 b, .int .u16 q, .int .u8 r2, .int .u32 a2, .int .u16 p2, .int .u32 b2, .int .u16 q2, .int .i64 st, .int .i64 dl, .slice o n c] 32)) := (Fp.refl _ _).alloc _
  have hb0 := heap_alloc_new w (.cells #[.int .u8 r, .int .u32 a, .int .u16 p, .int .u32 b, .int .u16 q, .int .u8 r2, .int .u32 a2, .int .u16 p2, .int .u32 b2, .int .u16 q2, .int .i64 st, .int .i64 dl, .slice o n c] 32)
  generalize w.alloc (.cells #[.int .u8 r, .int .u32 a, .int .u16 p, .int .u32 b, .int .u16 q, .int .u8 r2, .int .u32 a2, .int .u16 p2, .int .u32 b2, .int .u16 q2, .int .i64 st, .int .i64 dl, .slice o n c] 32) = w0 at *
  generalize w.heap.size = g at *
  have Hn0 := Lib.hid hn0
  have B := Lib.hid hb0
  clear hn0 hb0
  refine (K1.out _ (Ht.out.low Hn0.out)).mono ?_
  rintro e v0 ⟨rfl, hp⟩
  have Hm0 := Lib.hid (Hn0.out.trans hp (fun _ _ h => h))
  have hb := (hp.block _ (Array.getElem?_eq_some_iff.1 B.out).1 id).trans B.out
  clear B hp Hn0
  have B := Lib.hid hb
  clear hb
  have c0 : v0.cell? ⟨g, 0, none⟩ = some (.int .u8 r) := by simp [World.cell?, B.out]
  have c1 : v0.cell? ⟨g, 1, none⟩ = some (.int .u32 a) := by simp [World.cell?, B.out]
  have c2 : v0.cell? ⟨g, 2, none⟩ = some (.int .u16 p) := by simp [World.cell?, B.out]
  have c3 : v0.cell? ⟨g, 3, none⟩ = some (.int .u32 b) := by simp [World.cell?, B.out]
  have c4 : v0.cell? ⟨g, 4, none⟩ = some (.int .u16 q) := by simp [World.cell?, B.out]
  have c5 : v0.cell? ⟨g, 5, none⟩ = some (.int .u8 r2) := by simp [World.cell?, B.out]
  have c6 : v0.cell? ⟨g, 6, none⟩ = some (.int .u32 a2) := by simp [World.cell?, B.out]
  have c7 : v0.cell? ⟨g, 7, none⟩ = some (.int .u16 p2) := by simp [World.cell?, B.out]
  have c8 : v0.cell? ⟨g, 8, none⟩ = some (.int .u32 b2) := by simp [World.cell?, B.out]
  have c9 : v0.cell? ⟨g, 9, none⟩ = some (.int .u16 q2) := by simp [World.cell?, B.out]
  have c10 : v0.cell? ⟨g, 10, none⟩ = some (.int .i64 st) := by simp [World.cell?, B.out]
  have c11 : v0.cell? ⟨g, 11, none⟩ = some (.int .i64 dl) := by simp [World.cell?, B.out]
  have c12 : v0.cell? ⟨g, 12, none⟩ = some (.slice o n c) := by simp [World.cell?, B.out]
  go_wp2_with fail
  clear c0 c1 c2 c3 c4 c5 c6 c7 c8 c9 c10 c11 c12
  refine (K2.out _ (Ht.out.low Hm0.out)).mono ?_
  rintro e v1 ⟨rfl, hp⟩
  have Hm1 := Lib.hid (Hm0.out.trans hp (fun _ _ h => h))
  have hb := (hp.block _ (Array.getElem?_eq_some_iff.1 B.out).1 id).trans B.out
  clear B hp Hm0
  have B := Lib.hid hb
  clear hb
  have c0 : v1.cell? ⟨g, 0, none⟩ = some (.int .u8 r) := by simp [World.cell?, B.out]
  have c1 : v1.cell? ⟨g, 1, none⟩ = some (.int .u32 a) := by simp [World.cell?, B.out]
  have c2 : v1.cell? ⟨g, 2, none⟩ = some (.int .u16 p) := by simp [World.cell?, B.out]
  have c3 : v1.cell? ⟨g, 3, none⟩ = some (.int .u32 b) := by simp [World.cell?, B.out]
  have c4 : v1.cell? ⟨g, 4, none⟩ = some (.int .u16 q) := by simp [World.cell?, B.out]
  have c5 : v1.cell? ⟨g, 5, none⟩ = some (.int .u8 r2) := by simp [World.cell?, B.out]
  have c6 : v1.cell? ⟨g, 6, none⟩ = some (.int .u32 a2) := by simp [World.cell?, B.out]
  have c7 : v1.cell? ⟨g, 7, none⟩ = some (.int .u16 p2) := by simp [World.cell?, B.out]
  have c8 : v1.cell? ⟨g, 8, none⟩ = some (.int .u32 b2) := by simp [World.cell?, B.out]
  have c9 : v1.cell? ⟨g, 9, none⟩ = some (.int .u16 q2) := by simp [World.cell?, B.out]
  have c10 : v1.cell? ⟨g, 10, none⟩ = some (.int .i64 st) := by simp [World.cell?, B.out]
  have c11 : v1.cell? ⟨g, 11, none⟩ = some (.int .i64 dl) := by simp [World.cell?, B.out]
  have c12 : v1.cell? ⟨g, 12, none⟩ = some (.slice o n c) := by simp [World.cell?, B.out]
  go_wp2_with fail
  go_ret
  exact ⟨rfl, Hm1.out⟩

set_option maxHeartbeats 2000000 in
set_option maxRecDepth 100000 in
theorem check_same (r a p b q r2 a2 p2 b2 q2 : Nat) (st dl : Int) (o : Option Addr) (n c : Nat) (hr : r < 256) (hr2 : r2 < 256) (w : World) (ht : Tb w) (h1 : tupB r p q = true) (h2 : tupB r2 p2 q2 = true) (hne : decide (r = r2 ∧ a = a2 ∧ p = p2 ∧ b = b2 ∧ q = q2) = true) :
    Calls Tryd.prog 19 #[.agg #[.int .u8 r, .int .u32 a, .int .u16 p, .int .u32 b, .int .u16 q, .int .u8 r2, .int .u32 a2, .int .u16 p2, .int .u32 b2, .int .u16 q2, .int .i64 st, .int .i64 dl, .slice o n c]] w (Ret1 (.int .i64 2) w) := by
  have k1 := fun W hW => tup_ok r a p b q hr W hW
  have k2 := fun W hW => tup_ok r2 a2 p2 b2 q2 hr2 W hW
  have k3 := fun W => flow_ok r W
  have k4 := fun W hW => tmay_ok (flowN r) (flowN_lt r) st W hW
  rw [h1] at k1
  rw [h2] at k2
  have heq := fun W => tup_eql r2 a2 p2 b2 q2 r a p b q W
  rw [hne] at heq
  clear hne
  have K1 := Lib.hid k1
  have K2 := Lib.hid k2
  have K3 := Lib.hid k3
  have K4 := Lib.hid k4
  have Ht := Lib.hid ht
  clear k1 k2 k3 k4 ht
  go_enter Tryd.func19, Tryd.ntmps19
  go_wp2_with fail
  have hn0 : NoW w (w.alloc (.cells #[.int .u8 r, .int .u32 a, .int .u16 p, .int .u32 b, .int .u16 q, .int .u8 r2, .int .u32 a2, .int .u16 p2, .int .u32 b2, .int .u16 q2, .int .i64 st, .int .i64 dl, .slice o n c] 32)) := (Fp.refl _ _).alloc _
  have hb0 := heap_alloc_new w (.cells #[.int .u8 r, .int .u32 a, .int .u16 p, .int .u32 b, .int .u16 q, .int .u8 r2, .int .u32 a2, .int .u16 p2, .int .u32 b2, .int .u16 q2, .int .i64 st, .int .i64 dl, .slice o n c] 32)
  generalize w.alloc (.cells #[.int .u8 r, .int .u32 a, .int .u16 p, .int .u32 b, .int .u16 q, .int .u8 r2, .int .u32 a2, .int .u16 p2, .int .u32 b2, .int .u16 q2, .int .i64 st, .int .i64 dl, .slice o n c] 32) = w0 at *
  generalize w.heap.size = g at *
  have Hn0 := Lib.hid hn0
  have B := Lib.hid hb0
  clear hn0 hb0
  refine (K1.out _ (Ht.out.low Hn0.out)).mono ?_
  rintro e v0 ⟨rfl, hp⟩
  have Hm0 := Lib.hid (Hn0.out.trans hp (fun _ _ h => h))
  have hb := (hp.block _ (Array.getElem?_eq_some_iff.1 B.out).1 id).trans B.out
  clear B hp Hn0
  have B := Lib.hid hb
  clear hb
  have c0 : v0.cell? ⟨g, 0, none⟩ = some (.int .u8 r) := by simp [World.cell?, B.out]
  have c1 : v0.cell? ⟨g, 1, none⟩ = some (.int .u32 a) := by simp [World.cell?, B.out]
  have c2 : v0.cell? ⟨g, 2, none⟩ = some (.int .u16 p) := by simp [World.cell?, B.out]
  have c3 : v0.cell? ⟨g, 3, none⟩ = some (.int .u32 b) := by simp [World.cell?, B.out]
  have c4 : v0.cell? ⟨g, 4, none⟩ = some (.int .u16 q) := by simp [World.cell?, B.out]
  have c5 : v0.cell? ⟨g, 5, none⟩ = some (.int .u8 r2) := by simp [World.cell?, B.out]
  have c6 : v0.cell? ⟨g, 6, none⟩ = some (.int .u32 a2) := by simp [World.cell?, B.out]
  have c7 : v0.cell? ⟨g, 7, none⟩ = some (.int .u16 p2) := by simp [World.cell?, B.out]
  have c8 : v0.cell? ⟨g, 8, none⟩ = some (.int .u32 b2) := by simp [World.cell?, B.out]
  have c9 : v0.cell? ⟨g, 9, none⟩ = some (.int .u16 q2) := by simp [World.cell?, B.out]
  have c10 : v0.cell? ⟨g, 10, none⟩ = some (.int .i64 st) := by simp [World.cell?, B.out]
  have c11 : v0.cell? ⟨g, 11, none⟩ = some (.int .i64 dl) := by simp [World.cell?, B.out]
  have c12 : v0.cell? ⟨g, 12, none⟩ = some (.slice o n c) := by simp [World.cell?, B.out]
  go_wp2_with fail
  clear c0 c1 c2 c3 c4 c5 c6 c7 c8 c9 c10 c11 c12
  refine (K2.out _ (Ht.out.low Hm0.out)).mono ?_
  rintro e v1 ⟨rfl, hp⟩
  have Hm1 := Lib.hid (Hm0.out.trans hp (fun _ _ h => h))
  have hb := (hp.block _ (Array.getElem?_eq_some_iff.1 B.out).1 id).trans B.out
  clear B hp Hm0
  have B := Lib.hid hb
  clear hb
  have c0 : v1.cell? ⟨g, 0, none⟩ = some (.int .u8 r) := by simp [World.cell?, B.out]
  have c1 : v1.cell? ⟨g, 1, none⟩ = some (.int .u32 a) := by simp [World.cell?, B.out]
  have c2 : v1.cell? ⟨g, 2, none⟩ = some (.int .u16 p) := by simp [World.cell?, B.out]
  have c3 : v1.cell? ⟨g, 3, none⟩ = some (.int .u32 b) := by simp [World.cell?, B.out]
  have c4 : v1.cell? ⟨g, 4, none⟩ = some (.int .u16 q) := by simp [World.cell?, B.out]
  have c5 : v1.cell? ⟨g, 5, none⟩ = some (.int .u8 r2) := by simp [World.cell?, B.out]
  have c6 : v1.cell? ⟨g, 6, none⟩ = some (.int .u32 a2) := by simp [World.cell?, B.out]
  have c7 : v1.cell? ⟨g, 7, none⟩ = some (.int .u16 p2) := by simp [World.cell?, B.out]
  have c8 : v1.cell? ⟨g, 8, none⟩ = some (.int .u32 b2) := by simp [World.cell?, B.out]
  have c9 : v1.cell? ⟨g, 9, none⟩ = some (.int .u16 q2) := by simp [World.cell?, B.out]
  have c10 : v1.cell? ⟨g, 10, none⟩ = some (.int .i64 st) := by simp [World.cell?, B.out]
  have c11 : v1.cell? ⟨g, 11, none⟩ = some (.int .i64 dl) := by simp [World.cell?, B.out]
  have c12 : v1.cell? ⟨g, 12, none⟩ = some (.slice o n c) := by simp [World.cell?, B.out]
  go_wp2_with fail
  go_ret
  exact ⟨rfl, Hm1.out⟩

set_option maxHeartbeats 2000000 in
set_option maxRecDepth 100000 in
theorem check_proto (r a p b q r2 a2 p2 b2 q2 : Nat) (st dl : Int) (o : Option Addr) (n c : Nat) (hr : r < 256) (hr2 : r2 < 256) (w : World) (ht : Tb w) (h1 : tupB r p q = true) (h2 : tupB r2 p2 q2 = true) (hne : decide (r = r2 ∧ a = a2 ∧ p = p2 ∧ b = b2 ∧ q = q2) = false) (hpr : r ≠ r2) :
    Calls Tryd.prog 19 #[.agg #[.int .u8 r, .int .u32 a, .int .u16 p, .int .u32 b, .int .u16 q, .int .u8 r2, .int .u32 a2, .int .u16 p2, .int .u32 b2, .int .u16 q2, .int .i64 st, .int .i64 dl, .slice o n c]] w (Ret1 (.int .i64 2) w) := by
  have k1 := fun W hW => tup_ok r a p b q hr W hW
  have k2 := fun W hW => tup_ok r2 a2 p2 b2 q2 hr2 W hW
  have k3 := fun W => flow_ok r W
  have k4 := fun W hW => tmay_ok (flowN r) (flowN_lt r) st W hW
  rw [h1] at k1
  rw [h2] at k2
  have heq := fun W => tup_eql r2 a2 p2 b2 q2 r a p b q W
  rw [hne] at heq
  clear hne
  have hp1 : ((r : Int) == (r2 : Int)) = false := beq_eq_false_iff_ne.2 (by omega)
  have hp2 : ((r : Int) != (r2 : Int)) = true := by simp; omega
  clear hpr
  have K1 := Lib.hid k1
  have K2 := Lib.hid k2
  have K3 := Lib.hid k3
  have K4 := Lib.hid k4
  have Ht := Lib.hid ht
  clear k1 k2 k3 k4 ht
  go_enter Tryd.func19, Tryd.ntmps19
  go_wp2_with fail
  have hn0 : NoW w (w.alloc (.cells #[.int .u8 r, .int .u32 a, .int .u16 p, .int .u32 b, .int .u16 q, .int .u8 r2, .int .u32 a2, .int .u16 p2, .int .u32 b2, .int .u16 q2, .int .i64 st, .int .i64 dl, .slice o n c] 32)) := (Fp.refl _ _).alloc _
  have hb0 := heap_alloc_new w (.cells #[.int .u8 r, .int .u32 a, .int .u16 p, .int .u32 b, .int .u16 q, .int .u8 r2, .int .u32 a2, .int .u16 p2, .int .u32 b2, .int .u16 q2, .int .i64 st, .int .i64 dl, .slice o n c] 32)
  generalize w.alloc (.cells #[.int .u8 r, .int .u32 a, .int .u16 p, .int .u32 b, .int .u16 q, .int .u8 r2, .int .u32 a2, .int .u16 p2, .int .u32 b2, .int .u16 q2, .int .i64 st, .int .i64 dl, .slice o n c] 32) = w0 at *
  generalize w.heap.size = g at *
  have Hn0 := Lib.hid hn0
  have B := Lib.hid hb0
  clear hn0 hb0
  refine (K1.out _ (Ht.out.low Hn0.out)).mono ?_
  rintro e v0 ⟨rfl, hp⟩
  have Hm0 := Lib.hid (Hn0.out.trans hp (fun _ _ h => h))
  have hb := (hp.block _ (Array.getElem?_eq_some_iff.1 B.out).1 id).trans B.out
  clear B hp Hn0
  have B := Lib.hid hb
  clear hb
  have c0 : v0.cell? ⟨g, 0, none⟩ = some (.int .u8 r) := by simp [World.cell?, B.out]
  have c1 : v0.cell? ⟨g, 1, none⟩ = some (.int .u32 a) := by simp [World.cell?, B.out]
  have c2 : v0.cell? ⟨g, 2, none⟩ = some (.int .u16 p) := by simp [World.cell?, B.out]
  have c3 : v0.cell? ⟨g, 3, none⟩ = some (.int .u32 b) := by simp [World.cell?, B.out]
  have c4 : v0.cell? ⟨g, 4, none⟩ = some (.int .u16 q) := by simp [World.cell?, B.out]
  have c5 : v0.cell? ⟨g, 5, none⟩ = some (.int .u8 r2) := by simp [World.cell?, B.out]
  have c6 : v0.cell? ⟨g, 6, none⟩ = some (.int .u32 a2) := by simp [World.cell?, B.out]
  have c7 : v0.cell? ⟨g, 7, none⟩ = some (.int .u16 p2) := by simp [World.cell?, B.out]
  have c8 : v0.cell? ⟨g, 8, none⟩ = some (.int .u32 b2) := by simp [World.cell?, B.out]
  have c9 : v0.cell? ⟨g, 9, none⟩ = some (.int .u16 q2) := by simp [World.cell?, B.out]
  have c10 : v0.cell? ⟨g, 10, none⟩ = some (.int .i64 st) := by simp [World.cell?, B.out]
  have c11 : v0.cell? ⟨g, 11, none⟩ = some (.int .i64 dl) := by simp [World.cell?, B.out]
  have c12 : v0.cell? ⟨g, 12, none⟩ = some (.slice o n c) := by simp [World.cell?, B.out]
  go_wp2_with fail
  clear c0 c1 c2 c3 c4 c5 c6 c7 c8 c9 c10 c11 c12
  refine (K2.out _ (Ht.out.low Hm0.out)).mono ?_
  rintro e v1 ⟨rfl, hp⟩
  have Hm1 := Lib.hid (Hm0.out.trans hp (fun _ _ h => h))
  have hb := (hp.block _ (Array.getElem?_eq_some_iff.1 B.out).1 id).trans B.out
  clear B hp Hm0
  have B := Lib.hid hb
  clear hb
  have c0 : v1.cell? ⟨g, 0, none⟩ = some (.int .u8 r) := by simp [World.cell?, B.out]
  have c1 : v1.cell? ⟨g, 1, none⟩ = some (.int .u32 a) := by simp [World.cell?, B.out]
  have c2 : v1.cell? ⟨g, 2, none⟩ = some (.int .u16 p) := by simp [World.cell?, B.out]
  have c3 : v1.cell? ⟨g, 3, none⟩ = some (.int .u32 b) := by simp [World.cell?, B.out]
  have c4 : v1.cell? ⟨g, 4, none⟩ = some (.int .u16 q) := by simp [World.cell?, B.out]
  have c5 : v1.cell? ⟨g, 5, none⟩ = some (.int .u8 r2) := by simp [World.cell?, B.out]
  have c6 : v1.cell? ⟨g, 6, none⟩ = some (.int .u32 a2) := by simp [World.cell?, B.out]
  have c7 : v1.cell? ⟨g, 7, none⟩ = some (.int .u16 p2) := by simp [World.cell?, B.out]
  have c8 : v1.cell? ⟨g, 8, none⟩ = some (.int .u32 b2) := by simp [World.cell?, B.out]
  have c9 : v1.cell? ⟨g, 9, none⟩ = some (.int .u16 q2) := by simp [World.cell?, B.out]
  have c10 : v1.cell? ⟨g, 10, none⟩ = some (.int .i64 st) := by simp [World.cell?, B.out]
  have c11 : v1.cell? ⟨g, 11, none⟩ = some (.int .i64 dl) := by simp [World.cell?, B.out]
  have c12 : v1.cell? ⟨g, 12, none⟩ = some (.slice o n c) := by simp [World.cell?, B.out]
  go_wp2_with fail
  go_ret
  exact ⟨rfl, Hm1.out⟩

set_option maxHeartbeats 2000000 in
set_option maxRecDepth 100000 in
theorem check_track (r a p b q r2 a2 p2 b2 q2 : Nat) (st dl : Int) (o : Option Addr) (n c : Nat) (hr : r < 256) (hr2 : r2 < 256) (w : World) (ht : Tb w) (h1 : tupB r p q = true) (h2 : tupB r2 p2 q2 = true) (hne : decide (r = r2 ∧ a = a2 ∧ p = p2 ∧ b = b2 ∧ q = q2) = false) (hpr : r = r2) (h4 : decide (0 < toN (flowN r) st) = false) :
    Calls Tryd.prog 19 #[.agg #[.int .u8 r, .int .u32 a, .int .u16 p, .int .u32 b, .int .u16 q, .int .u8 r2, .int .u32 a2, .int .u16 p2, .int .u32 b2, .int .u16 q2, .int .i64 st, .int .i64 dl, .slice o n c]] w (Ret1 (.int .i64 2) w) := by
  have k1 := fun W hW => tup_ok r a p b q hr W hW
  have k2 := fun W hW => tup_ok r2 a2 p2 b2 q2 hr2 W hW
  have k3 := fun W => flow_ok r W
  have k4 := fun W hW => tmay_ok (flowN r) (flowN_lt r) st W hW
  rw [h1] at k1
  rw [h2] at k2
  have heq := fun W => tup_eql r2 a2 p2 b2 q2 r a p b q W
  rw [hne] at heq
  clear hne
  have hp1 : ((r : Int) == (r2 : Int)) = true := by rw [hpr]; simp
  have hp2 : ((r : Int) != (r2 : Int)) = false := by rw [hpr]; simp
  clear hpr
  rw [h4] at k4
  clear h4
  have K1 := Lib.hid k1
  have K2 := Lib.hid k2
  have K3 := Lib.hid k3
  have K4 := Lib.hid k4
  have Ht := Lib.hid ht
  clear k1 k2 k3 k4 ht
  go_enter Tryd.func19, Tryd.ntmps19
  go_wp2_with fail
  have hn0 : NoW w (w.alloc (.cells #[.int .u8 r, .int .u32 a, .int .u16 p, .int .u32 b, .int .u16 q, .int .u8 r2, .int .u32 a2, .int .u16 p2, .int .u32 b2, .int .u16 q2, .int .i64 st, .int .i64 dl, .slice o n c] 32)) := (Fp.refl _ _).alloc _
  have hb0 := heap_alloc_new w (.cells #[.int .u8 r, .int .u32 a, .int .u16 p, .int .u32 b, .int .u16 q, .int .u8 r2, .int .u32 a2, .int .u16 p2, .int .u32 b2, .int .u16 q2, .int .i64 st, .int .i64 dl, .slice o n c] 32)
  generalize w.alloc (.cells #[.int .u8 r, .int .u32 a, .int .u16 p, .int .u32 b, .int .u16 q, .int .u8 r2, .int .u32 a2, .int .u16 p2, .int .u32 b2, .int .u16 q2, .int .i64 st, .int .i64 dl, .slice o n c] 32) = w0 at *
  generalize w.heap.size = g at *
  have Hn0 := Lib.hid hn0
  have B := Lib.hid hb0
  clear hn0 hb0
  refine (K1.out _ (Ht.out.low Hn0.out)).mono ?_
  rintro e v0 ⟨rfl, hp⟩
  have Hm0 := Lib.hid (Hn0.out.trans hp (fun _ _ h => h))
  have hb := (hp.block _ (Array.getElem?_eq_some_iff.1 B.out).1 id).trans B.out
  clear B hp Hn0
  have B := Lib.hid hb
  clear hb
  have c0 : v0.cell? ⟨g, 0, none⟩ = some (.int .u8 r) := by simp [World.cell?, B.out]
  have c1 : v0.cell? ⟨g, 1, none⟩ = some (.int .u32 a) := by simp [World.cell?, B.out]
  have c2 : v0.cell? ⟨g, 2, none⟩ = some (.int .u16 p) := by simp [World.cell?, B.out]
  have c3 : v0.cell? ⟨g, 3, none⟩ = some (.int .u32 b) := by simp [World.cell?, B.out]
  have c4 : v0.cell? ⟨g, 4, none⟩ = some (.int .u16 q) := by simp [World.cell?, B.out]
  have c5 : v0.cell? ⟨g, 5, none⟩ = some (.int .u8 r2) := by simp [World.cell?, B.out]
  have c6 : v0.cell? ⟨g, 6, none⟩ = some (.int .u32 a2) := by simp [World.cell?, B.out]
  have c7 : v0.cell? ⟨g, 7, none⟩ = some (.int .u16 p2) := by simp [World.cell?, B.out]
  have c8 : v0.cell? ⟨g, 8, none⟩ = some (.int .u32 b2) := by simp [World.cell?, B.out]
  have c9 : v0.cell? ⟨g, 9, none⟩ = some (.int .u16 q2) := by simp [World.cell?, B.out]
  have c10 : v0.cell? ⟨g, 10, none⟩ = some (.int .i64 st) := by simp [World.cell?, B.out]
  have c11 : v0.cell? ⟨g, 11, none⟩ = some (.int .i64 dl) := by simp [World.cell?, B.out]
  have c12 : v0.cell? ⟨g, 12, none⟩ = some (.slice o n c) := by simp [World.cell?, B.out]
  go_wp2_with fail
  clear c0 c1 c2 c3 c4 c5 c6 c7 c8 c9 c10 c11 c12
  refine (K2.out _ (Ht.out.low Hm0.out)).mono ?_
  rintro e v1 ⟨rfl, hp⟩
  have Hm1 := Lib.hid (Hm0.out.trans hp (fun _ _ h => h))
  have hb := (hp.block _ (Array.getElem?_eq_some_iff.1 B.out).1 id).trans B.out
  clear B hp Hm0
  have B := Lib.hid hb
  clear hb
  have c0 : v1.cell? ⟨g, 0, none⟩ = some (.int .u8 r) := by simp [World.cell?, B.out]
  have c1 : v1.cell? ⟨g, 1, none⟩ = some (.int .u32 a) := by simp [World.cell?, B.out]
  have c2 : v1.cell? ⟨g, 2, none⟩ = some (.int .u16 p) := by simp [World.cell?, B.out]
  have c3 : v1.cell? ⟨g, 3, none⟩ = some (.int .u32 b) := by simp [World.cell?, B.out]
  have c4 : v1.cell? ⟨g, 4, none⟩ = some (.int .u16 q) := by simp [World.cell?, B.out]
  have c5 : v1.cell? ⟨g, 5, none⟩ = some (.int .u8 r2) := by simp [World.cell?, B.out]
  have c6 : v1.cell? ⟨g, 6, none⟩ = some (.int .u32 a2) := by simp [World.cell?, B.out]
  have c7 : v1.cell? ⟨g, 7, none⟩ = some (.int .u16 p2) := by simp [World.cell?, B.out]
  have c8 : v1.cell? ⟨g, 8, none⟩ = some (.int .u32 b2) := by simp [World.cell?, B.out]
  have c9 : v1.cell? ⟨g, 9, none⟩ = some (.int .u16 q2) := by simp [World.cell?, B.out]
  have c10 : v1.cell? ⟨g, 10, none⟩ = some (.int .i64 st) := by simp [World.cell?, B.out]
  have c11 : v1.cell? ⟨g, 11, none⟩ = some (.int .i64 dl) := by simp [World.cell?, B.out]
  have c12 : v1.cell? ⟨g, 12, none⟩ = some (.slice o n c) := by simp [World.cell?, B.out]
  go_wp2_with fail
  go_quiet ((first | (go_at_call 27; exact Calls.quiet_of_same (K3.out _)) | (go_at_call 38; exact Calls.quiet_of_same (K4.out _ (Tb.low (Ht.out.low Hm1.out) (by first | exact Fp.refl _ _ | exact (Fp.refl _ _).drewN _ | exact (Fp.refl _ _).drew))))))
  go_wp2_with fail
  go_ret
  exact ⟨rfl, Hm1.out.drewN _⟩

set_option maxHeartbeats 2000000 in
set_option maxRecDepth 100000 in
theorem check_low (r a p b q r2 a2 p2 b2 q2 : Nat) (st dl : Int) (o : Option Addr) (n c : Nat) (hr : r < 256) (hr2 : r2 < 256) (w : World) (ht : Tb w) (h1 : tupB r p q = true) (h2 : tupB r2 p2 q2 = true) (hne : decide (r = r2 ∧ a = a2 ∧ p = p2 ∧ b = b2 ∧ q = q2) = false) (hpr : r = r2) (h4 : decide (0 < toN (flowN r) st) = true) (hd : dl < 0) :
    Calls Tryd.prog 19 #[.agg #[.int .u8 r, .int .u32 a, .int .u16 p, .int .u32 b, .int .u16 q, .int .u8 r2, .int .u32 a2, .int .u16 p2, .int .u32 b2, .int .u16 q2, .int .i64 st, .int .i64 dl, .slice o n c]] w (Ret1 (.int .i64 2) w) := by
  have k1 := fun W hW => tup_ok r a p b q hr W hW
  have k2 := fun W hW => tup_ok r2 a2 p2 b2 q2 hr2 W hW
  have k3 := fun W => flow_ok r W
  have k4 := fun W hW => tmay_ok (flowN r) (flowN_lt r) st W hW
  rw [h1] at k1
  rw [h2] at k2
  have heq := fun W => tup_eql r2 a2 p2 b2 q2 r a p b q W
  rw [hne] at heq
  clear hne
  have hp1 : ((r : Int) == (r2 : Int)) = true := by rw [hpr]; simp
  have hp2 : ((r : Int) != (r2 : Int)) = false := by rw [hpr]; simp
  clear hpr
  rw [h4] at k4
  clear h4
  have hd1 : decide (dl < 0) = true := by simpa using hd
  have K1 := Lib.hid k1
  have K2 := Lib.hid k2
  have K3 := Lib.hid k3
  have K4 := Lib.hid k4
  have Ht := Lib.hid ht
  clear k1 k2 k3 k4 ht
  go_enter Tryd.func19, Tryd.ntmps19
  go_wp2_with fail
  have hn0 : NoW w (w.alloc (.cells #[.int .u8 r, .int .u32 a, .int .u16 p, .int .u32 b, .int .u16 q, .int .u8 r2, .int .u32 a2, .int .u16 p2, .int .u32 b2, .int .u16 q2, .int .i64 st, .int .i64 dl, .slice o n c] 32)) := (Fp.refl _ _).alloc _
  have hb0 := heap_alloc_new w (.cells #[.int .u8 r, .int .u32 a, .int .u16 p, .int .u32 b, .int .u16 q, .int .u8 r2, .int .u32 a2, .int .u16 p2, .int .u32 b2, .int .u16 q2, .int .i64 st, .int .i64 dl, .slice o n c] 32)
  generalize w.alloc (.cells #[.int .u8 r, .int .u32 a, .int .u16 p, .int .u32 b, .int .u16 q, .int .u8 r2, .int .u32 a2, .int .u16 p2, .int .u32 b2, .int .u16 q2, .int .i64 st, .int .i64 dl, .slice o n c] 32) = w0 at *
  generalize w.heap.size = g at *
  have Hn0 := Lib.hid hn0
  have B := Lib.hid hb0
  clear hn0 hb0
  refine (K1.out _ (Ht.out.low Hn0.out)).mono ?_
  rintro e v0 ⟨rfl, hp⟩
  have Hm0 := Lib.hid (Hn0.out.trans hp (fun _ _ h => h))
  have hb := (hp.block _ (Array.getElem?_eq_some_iff.1 B.out).1 id).trans B.out
  clear B hp Hn0
  have B := Lib.hid hb
  clear hb
  have c0 : v0.cell? ⟨g, 0, none⟩ = some (.int .u8 r) := by simp [World.cell?, B.out]
  have c1 : v0.cell? ⟨g, 1, none⟩ = some (.int .u32 a) := by simp [World.cell?, B.out]
  have c2 : v0.cell? ⟨g, 2, none⟩ = some (.int .u16 p) := by simp [World.cell?, B.out]
  have c3 : v0.cell? ⟨g, 3, none⟩ = some (.int .u32 b) := by simp [World.cell?, B.out]
  have c4 : v0.cell? ⟨g, 4, none⟩ = some (.int .u16 q) := by simp [World.cell?, B.out]
  have c5 : v0.cell? ⟨g, 5, none⟩ = some (.int .u8 r2) := by simp [World.cell?, B.out]
  have c6 : v0.cell? ⟨g, 6, none⟩ = some (.int .u32 a2) := by simp [World.cell?, B.out]
  have c7 : v0.cell? ⟨g, 7, none⟩ = some (.int .u16 p2) := by simp [World.cell?, B.out]
  have c8 : v0.cell? ⟨g, 8, none⟩ = some (.int .u32 b2) := by simp [World.cell?, B.out]
  have c9 : v0.cell? ⟨g, 9, none⟩ = some (.int .u16 q2) := by simp [World.cell?, B.out]
  have c10 : v0.cell? ⟨g, 10, none⟩ = some (.int .i64 st) := by simp [World.cell?, B.out]
  have c11 : v0.cell? ⟨g, 11, none⟩ = some (.int .i64 dl) := by simp [World.cell?, B.out]
  have c12 : v0.cell? ⟨g, 12, none⟩ = some (.slice o n c) := by simp [World.cell?, B.out]
  go_wp2_with fail
  clear c0 c1 c2 c3 c4 c5 c6 c7 c8 c9 c10 c11 c12
  refine (K2.out _ (Ht.out.low Hm0.out)).mono ?_
  rintro e v1 ⟨rfl, hp⟩
  have Hm1 := Lib.hid (Hm0.out.trans hp (fun _ _ h => h))
  have hb := (hp.block _ (Array.getElem?_eq_some_iff.1 B.out).1 id).trans B.out
  clear B hp Hm0
  have B := Lib.hid hb
  clear hb
  have c0 : v1.cell? ⟨g, 0, none⟩ = some (.int .u8 r) := by simp [World.cell?, B.out]
  have c1 : v1.cell? ⟨g, 1, none⟩ = some (.int .u32 a) := by simp [World.cell?, B.out]
  have c2 : v1.cell? ⟨g, 2, none⟩ = some (.int .u16 p) := by simp [World.cell?, B.out]
  have c3 : v1.cell? ⟨g, 3, none⟩ = some (.int .u32 b) := by simp [World.cell?, B.out]
  have c4 : v1.cell? ⟨g, 4, none⟩ = some (.int .u16 q) := by simp [World.cell?, B.out]
  have c5 : v1.cell? ⟨g, 5, none⟩ = some (.int .u8 r2) := by simp [World.cell?, B.out]
  have c6 : v1.cell? ⟨g, 6, none⟩ = some (.int .u32 a2) := by simp [World.cell?, B.out]
  have c7 : v1.cell? ⟨g, 7, none⟩ = some (.int .u16 p2) := by simp [World.cell?, B.out]
  have c8 : v1.cell? ⟨g, 8, none⟩ = some (.int .u32 b2) := by simp [World.cell?, B.out]
  have c9 : v1.cell? ⟨g, 9, none⟩ = some (.int .u16 q2) := by simp [World.cell?, B.out]
  have c10 : v1.cell? ⟨g, 10, none⟩ = some (.int .i64 st) := by simp [World.cell?, B.out]
  have c11 : v1.cell? ⟨g, 11, none⟩ = some (.int .i64 dl) := by simp [World.cell?, B.out]
  have c12 : v1.cell? ⟨g, 12, none⟩ = some (.slice o n c) := by simp [World.cell?, B.out]
  go_wp2_with fail
  go_quiet ((first | (go_at_call 27; exact Calls.quiet_of_same (K3.out _)) | (go_at_call 38; exact Calls.quiet_of_same (K4.out _ (Tb.low (Ht.out.low Hm1.out) (by first | exact Fp.refl _ _ | exact (Fp.refl _ _).drewN _ | exact (Fp.refl _ _).drew))))))
  go_wp2_with fail
  go_ret
  exact ⟨rfl, Hm1.out.drewN _⟩

set_option maxHeartbeats 2000000 in
set_option maxRecDepth 100000 in
theorem check_high (r a p b q r2 a2 p2 b2 q2 : Nat) (st dl : Int) (o : Option Addr) (n c : Nat) (hr : r < 256) (hr2 : r2 < 256) (w : World) (ht : Tb w) (h1 : tupB r p q = true) (h2 : tupB r2 p2 q2 = true) (hne : decide (r = r2 ∧ a = a2 ∧ p = p2 ∧ b = b2 ∧ q = q2) = false) (hpr : r = r2) (h4 : decide (0 < toN (flowN r) st) = true) (hd : 1099511635216 < dl) :
    Calls Tryd.prog 19 #[.agg #[.int .u8 r, .int .u32 a, .int .u16 p, .int .u32 b, .int .u16 q, .int .u8 r2, .int .u32 a2, .int .u16 p2, .int .u32 b2, .int .u16 q2, .int .i64 st, .int .i64 dl, .slice o n c]] w (Ret1 (.int .i64 2) w) := by
  have k1 := fun W hW => tup_ok r a p b q hr W hW
  have k2 := fun W hW => tup_ok r2 a2 p2 b2 q2 hr2 W hW
  have k3 := fun W => flow_ok r W
  have k4 := fun W hW => tmay_ok (flowN r) (flowN_lt r) st W hW
  rw [h1] at k1
  rw [h2] at k2
  have heq := fun W => tup_eql r2 a2 p2 b2 q2 r a p b q W
  rw [hne] at heq
  clear hne
  have hp1 : ((r : Int) == (r2 : Int)) = true := by rw [hpr]; simp
  have hp2 : ((r : Int) != (r2 : Int)) = false := by rw [hpr]; simp
  clear hpr
  rw [h4] at k4
  clear h4
  have hd0 : decide (dl < 0) = false := by simp; omega
  have hd1 : decide (1099511635216 < dl) = true := by simpa using hd
  have K1 := Lib.hid k1
  have K2 := Lib.hid k2
  have K3 := Lib.hid k3
  have K4 := Lib.hid k4
  have Ht := Lib.hid ht
  clear k1 k2 k3 k4 ht
  go_enter Tryd.func19, Tryd.ntmps19
  go_wp2_with fail
  have hn0 : NoW w (w.alloc (.cells #[.int .u8 r, .int .u32 a, .int .u16 p, .int .u32 b, .int .u16 q, .int .u8 r2, .int .u32 a2, .int .u16 p2, .int .u32 b2, .int .u16 q2, .int .i64 st, .int .i64 dl, .slice o n c] 32)) := (Fp.refl _ _).alloc _
  have hb0 := heap_alloc_new w (.cells #[.int .u8 r, .int .u32 a, .int .u16 p, .int .u32 b, .int .u16 q, .int .u8 r2, .int .u32 a2, .int .u16 p2, .int .u32 b2, .int .u16 q2, .int .i64 st, .int .i64 dl, .slice o n c] 32)
  generalize w.alloc (.cells #[.int .u8 r, .int .u32 a, .int .u16 p, .int .u32 b, .int .u16 q, .int .u8 r2, .int .u32 a2, .int .u16 p2, .int .u32 b2, .int .u16 q2, .int .i64 st, .int .i64 dl, .slice o n c] 32) = w0 at *
  generalize w.heap.size = g at *
  have Hn0 := Lib.hid hn0
  have B := Lib.hid hb0
  clear hn0 hb0
  refine (K1.out _ (Ht.out.low Hn0.out)).mono ?_
  rintro e v0 ⟨rfl, hp⟩
  have Hm0 := Lib.hid (Hn0.out.trans hp (fun _ _ h => h))
  have hb := (hp.block _ (Array.getElem?_eq_some_iff.1 B.out).1 id).trans B.out
  clear B hp Hn0
  have B := Lib.hid hb
  clear hb
  have c0 : v0.cell? ⟨g, 0, none⟩ = some (.int .u8 r) := by simp [World.cell?, B.out]
  have c1 : v0.cell? ⟨g, 1, none⟩ = some (.int .u32 a) := by simp [World.cell?, B.out]
  have c2 : v0.cell? ⟨g, 2, none⟩ = some (.int .u16 p) := by simp [World.cell?, B.out]
  have c3 : v0.cell? ⟨g, 3, none⟩ = some (.int .u32 b) := by simp [World.cell?, B.out]
  have c4 : v0.cell? ⟨g, 4, none⟩ = some (.int .u16 q) := by simp [World.cell?, B.out]
  have c5 : v0.cell? ⟨g, 5, none⟩ = some (.int .u8 r2) := by simp [World.cell?, B.out]
  have c6 : v0.cell? ⟨g, 6, none⟩ = some (.int .u32 a2) := by simp [World.cell?, B.out]
  have c7 : v0.cell? ⟨g, 7, none⟩ = some (.int .u16 p2) := by simp [World.cell?, B.out]
  have c8 : v0.cell? ⟨g, 8, none⟩ = some (.int .u32 b2) := by simp [World.cell?, B.out]
  have c9 : v0.cell? ⟨g, 9, none⟩ = some (.int .u16 q2) := by simp [World.cell?, B.out]
  have c10 : v0.cell? ⟨g, 10, none⟩ = some (.int .i64 st) := by simp [World.cell?, B.out]
  have c11 : v0.cell? ⟨g, 11, none⟩ = some (.int .i64 dl) := by simp [World.cell?, B.out]
  have c12 : v0.cell? ⟨g, 12, none⟩ = some (.slice o n c) := by simp [World.cell?, B.out]
  go_wp2_with fail
  clear c0 c1 c2 c3 c4 c5 c6 c7 c8 c9 c10 c11 c12
  refine (K2.out _ (Ht.out.low Hm0.out)).mono ?_
  rintro e v1 ⟨rfl, hp⟩
  have Hm1 := Lib.hid (Hm0.out.trans hp (fun _ _ h => h))
  have hb := (hp.block _ (Array.getElem?_eq_some_iff.1 B.out).1 id).trans B.out
  clear B hp Hm0
  have B := Lib.hid hb
  clear hb
  have c0 : v1.cell? ⟨g, 0, none⟩ = some (.int .u8 r) := by simp [World.cell?, B.out]
  have c1 : v1.cell? ⟨g, 1, none⟩ = some (.int .u32 a) := by simp [World.cell?, B.out]
  have c2 : v1.cell? ⟨g, 2, none⟩ = some (.int .u16 p) := by simp [World.cell?, B.out]
  have c3 : v1.cell? ⟨g, 3, none⟩ = some (.int .u32 b) := by simp [World.cell?, B.out]
  have c4 : v1.cell? ⟨g, 4, none⟩ = some (.int .u16 q) := by simp [World.cell?, B.out]
  have c5 : v1.cell? ⟨g, 5, none⟩ = some (.int .u8 r2) := by simp [World.cell?, B.out]
  have c6 : v1.cell? ⟨g, 6, none⟩ = some (.int .u32 a2) := by simp [World.cell?, B.out]
  have c7 : v1.cell? ⟨g, 7, none⟩ = some (.int .u16 p2) := by simp [World.cell?, B.out]
  have c8 : v1.cell? ⟨g, 8, none⟩ = some (.int .u32 b2) := by simp [World.cell?, B.out]
  have c9 : v1.cell? ⟨g, 9, none⟩ = some (.int .u16 q2) := by simp [World.cell?, B.out]
  have c10 : v1.cell? ⟨g, 10, none⟩ = some (.int .i64 st) := by simp [World.cell?, B.out]
  have c11 : v1.cell? ⟨g, 11, none⟩ = some (.int .i64 dl) := by simp [World.cell?, B.out]
  have c12 : v1.cell? ⟨g, 12, none⟩ = some (.slice o n c) := by simp [World.cell?, B.out]
  go_wp2_with fail
  go_quiet ((first | (go_at_call 27; exact Calls.quiet_of_same (K3.out _)) | (go_at_call 38; exact Calls.quiet_of_same (K4.out _ (Tb.low (Ht.out.low Hm1.out) (by first | exact Fp.refl _ _ | exact (Fp.refl _ _).drewN _ | exact (Fp.refl _ _).drew))))))
  go_wp2_with fail
  go_ret
  exact ⟨rfl, Hm1.out.drewN _⟩

set_option maxHeartbeats 2000000 in
set_option maxRecDepth 100000 in
theorem check_few (r a p b q r2 a2 p2 b2 q2 : Nat) (st dl : Int) (o : Option Addr) (n c : Nat) (hr : r < 256) (hr2 : r2 < 256) (w : World) (ht : Tb w) (h1 : tupB r p q = true) (h2 : tupB r2 p2 q2 = true) (hne : decide (r = r2 ∧ a = a2 ∧ p = p2 ∧ b = b2 ∧ q = q2) = false) (hpr : r = r2) (h4 : decide (0 < toN (flowN r) st) = true) (hda : 0 ≤ dl) (hdb : dl ≤ 1099511635216) (hn : n < 1) :
    Calls Tryd.prog 19 #[.agg #[.int .u8 r, .int .u32 a, .int .u16 p, .int .u32 b, .int .u16 q, .int .u8 r2, .int .u32 a2, .int .u16 p2, .int .u32 b2, .int .u16 q2, .int .i64 st, .int .i64 dl, .slice o n c]] w (Ret1 (.int .i64 2) w) := by
  have k1 := fun W hW => tup_ok r a p b q hr W hW
  have k2 := fun W hW => tup_ok r2 a2 p2 b2 q2 hr2 W hW
  have k3 := fun W => flow_ok r W
  have k4 := fun W hW => tmay_ok (flowN r) (flowN_lt r) st W hW
  rw [h1] at k1
  rw [h2] at k2
  have heq := fun W => tup_eql r2 a2 p2 b2 q2 r a p b q W
  rw [hne] at heq
  clear hne
  have hp1 : ((r : Int) == (r2 : Int)) = true := by rw [hpr]; simp
  have hp2 : ((r : Int) != (r2 : Int)) = false := by rw [hpr]; simp
  clear hpr
  rw [h4] at k4
  clear h4
  have hd0 : decide (dl < 0) = false := by simp; omega
  have hd1 : decide (1099511635216 < dl) = false := by simp; omega
  have hn1 : decide ((n : Int) < 1) = true := by simp; omega
  have K1 := Lib.hid k1
  have K2 := Lib.hid k2
  have K3 := Lib.hid k3
  have K4 := Lib.hid k4
  have Ht := Lib.hid ht
  clear k1 k2 k3 k4 ht
  go_enter Tryd.func19, Tryd.ntmps19
  go_wp2_with fail
  have hn0 : NoW w (w.alloc (.cells #[.int .u8 r, .int .u32 a, .int .u16 p, .int .u32 b, .int .u16 q, .int .u8 r2, .int .u32 a2, .int .u16 p2, .int .u32 b2, .int .u16 q2, .int .i64 st, .int .i64 dl, .slice o n c] 32)) := (Fp.refl _ _).alloc _
  have hb0 := heap_alloc_new w (.cells #[.int .u8 r, .int .u32 a, .int .u16 p, .int .u32 b, .int .u16 q, .int .u8 r2, .int .u32 a2, .int .u16 p2, .int .u32 b2, .int .u16 q2, .int .i64 st, .int .i64 dl, .slice o n c] 32)
  generalize w.alloc (.cells #[.int .u8 r, .int .u32 a, .int .u16 p, .int .u32 b, .int .u16 q, .int .u8 r2, .int .u32 a2, .int .u16 p2, .int .u32 b2, .int .u16 q2, .int .i64 st, .int .i64 dl, .slice o n c] 32) = w0 at *
  generalize w.heap.size = g at *
  have Hn0 := Lib.hid hn0
  have B := Lib.hid hb0
  clear hn0 hb0
  refine (K1.out _ (Ht.out.low Hn0.out)).mono ?_
  rintro e v0 ⟨rfl, hp⟩
  have Hm0 := Lib.hid (Hn0.out.trans hp (fun _ _ h => h))
  have hb := (hp.block _ (Array.getElem?_eq_some_iff.1 B.out).1 id).trans B.out
  clear B hp Hn0
  have B := Lib.hid hb
  clear hb
  have c0 : v0.cell? ⟨g, 0, none⟩ = some (.int .u8 r) := by simp [World.cell?, B.out]
  have c1 : v0.cell? ⟨g, 1, none⟩ = some (.int .u32 a) := by simp [World.cell?, B.out]
  have c2 : v0.cell? ⟨g, 2, none⟩ = some (.int .u16 p) := by simp [World.cell?, B.out]
  have c3 : v0.cell? ⟨g, 3, none⟩ = some (.int .u32 b) := by simp [World.cell?, B.out]
  have c4 : v0.cell? ⟨g, 4, none⟩ = some (.int .u16 q) := by simp [World.cell?, B.out]
  have c5 : v0.cell? ⟨g, 5, none⟩ = some (.int .u8 r2) := by simp [World.cell?, B.out]
  have c6 : v0.cell? ⟨g, 6, none⟩ = some (.int .u32 a2) := by simp [World.cell?, B.out]
  have c7 : v0.cell? ⟨g, 7, none⟩ = some (.int .u16 p2) := by simp [World.cell?, B.out]
  have c8 : v0.cell? ⟨g, 8, none⟩ = some (.int .u32 b2) := by simp [World.cell?, B.out]
  have c9 : v0.cell? ⟨g, 9, none⟩ = some (.int .u16 q2) := by simp [World.cell?, B.out]
  have c10 : v0.cell? ⟨g, 10, none⟩ = some (.int .i64 st) := by simp [World.cell?, B.out]
  have c11 : v0.cell? ⟨g, 11, none⟩ = some (.int .i64 dl) := by simp [World.cell?, B.out]
  have c12 : v0.cell? ⟨g, 12, none⟩ = some (.slice o n c) := by simp [World.cell?, B.out]
  go_wp2_with fail
  clear c0 c1 c2 c3 c4 c5 c6 c7 c8 c9 c10 c11 c12
  refine (K2.out _ (Ht.out.low Hm0.out)).mono ?_
  rintro e v1 ⟨rfl, hp⟩
  have Hm1 := Lib.hid (Hm0.out.trans hp (fun _ _ h => h))
  have hb := (hp.block _ (Array.getElem?_eq_some_iff.1 B.out).1 id).trans B.out
  clear B hp Hm0
  have B := Lib.hid hb
  clear hb
  have c0 : v1.cell? ⟨g, 0, none⟩ = some (.int .u8 r) := by simp [World.cell?, B.out]
  have c1 : v1.cell? ⟨g, 1, none⟩ = some (.int .u32 a) := by simp [World.cell?, B.out]
  have c2 : v1.cell? ⟨g, 2, none⟩ = some (.int .u16 p) := by simp [World.cell?, B.out]
  have c3 : v1.cell? ⟨g, 3, none⟩ = some (.int .u32 b) := by simp [World.cell?, B.out]
  have c4 : v1.cell? ⟨g, 4, none⟩ = some (.int .u16 q) := by simp [World.cell?, B.out]
  have c5 : v1.cell? ⟨g, 5, none⟩ = some (.int .u8 r2) := by simp [World.cell?, B.out]
  have c6 : v1.cell? ⟨g, 6, none⟩ = some (.int .u32 a2) := by simp [World.cell?, B.out]
  have c7 : v1.cell? ⟨g, 7, none⟩ = some (.int .u16 p2) := by simp [World.cell?, B.out]
  have c8 : v1.cell? ⟨g, 8, none⟩ = some (.int .u32 b2) := by simp [World.cell?, B.out]
  have c9 : v1.cell? ⟨g, 9, none⟩ = some (.int .u16 q2) := by simp [World.cell?, B.out]
  have c10 : v1.cell? ⟨g, 10, none⟩ = some (.int .i64 st) := by simp [World.cell?, B.out]
  have c11 : v1.cell? ⟨g, 11, none⟩ = some (.int .i64 dl) := by simp [World.cell?, B.out]
  have c12 : v1.cell? ⟨g, 12, none⟩ = some (.slice o n c) := by simp [World.cell?, B.out]
  go_wp2_with fail
  go_quiet ((first | (go_at_call 27; exact Calls.quiet_of_same (K3.out _)) | (go_at_call 38; exact Calls.quiet_of_same (K4.out _ (Tb.low (Ht.out.low Hm1.out) (by first | exact Fp.refl _ _ | exact (Fp.refl _ _).drewN _ | exact (Fp.refl _ _).drew))))))
  go_wp2_with fail
  go_ret
  exact ⟨rfl, Hm1.out.drewN _⟩

set_option maxHeartbeats 2000000 in
set_option maxRecDepth 100000 in
theorem check_many (r a p b q r2 a2 p2 b2 q2 : Nat) (st dl : Int) (o : Option Addr) (n c : Nat) (hr : r < 256) (hr2 : r2 < 256) (w : World) (ht : Tb w) (h1 : tupB r p q = true) (h2 : tupB r2 p2 q2 = true) (hne : decide (r = r2 ∧ a = a2 ∧ p = p2 ∧ b = b2 ∧ q = q2) = false) (hpr : r = r2) (h4 : decide (0 < toN (flowN r) st) = true) (hda : 0 ≤ dl) (hdb : dl ≤ 1099511635216) (hn : 2 < n) :
    Calls Tryd.prog 19 #[.agg #[.int .u8 r, .int .u32 a, .int .u16 p, .int .u32 b, .int .u16 q, .int .u8 r2, .int .u32 a2, .int .u16 p2, .int .u32 b2, .int .u16 q2, .int .i64 st, .int .i64 dl, .slice o n c]] w (Ret1 (.int .i64 2) w) := by
  have k1 := fun W hW => tup_ok r a p b q hr W hW
  have k2 := fun W hW => tup_ok r2 a2 p2 b2 q2 hr2 W hW
  have k3 := fun W => flow_ok r W
  have k4 := fun W hW => tmay_ok (flowN r) (flowN_lt r) st W hW
  rw [h1] at k1
  rw [h2] at k2
  have heq := fun W => tup_eql r2 a2 p2 b2 q2 r a p b q W
  rw [hne] at heq
  clear hne
  have hp1 : ((r : Int) == (r2 : Int)) = true := by rw [hpr]; simp
  have hp2 : ((r : Int) != (r2 : Int)) = false := by rw [hpr]; simp
  clear hpr
  rw [h4] at k4
  clear h4
  have hd0 : decide (dl < 0) = false := by simp; omega
  have hd1 : decide (1099511635216 < dl) = false := by simp; omega
  have hn1 : decide ((n : Int) < 1) = false := by simp; omega
  have hn2 : decide (2 < (n : Int)) = true := by simp; omega
  have K1 := Lib.hid k1
  have K2 := Lib.hid k2
  have K3 := Lib.hid k3
  have K4 := Lib.hid k4
  have Ht := Lib.hid ht
  clear k1 k2 k3 k4 ht
  go_enter Tryd.func19, Tryd.ntmps19
  go_wp2_with fail
  have hn0 : NoW w (w.alloc (.cells #[.int .u8 r, .int .u32 a, .int .u16 p, .int .u32 b, .int .u16 q, .int .u8 r2, .int .u32 a2, .int .u16 p2, .int .u32 b2, .int .u16 q2, .int .i64 st, .int .i64 dl, .slice o n c] 32)) := (Fp.refl _ _).alloc _
  have hb0 := heap_alloc_new w (.cells #[.int .u8 r, .int .u32 a, .int .u16 p, .int .u32 b, .int .u16 q, .int .u8 r2, .int .u32 a2, .int .u16 p2, .int .u32 b2, .int .u16 q2, .int .i64 st, .int .i64 dl, .slice o n c] 32)
  generalize w.alloc (.cells #[.int .u8 r, .int .u32 a, .int .u16 p, .int .u32 b, .int .u16 q, .int .u8 r2, .int .u32 a2, .int .u16 p2, .int .u32 b2, .int .u16 q2, .int .i64 st, .int .i64 dl, .slice o n c] 32) = w0 at *
  generalize w.heap.size = g at *
  have Hn0 := Lib.hid hn0
  have B := Lib.hid hb0
  clear hn0 hb0
  refine (K1.out _ (Ht.out.low Hn0.out)).mono ?_
  rintro e v0 ⟨rfl, hp⟩
  have Hm0 := Lib.hid (Hn0.out.trans hp (fun _ _ h => h))
  have hb := (hp.block _ (Array.getElem?_eq_some_iff.1 B.out).1 id).trans B.out
  clear B hp Hn0
  have B := Lib.hid hb
  clear hb
  have c0 : v0.cell? ⟨g, 0, none⟩ = some (.int .u8 r) := by simp [World.cell?, B.out]
  have c1 : v0.cell? ⟨g, 1, none⟩ = some (.int .u32 a) := by simp [World.cell?, B.out]
  have c2 : v0.cell? ⟨g, 2, none⟩ = some (.int .u16 p) := by simp [World.cell?, B.out]
  have c3 : v0.cell? ⟨g, 3, none⟩ = some (.int .u32 b) := by simp [World.cell?, B.out]
  have c4 : v0.cell? ⟨g, 4, none⟩ = some (.int .u16 q) := by simp [World.cell?, B.out]
  have c5 : v0.cell? ⟨g, 5, none⟩ = some (.int .u8 r2) := by simp [World.cell?, B.out]
  have c6 : v0.cell? ⟨g, 6, none⟩ = some (.int .u32 a2) := by simp [World.cell?, B.out]
  have c7 : v0.cell? ⟨g, 7, none⟩ = some (.int .u16 p2) := by simp [World.cell?, B.out]
  have c8 : v0.cell? ⟨g, 8, none⟩ = some (.int .u32 b2) := by simp [World.cell?, B.out]
  have c9 : v0.cell? ⟨g, 9, none⟩ = some (.int .u16 q2) := by simp [World.cell?, B.out]
  have c10 : v0.cell? ⟨g, 10, none⟩ = some (.int .i64 st) := by simp [World.cell?, B.out]
  have c11 : v0.cell? ⟨g, 11, none⟩ = some (.int .i64 dl) := by simp [World.cell?, B.out]
  have c12 : v0.cell? ⟨g, 12, none⟩ = some (.slice o n c) := by simp [World.cell?, B.out]
  go_wp2_with fail
  clear c0 c1 c2 c3 c4 c5 c6 c7 c8 c9 c10 c11 c12
  refine (K2.out _ (Ht.out.low Hm0.out)).mono ?_
  rintro e v1 ⟨rfl, hp⟩
  have Hm1 := Lib.hid (Hm0.out.trans hp (fun _ _ h => h))
  have hb := (hp.block _ (Array.getElem?_eq_some_iff.1 B.out).1 id).trans B.out
  clear B hp Hm0
  have B := Lib.hid hb
  clear hb
  have c0 : v1.cell? ⟨g, 0, none⟩ = some (.int .u8 r) := by simp [World.cell?, B.out]
  have c1 : v1.cell? ⟨g, 1, none⟩ = some (.int .u32 a) := by simp [World.cell?, B.out]
  have c2 : v1.cell? ⟨g, 2, none⟩ = some (.int .u16 p) := by simp [World.cell?, B.out]
  have c3 : v1.cell? ⟨g, 3, none⟩ = some (.int .u32 b) := by simp [World.cell?, B.out]
  have c4 : v1.cell? ⟨g, 4, none⟩ = some (.int .u16 q) := by simp [World.cell?, B.out]
  have c5 : v1.cell? ⟨g, 5, none⟩ = some (.int .u8 r2) := by simp [World.cell?, B.out]
  have c6 : v1.cell? ⟨g, 6, none⟩ = some (.int .u32 a2) := by simp [World.cell?, B.out]
  have c7 : v1.cell? ⟨g, 7, none⟩ = some (.int .u16 p2) := by simp [World.cell?, B.out]
  have c8 : v1.cell? ⟨g, 8, none⟩ = some (.int .u32 b2) := by simp [World.cell?, B.out]
  have c9 : v1.cell? ⟨g, 9, none⟩ = some (.int .u16 q2) := by simp [World.cell?, B.out]
  have c10 : v1.cell? ⟨g, 10, none⟩ = some (.int .i64 st) := by simp [World.cell?, B.out]
  have c11 : v1.cell? ⟨g, 11, none⟩ = some (.int .i64 dl) := by simp [World.cell?, B.out]
  have c12 : v1.cell? ⟨g, 12, none⟩ = some (.slice o n c) := by simp [World.cell?, B.out]
  go_wp2_with fail
  go_quiet ((first | (go_at_call 27; exact Calls.quiet_of_same (K3.out _)) | (go_at_call 38; exact Calls.quiet_of_same (K4.out _ (Tb.low (Ht.out.low Hm1.out) (by first | exact Fp.refl _ _ | exact (Fp.refl _ _).drewN _ | exact (Fp.refl _ _).drew))))))
  go_wp2_with fail
  go_ret
  exact ⟨rfl, Hm1.out.drewN _⟩

set_option maxHeartbeats 2000000 in
set_option maxRecDepth 100000 in
theorem check_good (r a p b q r2 a2 p2 b2 q2 : Nat) (st dl : Int) (o : Option Addr) (n c : Nat) (hr : r < 256) (hr2 : r2 < 256) (w : World) (ht : Tb w) (h1 : tupB r p q = true) (h2 : tupB r2 p2 q2 = true) (hne : decide (r = r2 ∧ a = a2 ∧ p = p2 ∧ b = b2 ∧ q = q2) = false) (hpr : r = r2) (h4 : decide (0 < toN (flowN r) st) = true) (hda : 0 ≤ dl) (hdb : dl ≤ 1099511635216) (hn : 1 ≤ n ∧ n ≤ 2) :
    Calls Tryd.prog 19 #[.agg #[.int .u8 r, .int .u32 a, .int .u16 p, .int .u32 b, .int .u16 q, .int .u8 r2, .int .u32 a2, .int .u16 p2, .int .u32 b2, .int .u16 q2, .int .i64 st, .int .i64 dl, .slice o n c]] w (Ret1 (.int .i64 0) w) := by
  have k1 := fun W hW => tup_ok r a p b q hr W hW
  have k2 := fun W hW => tup_ok r2 a2 p2 b2 q2 hr2 W hW
  have k3 := fun W => flow_ok r W
  have k4 := fun W hW => tmay_ok (flowN r) (flowN_lt r) st W hW
  rw [h1] at k1
  rw [h2] at k2
  have heq := fun W => tup_eql r2 a2 p2 b2 q2 r a p b q W
  rw [hne] at heq
  clear hne
  have hp1 : ((r : Int) == (r2 : Int)) = true := by rw [hpr]; simp
  have hp2 : ((r : Int) != (r2 : Int)) = false := by rw [hpr]; simp
  clear hpr
  rw [h4] at k4
  clear h4
  have hd0 : decide (dl < 0) = false := by simp; omega
  have hd1 : decide (1099511635216 < dl) = false := by simp; omega
  have hn1 : decide ((n : Int) < 1) = false := by simp; omega
  have hn2 : decide (2 < (n : Int)) = false := by simp; omega
  have K1 := Lib.hid k1
  have K2 := Lib.hid k2
  have K3 := Lib.hid k3
  have K4 := Lib.hid k4
  have Ht := Lib.hid ht
  clear k1 k2 k3 k4 ht
  go_enter Tryd.func19, Tryd.ntmps19
  go_wp2_with fail
  have hn0 : NoW w (w.alloc (.cells #[.int .u8 r, .int .u32 a, .int .u16 p, .int .u32 b, .int .u16 q, .int .u8 r2, .int .u32 a2, .int .u16 p2, .int .u32 b2, .int .u16 q2, .int .i64 st, .int .i64 dl, .slice o n c] 32)) := (Fp.refl _ _).alloc _
  have hb0 := heap_alloc_new w (.cells #[.int .u8 r, .int .u32 a, .int .u16 p, .int .u32 b, .int .u16 q, .int .u8 r2, .int .u32 a2, .int .u16 p2, .int .u32 b2, .int .u16 q2, .int .i64 st, .int .i64 dl, .slice o n c] 32)
  generalize w.alloc (.cells #[.int .u8 r, .int .u32 a, .int .u16 p, .int .u32 b, .int .u16 q, .int .u8 r2, .int .u32 a2, .int .u16 p2, .int .u32 b2, .int .u16 q2, .int .i64 st, .int .i64 dl, .slice o n c] 32) = w0 at *
  generalize w.heap.size = g at *
  have Hn0 := Lib.hid hn0
  have B := Lib.hid hb0
  clear hn0 hb0
  refine (K1.out _ (Ht.out.low Hn0.out)).mono ?_
  rintro e v0 ⟨rfl, hp⟩
  have Hm0 := Lib.hid (Hn0.out.trans hp (fun _ _ h => h))
  have hb := (hp.block _ (Array.getElem?_eq_some_iff.1 B.out).1 id).trans B.out
  clear B hp Hn0
  have B := Lib.hid hb
  clear hb
  have c0 : v0.cell? ⟨g, 0, none⟩ = some (.int .u8 r) := by simp [World.cell?, B.out]
  have c1 : v0.cell? ⟨g, 1, none⟩ = some (.int .u32 a) := by simp [World.cell?, B.out]
  have c2 : v0.cell? ⟨g, 2, none⟩ = some (.int .u16 p) := by simp [World.cell?, B.out]
  have c3 : v0.cell? ⟨g, 3, none⟩ = some (.int .u32 b) := by simp [World.cell?, B.out]
  have c4 : v0.cell? ⟨g, 4, none⟩ = some (.int .u16 q) := by simp [World.cell?, B.out]
  have c5 : v0.cell? ⟨g, 5, none⟩ = some (.int .u8 r2) := by simp [World.cell?, B.out]
  have c6 : v0.cell? ⟨g, 6, none⟩ = some (.int .u32 a2) := by simp [World.cell?, B.out]
  have c7 : v0.cell? ⟨g, 7, none⟩ = some (.int .u16 p2) := by simp [World.cell?, B.out]
  have c8 : v0.cell? ⟨g, 8, none⟩ = some (.int .u32 b2) := by simp [World.cell?, B.out]
  have c9 : v0.cell? ⟨g, 9, none⟩ = some (.int .u16 q2) := by simp [World.cell?, B.out]
  have c10 : v0.cell? ⟨g, 10, none⟩ = some (.int .i64 st) := by simp [World.cell?, B.out]
  have c11 : v0.cell? ⟨g, 11, none⟩ = some (.int .i64 dl) := by simp [World.cell?, B.out]
  have c12 : v0.cell? ⟨g, 12, none⟩ = some (.slice o n c) := by simp [World.cell?, B.out]
  go_wp2_with fail
  clear c0 c1 c2 c3 c4 c5 c6 c7 c8 c9 c10 c11 c12
  refine (K2.out _ (Ht.out.low Hm0.out)).mono ?_
  rintro e v1 ⟨rfl, hp⟩
  have Hm1 := Lib.hid (Hm0.out.trans hp (fun _ _ h => h))
  have hb := (hp.block _ (Array.getElem?_eq_some_iff.1 B.out).1 id).trans B.out
  clear B hp Hm0
  have B := Lib.hid hb
  clear hb
  have c0 : v1.cell? ⟨g, 0, none⟩ = some (.int .u8 r) := by simp [World.cell?, B.out]
  have c1 : v1.cell? ⟨g, 1, none⟩ = some (.int .u32 a) := by simp [World.cell?, B.out]
  have c2 : v1.cell? ⟨g, 2, none⟩ = some (.int .u16 p) := by simp [World.cell?, B.out]
  have c3 : v1.cell? ⟨g, 3, none⟩ = some (.int .u32 b) := by simp [World.cell?, B.out]
  have c4 : v1.cell? ⟨g, 4, none⟩ = some (.int .u16 q) := by simp [World.cell?, B.out]
  have c5 : v1.cell? ⟨g, 5, none⟩ = some (.int .u8 r2) := by simp [World.cell?, B.out]
  have c6 : v1.cell? ⟨g, 6, none⟩ = some (.int .u32 a2) := by simp [World.cell?, B.out]
  have c7 : v1.cell? ⟨g, 7, none⟩ = some (.int .u16 p2) := by simp [World.cell?, B.out]
  have c8 : v1.cell? ⟨g, 8, none⟩ = some (.int .u32 b2) := by simp [World.cell?, B.out]
  have c9 : v1.cell? ⟨g, 9, none⟩ = some (.int .u16 q2) := by simp [World.cell?, B.out]
  have c10 : v1.cell? ⟨g, 10, none⟩ = some (.int .i64 st) := by simp [World.cell?, B.out]
  have c11 : v1.cell? ⟨g, 11, none⟩ = some (.int .i64 dl) := by simp [World.cell?, B.out]
  have c12 : v1.cell? ⟨g, 12, none⟩ = some (.slice o n c) := by simp [World.cell?, B.out]
  go_wp2_with fail
  go_quiet ((first | (go_at_call 27; exact Calls.quiet_of_same (K3.out _)) | (go_at_call 38; exact Calls.quiet_of_same (K4.out _ (Tb.low (Ht.out.low Hm1.out) (by first | exact Fp.refl _ _ | exact (Fp.refl _ _).drewN _ | exact (Fp.refl _ _).drew))))))
  go_wp2_with fail
  go_ret
  exact ⟨rfl, Hm1.out.drewN _⟩

theorem check_ok (r a p b q r2 a2 p2 b2 q2 : Nat) (st dl : Int) (o : Option Addr) (n c : Nat) (hr : r < 256) (hr2 : r2 < 256) (w : World) (ht : Tb w) :
    Calls Tryd.prog 19 #[.agg #[.int .u8 r, .int .u32 a, .int .u16 p, .int .u32 b, .int .u16 q, .int .u8 r2, .int .u32 a2, .int .u16 p2, .int .u32 b2, .int .u16 q2, .int .i64 st, .int .i64 dl, .slice o n c]] w (Ret1 (.int .i64 (if chkB r p q r2 p2 q2 (decide (r = r2 ∧ a = a2 ∧ p = p2 ∧ b = b2 ∧ q = q2)) st dl n = true then 0 else 2)) w) := by
  unfold chkB
  rcases h1 : tupB r p q with _ | _
  · simpa using check_t1 r a p b q r2 a2 p2 b2 q2 st dl o n c hr hr2 w ht h1
  rcases h2 : tupB r2 p2 q2 with _ | _
  · simpa using check_t2 r a p b q r2 a2 p2 b2 q2 st dl o n c hr hr2 w ht h1 h2
  rcases hne : decide (r = r2 ∧ a = a2 ∧ p = p2 ∧ b = b2 ∧ q = q2) with _ | _
  · by_cases hpr : r = r2
    · rcases h4 : decide (0 < toN (flowN r) st) with _ | _
      · simpa using check_track r a p b q r2 a2 p2 b2 q2 st dl o n c hr hr2 w ht h1 h2 hne hpr h4
      · by_cases hd0 : dl < 0
        · rw [if_neg (by simp; omega)]; exact check_low r a p b q r2 a2 p2 b2 q2 st dl o n c hr hr2 w ht h1 h2 hne hpr h4 hd0
        · by_cases hd1 : 1099511635216 < dl
          · rw [if_neg (by simp; omega)]; exact check_high r a p b q r2 a2 p2 b2 q2 st dl o n c hr hr2 w ht h1 h2 hne hpr h4 hd1
          · by_cases hn : n < 1
            · rw [if_neg (by simp; omega)]; exact check_few r a p b q r2 a2 p2 b2 q2 st dl o n c hr hr2 w ht h1 h2 hne hpr h4 (by omega) (by omega) hn
            · by_cases hn2 : 2 < n
              · rw [if_neg (by simp; omega)]; exact check_many r a p b q r2 a2 p2 b2 q2 st dl o n c hr hr2 w ht h1 h2 hne hpr h4 (by omega) (by omega) hn2
              · rw [if_pos (by simp; omega)]; exact check_good r a p b q r2 a2 p2 b2 q2 st dl o n c hr hr2 w ht h1 h2 hne hpr h4 (by omega) (by omega) (by omega)
    · rw [if_neg (by simp [hpr])]
      exact check_proto r a p b q r2 a2 p2 b2 q2 st dl o n c hr hr2 w ht h1 h2 hne hpr
  · simpa using check_same r a p b q r2 a2 p2 b2 q2 st dl o n c hr hr2 w ht h1 h2 hne
end Go.Proofs.YtaiimkcmgiceeaaDoor
