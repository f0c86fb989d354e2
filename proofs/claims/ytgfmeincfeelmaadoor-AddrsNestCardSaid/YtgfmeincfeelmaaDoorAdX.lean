/- Chapter 03: PointText, PrefixText. -/
import Derived.Test.YtgfmeincfeelmaaDoorAdH
namespace Go.Proofs.YtgfmeincfeelmaaDoor
set_option linter.unusedVariables false
set_option linter.unusedSimpArgs false
open Go.RowKit Go.Lib Go.Sort

set_option maxHeartbeats 2000000 in
theorem point_text (a : Nat) (ha : a < 4294967296) (p : Nat) (hp : p < 65536) (w : World) (ht : Tb w) :
    Calls Tryd.prog 19 #[.agg #[.int .u32 a, .int .u16 p]] w (Ret1 (str (withT 58 a p)) w) := by
  have hl1 := addrT_len ha
  have hl2 := dec_len 5 p (by omega) (by omega)
  have hadd1 : ∀ W, (Op.stringOp .add ⟨(addrT a).toArray⟩ ⟨#[58]⟩).run Tryd.prog W = .ok (str (addrT a ++ [58])) W := fun W => run_string_add_lists W (addrT a) [58] (by omega) (by simp)
  have hadd2 : ∀ W, (Op.stringOp .add ⟨(addrT a ++ [58]).toArray⟩ ⟨(decDigits p).toArray⟩).run Tryd.prog W = .ok (str (addrT a ++ [58] ++ decDigits p)) W := fun W => run_string_add_lists W (addrT a ++ [58]) (decDigits p) (by simp; omega) (by omega)
  have hw16 : IntKind.i64.wrap (p : Int) = p := IntWalk.i64_in _ (by omega)
  go_enter Tryd.func19, Tryd.ntmps19
  go_wp2_with fail
  have h0 : (w.alloc (.cells #[.int .u32 a, .int .u16 p] 34)).cell? ⟨w.heap.size, 0, none⟩ = some (.int .u32 a) := by simp
  have h1 : (w.alloc (.cells #[.int .u32 a, .int .u16 p] 34)).cell? ⟨w.heap.size, 1, none⟩ = some (.int .u16 p) := by simp
  have hn0 : NoW w (w.alloc (.cells #[.int .u32 a, .int .u16 p] 34)) := (Fp.refl _ _).alloc _
  generalize w.alloc (.cells #[.int .u32 a, .int .u16 p] 34) = w0 at *
  generalize w.heap.size = g at *
  have Hl : withT 58 a p = addrT a ++ 58 :: decDigits p := rfl
  have HL := Lib.hid Hl
  clear Hl
  have ht0 := ht.low hn0
  have hT := fun W (h : NoW w0 W) => ad_text a ha W (ht0.low h)
  have hI := fun W (h : NoW w0 W) => itoa_any p (by omega) W (ht0.low h)
  have lg : g < w0.heap.size := cell_lt h0
  have hkk : ∀ wx, NoW w0 wx → wx.cell? ⟨g, 0, none⟩ = some (.int .u32 a) ∧ wx.cell? ⟨g, 1, none⟩ = some (.int .u16 p) :=
    fun wx hn => ⟨(hn.cell (p := ⟨g, 0, none⟩) lg id).trans h0, (hn.cell (p := ⟨g, 1, none⟩) lg id).trans h1⟩
  have Hkk := Lib.hid hkk
  have HT := Lib.hid hT
  have HI := Lib.hid hI
  have Hn0 := Lib.hid hn0
  clear hkk h0 h1 hT hI ht0 ht hn0 ha
  go_region_held3 (fun wx => wx.cell? ⟨g, 0, none⟩ = some (.int .u32 a) ∧ wx.cell? ⟨g, 1, none⟩ = some (.int .u16 p)) (first | exact Hkk.out _ hn | exact Hkk.out _ (Fp.drew (Fp.refl _ _)))
    (first | (go_at_call 17; refine (HT.out _ (by first | exact hn | exact Fp.drew (Fp.refl _ _))).mono ?_; rintro e w1 ⟨rfl, hq⟩; have hm : NoW w0 w1 := Fp.trans (by first | exact hn | exact Fp.drew (Fp.refl _ _)) hq (fun _ _ h => h); clear hq; (try clear hn); have hn := hm; clear hm) | (go_at_call 35; refine (HI.out _ (by first | exact hn | exact Fp.drew (Fp.refl _ _))).mono ?_; rintro e w1 ⟨rfl, hq⟩; have hm : NoW w0 w1 := Fp.trans (by first | exact hn | exact Fp.drew (Fp.refl _ _)) hq (fun _ _ h => h); clear hq; (try clear hn); have hn := hm; clear hm))
  all_goals go_wp2_with fail
  all_goals go_ret
  all_goals exact ⟨by rw [HL.out]; rfl, Hn0.out.trans hn (fun _ _ h => h)⟩

set_option maxHeartbeats 2000000 in
theorem prefix_text (a : Nat) (ha : a < 4294967296) (p : Nat) (hm : mayB a p = true) (w : World) (ht : Tb w) :
    Calls Tryd.prog 18 #[.agg #[.int .u32 a, .int .i64 p]] w (Ret1 (str (withT 47 a p)) w) := by
  have hp : p ≤ 32 := by
    unfold mayB at hm
    have := (of_decide_eq_true hm).2.1
    omega
  have hmay := fun W => may_ok a ha p W
  rw [hm] at hmay
  have Hmay := Lib.hid hmay
  clear hm hmay
  have hl1 := addrT_len ha
  have hl2 := dec_len 5 p (by omega) (by omega)
  have hadd1 : ∀ W, (Op.stringOp .add ⟨(addrT a).toArray⟩ ⟨#[47]⟩).run Tryd.prog W = .ok (str (addrT a ++ [47])) W := fun W => run_string_add_lists W (addrT a) [47] (by omega) (by simp)
  have hadd2 : ∀ W, (Op.stringOp .add ⟨(addrT a ++ [47]).toArray⟩ ⟨(decDigits p).toArray⟩).run Tryd.prog W = .ok (str (addrT a ++ [47] ++ decDigits p)) W := fun W => run_string_add_lists W (addrT a ++ [47]) (decDigits p) (by simp; omega) (by omega)
  go_enter Tryd.func18, Tryd.ntmps18
  go_wp2_with fail
  refine (Hmay.out _).mono ?_
  rintro e w9 ⟨rfl, hp9⟩
  have hq0 : NoW w w9 := ((Fp.refl _ _).alloc _).trans hp9 (fun _ _ h => h)
  have hb9 := (hp9.block _ (by simp) id).trans (heap_alloc_new w _)
  have k0 : w9.cell? ⟨w.heap.size, 0, none⟩ = some (.int .u32 a) := by simp [World.cell?, hb9]
  have k1 : w9.cell? ⟨w.heap.size, 1, none⟩ = some (.int .i64 p) := by simp [World.cell?, hb9]
  clear hp9 hb9
  go_wp2_with fail
  have h0 := k0
  have h1 := k1
  have hn0 := hq0
  generalize hw0 : w9 = w0 at *
  generalize w.heap.size = g at *
  have Hl : withT 47 a p = addrT a ++ 47 :: decDigits p := rfl
  have HL := Lib.hid Hl
  clear Hl
  have ht0 := ht.low hn0
  have hT := fun W (h : NoW w0 W) => ad_text a ha W (ht0.low h)
  have hI := fun W (h : NoW w0 W) => itoa_any p (by omega) W (ht0.low h)
  have lg : g < w0.heap.size := cell_lt h0
  have hkk : ∀ wx, NoW w0 wx → wx.cell? ⟨g, 0, none⟩ = some (.int .u32 a) ∧ wx.cell? ⟨g, 1, none⟩ = some (.int .i64 p) :=
    fun wx hn => ⟨(hn.cell (p := ⟨g, 0, none⟩) lg id).trans h0, (hn.cell (p := ⟨g, 1, none⟩) lg id).trans h1⟩
  have Hkk := Lib.hid hkk
  have HT := Lib.hid hT
  have HI := Lib.hid hI
  have Hn0 := Lib.hid hn0
  clear hkk h0 h1 hT hI ht0 ht hn0 ha
  go_region_held3 (fun wx => wx.cell? ⟨g, 0, none⟩ = some (.int .u32 a) ∧ wx.cell? ⟨g, 1, none⟩ = some (.int .i64 p)) (first | exact Hkk.out _ hn | exact Hkk.out _ (Fp.drew (Fp.refl _ _)))
    (first | (go_at_call 17; refine (HT.out _ (by first | exact hn | exact Fp.drew (Fp.refl _ _))).mono ?_; rintro e w1 ⟨rfl, hq⟩; have hm : NoW w0 w1 := Fp.trans (by first | exact hn | exact Fp.drew (Fp.refl _ _)) hq (fun _ _ h => h); clear hq; (try clear hn); have hn := hm; clear hm) | (go_at_call 35; refine (HI.out _ (by first | exact hn | exact Fp.drew (Fp.refl _ _))).mono ?_; rintro e w1 ⟨rfl, hq⟩; have hm : NoW w0 w1 := Fp.trans (by first | exact hn | exact Fp.drew (Fp.refl _ _)) hq (fun _ _ h => h); clear hq; (try clear hn); have hn := hm; clear hm))
  all_goals go_wp2_with fail
  all_goals go_ret
  all_goals exact ⟨by rw [HL.out]; rfl, Hn0.out.trans hn (fun _ _ h => h)⟩
end Go.Proofs.YtgfmeincfeelmaaDoor
