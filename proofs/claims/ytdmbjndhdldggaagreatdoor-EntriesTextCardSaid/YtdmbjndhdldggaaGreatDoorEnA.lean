/- Chapter 18: PointText, Less (of chapter 03's texts, by gen18.py). -/
import Derived.Test.YtdmbjndhdldggaaGreatDoorEnT
import Derived.Deep.RegionHeld3
import Derived.Test.YtdmbjndhdldggaaGreatDoorTake
namespace Go.Proofs.YtdmbjndhdldggaaGreatDoor
set_option linter.unusedVariables false
set_option linter.unusedSimpArgs false
open Go.RowKit Go.Lib Go.Sort

set_option maxHeartbeats 2000000 in
theorem point_text (a : Nat) (ha : a < 4294967296) (p : Nat) (hp : p < 65536) (w : World) (ht : Tb w) :
    Calls Tryz.prog 20 #[.agg #[.int .u32 a, .int .u16 p]] w (Ret1 (str (withT 58 a p)) w) := by
  have hl1 := addrT_len ha
  have hl2 := dec_len 5 p (by omega) (by omega)
  have hadd1 : ∀ W, (Op.stringOp .add ⟨(addrT a).toArray⟩ ⟨#[58]⟩).run Tryz.prog W = .ok (str (addrT a ++ [58])) W := fun W => run_string_add_lists W (addrT a) [58] (by omega) (by simp)
  have hadd2 : ∀ W, (Op.stringOp .add ⟨(addrT a ++ [58]).toArray⟩ ⟨(decDigits p).toArray⟩).run Tryz.prog W = .ok (str (addrT a ++ [58] ++ decDigits p)) W := fun W => run_string_add_lists W (addrT a ++ [58]) (decDigits p) (by simp; omega) (by omega)
  have hw16 : IntKind.i64.wrap (p : Int) = p := IntWalk.i64_in _ (by omega)
  go_enter Tryz.func20, Tryz.ntmps20
  go_wp2_with fail
  have h0 : (w.alloc (.cells #[.int .u32 a, .int .u16 p] 26)).cell? ⟨w.heap.size, 0, none⟩ = some (.int .u32 a) := by simp
  have h1 : (w.alloc (.cells #[.int .u32 a, .int .u16 p] 26)).cell? ⟨w.heap.size, 1, none⟩ = some (.int .u16 p) := by simp
  have hn0 : NoW w (w.alloc (.cells #[.int .u32 a, .int .u16 p] 26)) := (Fp.refl _ _).alloc _
  generalize w.alloc (.cells #[.int .u32 a, .int .u16 p] 26) = w0 at *
  generalize w.heap.size = g at *
  have Hl : withT 58 a p = addrT a ++ 58 :: decDigits p := rfl
  have HL := Lib.hid Hl
  clear Hl
  have ht0 := ht.low hn0
  have hT := fun W (h : NoW w0 W) => ad_text a ha W (ht0.low h)
  have hI := fun W (h : NoW w0 W) => itoa_any p (by omega) W (ht0.low h)
  have lg : g < w0.heap.size := cell_lt h0
  have hkk : ∀ wx, NoW w0 wx → wx.cell? ⟨g, 0, none⟩ = some (.int .u32 a) ∧ wx.cell? ⟨g, 1, none⟩ = some (.int .u16 p) :=
    fun wx hn => ⟨(hn.cell (p := ⟨g, 0, none⟩) lg id).trans h0, (hn.cell (p := ⟨g, 1, none⟩) lg id).trans h1⟩
  have Hkk := Lib.hid hkk
  have HT := Lib.hid hT
  have HI := Lib.hid hI
  have Hn0 := Lib.hid hn0
  clear hkk h0 h1 hT hI ht0 ht hn0 ha
  go_region_held3 (fun wx => wx.cell? ⟨g, 0, none⟩ = some (.int .u32 a) ∧ wx.cell? ⟨g, 1, none⟩ = some (.int .u16 p)) (first | exact Hkk.out _ hn | exact Hkk.out _ (Fp.drew (Fp.refl _ _)))
    (first | (go_at_call 42; refine (HT.out _ (by first | exact hn | exact Fp.drew (Fp.refl _ _))).mono ?_; rintro e w1 ⟨rfl, hq⟩; have hm : NoW w0 w1 := Fp.trans (by first | exact hn | exact Fp.drew (Fp.refl _ _)) hq (fun _ _ h => h); clear hq; (try clear hn); have hn := hm; clear hm) | (go_at_call 19; refine (HI.out _ (by first | exact hn | exact Fp.drew (Fp.refl _ _))).mono ?_; rintro e w1 ⟨rfl, hq⟩; have hm : NoW w0 w1 := Fp.trans (by first | exact hn | exact Fp.drew (Fp.refl _ _)) hq (fun _ _ h => h); clear hq; (try clear hn); have hn := hm; clear hm))
  all_goals go_wp2_with fail
  all_goals go_ret
  all_goals exact ⟨by rw [HL.out]; rfl, Hn0.out.trans hn (fun _ _ h => h)⟩

end Go.Proofs.YtdmbjndhdldggaaGreatDoor
