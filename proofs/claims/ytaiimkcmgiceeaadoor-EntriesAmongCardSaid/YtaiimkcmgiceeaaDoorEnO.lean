/- Chapter 18: the law's own flow is good; what it is behind a packet; its text (written by genpass.py). -/
import Derived.Test.YtaiimkcmgiceeaaDoorEnL
import Derived.Test.YtaiimkcmgiceeaaDoorEnK
import Derived.Test.YtaiimkcmgiceeaaDoorEnD
import Derived.Test.YtaiimkcmgiceeaaDoorBox
namespace Go.Proofs.YtaiimkcmgiceeaaDoor
set_option linter.unusedVariables false
set_option linter.unusedSimpArgs false
open Go.RowKit Go.Lib Go.Sort

theorem chk18 (b : Nat) (w : World) (ht : Tb w) : Calls Tryd.prog 19 #[.agg #[.int .u8 17, .int .u32 167772161, .int .u16 4000, .int .u32 134744072, .int .u16 53, .int .u8 17, .int .u32 134744072, .int .u16 53, .int .u32 151587081, .int .u16 1006, .int .i64 1, .int .i64 120, (.slice (some ⟨b, 0, none⟩) 1 1)]] w (Ret1 (.int .i64 0) w) := by
  have h := check_ok 17 167772161 4000 134744072 53 17 134744072 53 151587081 1006 1 120 (some ⟨b, 0, none⟩) 1 1 (by decide) (by decide) w ht
  rw [if_pos (by decide +kernel)] at h
  exact h
theorem touch18 (b : Nat) (w : World) (ht : Tb w) (hh : Holds w b 0 1 [.int .u32 151587081, .int .u16 1006, .int .u32 167772161, .int .u16 4000]) :
    Calls Tryd.prog 18 #[.agg #[.int .u8 17, .int .u32 167772161, .int .u16 4000, .int .u32 134744072, .int .u16 53, .int .u8 17, .int .u32 134744072, .int .u16 53, .int .u32 151587081, .int .u16 1006, .int .i64 1, .int .i64 120, (.slice (some ⟨b, 0, none⟩) 1 1)], .bool true, .int .u8 0, .int .i64 5] w fun e w' => ∃ b' c', e = .returned (.tuple #[.agg #[.int .u8 17, .int .u32 167772161, .int .u16 4000, .int .u32 134744072, .int .u16 53, .int .u8 17, .int .u32 134744072, .int .u16 53, .int .u32 151587081, .int .u16 1006, .int .i64 2, .int .i64 305, (.slice (some ⟨b', 0, none⟩) 1 c')], .int .i64 0]) ∧ 1 ≤ c' ∧ w.heap.size ≤ b' ∧ Holds w' b' 0 1 [.int .u32 151587081, .int .u16 1006, .int .u32 167772161, .int .u16 4000] ∧ NoW w w' := by
  have k2 := fun W (hW : Tb W) => next_ok 1 (by decide) (by decide) 1 true 0 W hW
  have k3 := fun W (hW : Tb W) => timeout_ok 1 (by decide) 2 W hW
  rw [show (if 0 < toN 1 1 then (if true = true then 2 else (1 : Int)) else 0) = 2 by decide +kernel] at k2
  rw [show toN 1 2 = 300 by decide +kernel] at k3
  exact touch_core 17 167772161 4000 134744072 53 17 134744072 53 151587081 1006 1 120 b 0 1 1 [.int .u32 151587081, .int .u16 1006, .int .u32 167772161, .int .u16 4000] (by decide) true 0 5 1 2 300 w ht hh (by decide) (by decide) (by decide) (fun W hW => chk18 b W hW) (fun W => flow_ok 17 W) k2 k3
theorem entT18 : entT 17 167772161 4000 134744072 53 17 134744072 53 151587081 1006 1 120 (fun _ => 151587081) (fun _ => 1006) (fun _ => 167772161) (fun _ => 4000) 1 = [117, 100, 112, 32, 49, 48, 46, 48, 46, 48, 46, 49, 58, 52, 48, 48, 48, 32, 56, 46, 56, 46, 56, 46, 56, 58, 53, 51, 32, 124, 32, 117, 100, 112, 32, 56, 46, 56, 46, 56, 46, 56, 58, 53, 51, 32, 57, 46, 57, 46, 57, 46, 57, 58, 49, 48, 48, 54, 32, 49, 32, 49, 50, 48, 32, 57, 46, 57, 46, 57, 46, 57, 58, 49, 48, 48, 54, 61, 49, 48, 46, 48, 46, 48, 46, 49, 58, 52, 48, 48, 48] := by decide +kernel
theorem text18 (b : Nat) (w : World) (ht : Tb w) (hh : Holds w b 0 1 [.int .u32 151587081, .int .u16 1006, .int .u32 167772161, .int .u16 4000]) : Calls Tryd.prog 21 #[.agg #[.int .u8 17, .int .u32 167772161, .int .u16 4000, .int .u32 134744072, .int .u16 53, .int .u8 17, .int .u32 134744072, .int .u16 53, .int .u32 151587081, .int .u16 1006, .int .i64 1, .int .i64 120, (.slice (some ⟨b, 0, none⟩) 1 1)]] w (Ret1 (str [117, 100, 112, 32, 49, 48, 46, 48, 46, 48, 46, 49, 58, 52, 48, 48, 48, 32, 56, 46, 56, 46, 56, 46, 56, 58, 53, 51, 32, 124, 32, 117, 100, 112, 32, 56, 46, 56, 46, 56, 46, 56, 58, 53, 51, 32, 57, 46, 57, 46, 57, 46, 57, 58, 49, 48, 48, 54, 32, 49, 32, 49, 50, 48, 32, 57, 46, 57, 46, 57, 46, 57, 58, 49, 48, 48, 54, 61, 49, 48, 46, 48, 46, 48, 46, 49, 58, 52, 48, 48, 48]) w) := by
  have h := ent_text 17 167772161 4000 134744072 53 17 134744072 53 151587081 1006 1 120 (fun _ => 151587081) (fun _ => 1006) (fun _ => 167772161) (fun _ => 4000) b 0 1 1 [.int .u32 151587081, .int .u16 1006, .int .u32 167772161, .int .u16 4000] (by decide) (by decide) (by decide) (by decide) (by decide) (by decide) (by decide) (by decide) (by decide) (by decide) (by decide) (by decide) (by decide) (by decide +kernel) (by decide +kernel)
    (fun i hi => by obtain rfl : i = 0 := (by omega); exact ⟨⟨rfl, rfl, rfl, rfl⟩, by decide, by decide, by decide, by decide⟩) w ht hh (fun W hW => chk18 b W hW)
  rw [entT18] at h
  exact h
end Go.Proofs.YtaiimkcmgiceeaaDoor
