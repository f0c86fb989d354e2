/- Chapter 18: Match, any tuple (written by genans.py). -/
import Derived.Test.YtaiimkcmgiceeaaDoorEnD
namespace Go.Proofs.YtaiimkcmgiceeaaDoor
set_option linter.unusedVariables false
set_option linter.unusedSimpArgs false
open Go.RowKit Go.Lib Go.Sort

theorem tup_eq2 (r a p b q r2 a2 p2 b2 q2 : Nat) (W : World) : (binOp .eql 29 (.agg #[.int .u8 r, .int .u32 a, .int .u16 p, .int .u32 b, .int .u16 q]) (.agg #[.int .u8 r2, .int .u32 a2, .int .u16 p2, .int .u32 b2, .int .u16 q2])).run Tryd.prog W = .ok (.bool (decide (r = r2 ∧ a = a2 ∧ p = p2 ∧ b = b2 ∧ q = q2))) W := by
  exact tup_eql r2 a2 p2 b2 q2 r a p b q W
set_option maxHeartbeats 2000000 in
set_option maxRecDepth 100000 in
theorem match_ok (r a p b q r2 a2 p2 b2 q2 r3 a3 p3 b3 q3 : Nat) (st dl : Int) (ad : Option Addr) (n c : Nat) (w : World) :
    Calls Tryd.prog 31 #[.agg #[.int .u8 r, .int .u32 a, .int .u16 p, .int .u32 b, .int .u16 q, .int .u8 r2, .int .u32 a2, .int .u16 p2, .int .u32 b2, .int .u16 q2, .int .i64 st, .int .i64 dl, (.slice ad n c)], .agg #[.int .u8 r3, .int .u32 a3, .int .u16 p3, .int .u32 b3, .int .u16 q3]] w (Ret1 (.tuple #[.bool (!decide (r3 = r ∧ a3 = a ∧ p3 = p ∧ b3 = b ∧ q3 = q) && decide (r3 = r2 ∧ a3 = a2 ∧ p3 = p2 ∧ b3 = b2 ∧ q3 = q2)), .bool (decide (r3 = r ∧ a3 = a ∧ p3 = p ∧ b3 = b ∧ q3 = q) || decide (r3 = r2 ∧ a3 = a2 ∧ p3 = p2 ∧ b3 = b2 ∧ q3 = q2))]) w) := by
  have e1 := fun W => tup_eq2 r3 a3 p3 b3 q3 r a p b q W
  have e2 := fun W => tup_eq2 r3 a3 p3 b3 q3 r2 a2 p2 b2 q2 W
  have hn : NoW w ((w.alloc (.cells #[.int .u8 r, .int .u32 a, .int .u16 p, .int .u32 b, .int .u16 q, .int .u8 r2, .int .u32 a2, .int .u16 p2, .int .u32 b2, .int .u16 q2, .int .i64 st, .int .i64 dl, (.slice ad n c)] 32)).alloc (.cells #[.int .u8 r3, .int .u32 a3, .int .u16 p3, .int .u32 b3, .int .u16 q3] 29)) := ((Fp.refl _ _).alloc _).alloc _
  rcases h1 : decide (r3 = r ∧ a3 = a ∧ p3 = p ∧ b3 = b ∧ q3 = q) with _ | _ <;> rcases h2 : decide (r3 = r2 ∧ a3 = a2 ∧ p3 = p2 ∧ b3 = b2 ∧ q3 = q2) with _ | _ <;> rw [h1] at e1 <;> rw [h2] at e2 <;> clear h1 h2
  · show Calls _ _ _ _ (Ret1 (.tuple #[.bool false, .bool false]) w)
    go_enter Tryd.func31, Tryd.ntmps31
    go_wp2_with fail
    refine bodyPost_ret (v := .tuple #[.bool false, .bool false]) (by simp only [results, Tryd.results31]; go_simp) rfl ⟨rfl, by first | exact hn | exact ((Fp.refl _ _).alloc _).alloc _ | exact (Fp.refl _ _).alloc _⟩
  · show Calls _ _ _ _ (Ret1 (.tuple #[.bool true, .bool true]) w)
    go_enter Tryd.func31, Tryd.ntmps31
    go_wp2_with fail
    refine bodyPost_ret (v := .tuple #[.bool true, .bool true]) (by simp only [results, Tryd.results31]; go_simp) rfl ⟨rfl, by first | exact hn | exact ((Fp.refl _ _).alloc _).alloc _ | exact (Fp.refl _ _).alloc _⟩
  · show Calls _ _ _ _ (Ret1 (.tuple #[.bool false, .bool true]) w)
    go_enter Tryd.func31, Tryd.ntmps31
    go_wp2_with fail
    refine bodyPost_ret (v := .tuple #[.bool false, .bool true]) (by simp only [results, Tryd.results31]; go_simp) rfl ⟨rfl, by first | exact hn | exact ((Fp.refl _ _).alloc _).alloc _ | exact (Fp.refl _ _).alloc _⟩
  · show Calls _ _ _ _ (Ret1 (.tuple #[.bool false, .bool true]) w)
    go_enter Tryd.func31, Tryd.ntmps31
    go_wp2_with fail
    refine bodyPost_ret (v := .tuple #[.bool false, .bool true]) (by simp only [results, Tryd.results31]; go_simp) rfl ⟨rfl, by first | exact hn | exact ((Fp.refl _ _).alloc _).alloc _ | exact (Fp.refl _ _).alloc _⟩
end Go.Proofs.YtaiimkcmgiceeaaDoor
