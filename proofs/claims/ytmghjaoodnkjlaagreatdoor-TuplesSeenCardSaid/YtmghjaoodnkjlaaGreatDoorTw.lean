/- Chapter 08: the order of tuples (of chapter 18's texts). · Chapter 08: a tuple, turned about; the text of one that may not be (written by gen8x.py). -/
import Derived.Test.YtmghjaoodnkjlaaGreatDoorEnD
import Derived.Test.YtmghjaoodnkjlaaGreatDoorZc
import Derived.Test.YtmghjaoodnkjlaaGreatDoorBase
import Derived.Test.YtmghjaoodnkjlaaGreatDoorZt
import Derived.Test.YtmghjaoodnkjlaaGreatDoorZp
import Derived.Test.YtmghjaoodnkjlaaGreatDoorEpT
import Derived.Test.YtmghjaoodnkjlaaGreatDoorSeeE
namespace Go.Proofs.YtmghjaoodnkjlaaGreatDoor
set_option linter.unusedVariables false
set_option linter.unusedSimpArgs false
open Go.RowKit Go.Lib Go.Sort
end Go.Proofs.YtmghjaoodnkjlaaGreatDoor
namespace Go.Proofs.YtmghjaoodnkjlaaGreatDoor
set_option linter.unusedVariables false
set_option linter.unusedSimpArgs false
open Go.RowKit Go.Lib Go.Sort
theorem back_ok (k a p b q : Nat) (w : World) : Calls Tryz.prog 16 #[.agg #[.int .u8 (k : Nat), .int .u32 (a : Nat), .int .u16 (p : Nat), .int .u32 (b : Nat), .int .u16 (q : Nat)]] w (Ret1 (.agg #[.int .u8 (k : Nat), .int .u32 (b : Nat), .int .u16 (q : Nat), .int .u32 (a : Nat), .int .u16 (p : Nat)]) w) := by
  go_enter Tryz.func16, Tryz.ntmps16
  go_wp2_with fail
  refine bodyPost_ret (v := .agg #[.int .u8 (k : Nat), .int .u32 (b : Nat), .int .u16 (q : Nat), .int .u32 (a : Nat), .int .u16 (p : Nat)]) (by simp only [results, Tryz.results16]; go_simp) rfl ⟨rfl, ?_⟩
  exact ((Fp.refl _ _).alloc _).alloc _
end Go.Proofs.YtmghjaoodnkjlaaGreatDoor
