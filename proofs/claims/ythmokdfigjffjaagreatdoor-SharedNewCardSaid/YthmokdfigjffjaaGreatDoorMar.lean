/- Texts of this proof, merged: Cz Bu Ta Ad AuN Td Te Tzw Rh. -/
import Derived.Test.YthmokdfigjffjaaGreatDoorMan
import Derived.Test.YthmokdfigjffjaaGreatDoorMao
import Derived.Test.YthmokdfigjffjaaGreatDoorMap
import Derived.Test.YthmokdfigjffjaaGreatDoorMaq
import Derived.Test.YthmokdfigjffjaaGreatDoorMaa
import Derived.Test.YthmokdfigjffjaaGreatDoorShelf
import Derived.Lib.Builder
import Derived.Lib.AppendStr
import Derived.Lib.UnsafeStr
import Derived.Laws.Externs
import Derived.Lib.ParseIntB
import Derived.Lib.ItoaNum
import Derived.Lib.SplitLaws
import Derived.Lib.IndexBytes
import Derived.Laws.BitsAllLaws
import Derived.Lib.Join
import Derived.Lib.AppendIntMem
import Derived.Lib.AtoiErrMem
import Derived.Lib.ItoaLen
import Derived.Shelf.Strconv.Itoa3
import Derived.RangeFuncNested
import Derived.RangeFuncBound
import Derived.RangeFuncCalls
import Derived.RangeFuncLeaves
import Derived.RangeFuncBox
import Derived.Shelf.Abstract
import Derived.Shelf.RegionOpen
import Derived.OwnWalkIn
import Derived.TacticsInMore
import Derived.LoopNIn
import Derived.LoopIn
import Derived.LoopN
import Derived.IntWalk
import Derived.Test.YthmokdfigjffjaaGreatDoorMak
namespace Go.Proofs.YthmokdfigjffjaaGreatDoor
set_option linter.unusedVariables false
set_option linter.unusedSimpArgs false
open Go.RowKit
noncomputable def sqK (b0 b2 m : Nat) (y : Code) (K : KdR) : KdR := fun e ds F L s => match e with
  | .normal => (rq b0 b2 m).code [0, 1] 24 223 false ds y K F L s
  | e => K e ds F L s
theorem seqZ (b0 b2 m : Nat) {m' : Nat} (hm : m' = m + 1) {c x y : Code} (hc : c = .seq x y) (K : KdR) (F : Fr) (L : Hp) (s : Strm) : (rq b0 b2 m').code [0, 1] 24 223 false [] c K F L s = (rq b0 b2 m).code [0, 1] 24 223 false [] x (sqK b0 b2 m y K) F L s := by subst hm; subst hc; rfl
theorem sqK_n (b0 b2 m : Nat) (y : Code) (K : KdR) (F : Fr) (L : Hp) (s : Strm) : sqK b0 b2 m y K .normal [] F L s = (rq b0 b2 m).code [0, 1] 24 223 false [] y K F L s := rfl
theorem rest0 : restC 0 c24 = .seq (nthC 0 c24) (restC 1 c24) := by kernel_rfl
theorem rest1 : restC 1 c24 = .seq (nthC 1 c24) (restC 2 c24) := by kernel_rfl
theorem rest2 : restC 2 c24 = .seq (nthC 2 c24) (restC 3 c24) := by kernel_rfl
theorem rest3 : restC 3 c24 = .seq (nthC 3 c24) (restC 4 c24) := by kernel_rfl
theorem rest4 : restC 4 c24 = .seq (nthC 4 c24) (restC 5 c24) := by kernel_rfl
theorem rest5 : restC 5 c24 = .seq (nthC 5 c24) (restC 6 c24) := by kernel_rfl
theorem rest6 : restC 6 c24 = .seq (nthC 6 c24) (restC 7 c24) := by kernel_rfl
theorem rest7 : restC 7 c24 = .seq (nthC 7 c24) (restC 8 c24) := by kernel_rfl
theorem rest8 : restC 8 c24 = .seq (nthC 8 c24) (restC 9 c24) := by kernel_rfl
theorem rest9 : restC 9 c24 = .seq (nthC 9 c24) (restC 10 c24) := by kernel_rfl
theorem rest10 : restC 10 c24 = .seq (nthC 10 c24) (restC 11 c24) := by kernel_rfl
theorem rest11 : restC 11 c24 = .seq (nthC 11 c24) (restC 12 c24) := by kernel_rfl
theorem rest12 : restC 12 c24 = .seq (nthC 12 c24) (restC 13 c24) := by kernel_rfl
theorem rest13 : restC 13 c24 = .seq (nthC 13 c24) (restC 14 c24) := by kernel_rfl
theorem rest14 : restC 14 c24 = .seq (nthC 14 c24) (restC 15 c24) := by kernel_rfl
theorem rest15 : restC 15 c24 = .seq (nthC 15 c24) (restC 16 c24) := by kernel_rfl
theorem rest16 : restC 16 c24 = .seq (nthC 16 c24) (restC 17 c24) := by kernel_rfl
theorem rest17 : restC 17 c24 = .seq (nthC 17 c24) (restC 18 c24) := by kernel_rfl
theorem rest18 : restC 18 c24 = .seq (nthC 18 c24) (restC 19 c24) := by kernel_rfl
theorem rest19 : restC 19 c24 = .seq (nthC 19 c24) (restC 20 c24) := by kernel_rfl
theorem rest20 : restC 20 c24 = .seq (nthC 20 c24) (restC 21 c24) := by kernel_rfl
theorem rest21 : restC 21 c24 = .seq (nthC 21 c24) (restC 22 c24) := by kernel_rfl
theorem rest22 : restC 22 c24 = .seq (nthC 22 c24) (restC 23 c24) := by kernel_rfl
theorem rest23 : restC 23 c24 = .ret := by kernel_rfl
theorem retZ (b0 b2 m : Nat) {c : Code} (hc : c = .ret) (K : KdR) (F : Fr) (L : Hp) (s : Strm) : (rq b0 b2 (m + 1)).code [0, 1] 24 223 false [] c K F L s = K .ret [] F L s := by subst hc; rfl
section
attribute [local irreducible] rz restC nthC c24
theorem run23 (o0 o2 : Obj) (b0 b2 : Nat) (s : Strm) (K : KdR) : (rq b0 b2 99977).code [0, 1] 24 223 false [] (restC 23 c24) K (F23 b0 b2 s) (L23 o0 o2 b0 b2 s) (tlk 447 s) = K .ret [] (F23 b0 b2 s) (L23 o0 o2 b0 b2 s) (tlk 447 s) := retZ b0 b2 99976 rest23 K _ _ _
theorem run22 (o0 o2 : Obj) (b0 b2 : Nat) (s : Strm) (K : KdR) : (rq b0 b2 99978).code [0, 1] 24 223 false [] (restC 22 c24) K (F22 b0 b2 s) (L22 o0 o2 b0 b2 s) (tlk 447 s) = K .ret [] (F23 b0 b2 s) (L23 o0 o2 b0 b2 s) (tlk 447 s) := (seqZ b0 b2 99977 rfl rest22 K _ _ _).trans ((cst22 o0 o2 b0 b2 s _).trans ((sqK_n b0 b2 99977 _ K _ _ _).trans (run23 o0 o2 b0 b2 s K)))
theorem run21 (o0 o2 : Obj) (b0 b2 : Nat) (s : Strm) (K : KdR) : (rq b0 b2 99979).code [0, 1] 24 223 false [] (restC 21 c24) K (F21 b0 b2 s) (L21 o0 o2 b0 b2 s) (tlk 441 s) = K .ret [] (F23 b0 b2 s) (L23 o0 o2 b0 b2 s) (tlk 447 s) := (seqZ b0 b2 99978 rfl rest21 K _ _ _).trans ((cst21 o0 o2 b0 b2 s _).trans ((sqK_n b0 b2 99978 _ K _ _ _).trans (run22 o0 o2 b0 b2 s K)))
theorem run20 (o0 o2 : Obj) (b0 b2 : Nat) (s : Strm) (K : KdR) : (rq b0 b2 99980).code [0, 1] 24 223 false [] (restC 20 c24) K (F20 b0 b2 s) (L20 o0 o2 b0 b2 s) (tlk 441 s) = K .ret [] (F23 b0 b2 s) (L23 o0 o2 b0 b2 s) (tlk 447 s) := (seqZ b0 b2 99979 rfl rest20 K _ _ _).trans ((cst20 o0 o2 b0 b2 s _).trans ((sqK_n b0 b2 99979 _ K _ _ _).trans (run21 o0 o2 b0 b2 s K)))
theorem run19 (o0 o2 : Obj) (b0 b2 : Nat) (s : Strm) (K : KdR) : (rq b0 b2 99981).code [0, 1] 24 223 false [] (restC 19 c24) K (F19 b0 b2 s) (L19 o0 o2 b0 b2 s) (tlk 434 s) = K .ret [] (F23 b0 b2 s) (L23 o0 o2 b0 b2 s) (tlk 447 s) := (seqZ b0 b2 99980 rfl rest19 K _ _ _).trans ((cst19 o0 o2 b0 b2 s _).trans ((sqK_n b0 b2 99980 _ K _ _ _).trans (run20 o0 o2 b0 b2 s K)))
theorem run18 (o0 o2 : Obj) (b0 b2 : Nat) (s : Strm) (K : KdR) : (rq b0 b2 99982).code [0, 1] 24 223 false [] (restC 18 c24) K (F18 b0 b2 s) (L18 o0 o2 b0 b2 s) (tlk 415 s) = K .ret [] (F23 b0 b2 s) (L23 o0 o2 b0 b2 s) (tlk 447 s) := (seqZ b0 b2 99981 rfl rest18 K _ _ _).trans ((cst18 o0 o2 b0 b2 s _).trans ((sqK_n b0 b2 99981 _ K _ _ _).trans (run19 o0 o2 b0 b2 s K)))
theorem run17 (o0 o2 : Obj) (b0 b2 : Nat) (s : Strm) (K : KdR) : (rq b0 b2 99983).code [0, 1] 24 223 false [] (restC 17 c24) K (F17 b0 b2 s) (L17 o0 o2 b0 b2 s) (tlk 358 s) = K .ret [] (F23 b0 b2 s) (L23 o0 o2 b0 b2 s) (tlk 447 s) := (seqZ b0 b2 99982 rfl rest17 K _ _ _).trans ((cst17 o0 o2 b0 b2 s _).trans ((sqK_n b0 b2 99982 _ K _ _ _).trans (run18 o0 o2 b0 b2 s K)))
theorem run16 (o0 o2 : Obj) (b0 b2 : Nat) (s : Strm) (K : KdR) : (rq b0 b2 99984).code [0, 1] 24 223 false [] (restC 16 c24) K (F16 b0 b2 s) (L16 o0 o2 b0 b2 s) (tlk 358 s) = K .ret [] (F23 b0 b2 s) (L23 o0 o2 b0 b2 s) (tlk 447 s) := (seqZ b0 b2 99983 rfl rest16 K _ _ _).trans ((cst16 o0 o2 b0 b2 s _).trans ((sqK_n b0 b2 99983 _ K _ _ _).trans (run17 o0 o2 b0 b2 s K)))
theorem run15 (o0 o2 : Obj) (b0 b2 : Nat) (s : Strm) (K : KdR) : (rq b0 b2 99985).code [0, 1] 24 223 false [] (restC 15 c24) K (F15 b0 b2 s) (L15 o0 o2 b0 b2 s) (tlk 358 s) = K .ret [] (F23 b0 b2 s) (L23 o0 o2 b0 b2 s) (tlk 447 s) := (seqZ b0 b2 99984 rfl rest15 K _ _ _).trans ((cst15 o0 o2 b0 b2 s _).trans ((sqK_n b0 b2 99984 _ K _ _ _).trans (run16 o0 o2 b0 b2 s K)))
theorem run14 (o0 o2 : Obj) (b0 b2 : Nat) (s : Strm) (K : KdR) : (rq b0 b2 99986).code [0, 1] 24 223 false [] (restC 14 c24) K (F14 b0 b2 s) (L14 o0 o2 b0 b2 s) (tlk 346 s) = K .ret [] (F23 b0 b2 s) (L23 o0 o2 b0 b2 s) (tlk 447 s) := (seqZ b0 b2 99985 rfl rest14 K _ _ _).trans ((cst14 o0 o2 b0 b2 s _).trans ((sqK_n b0 b2 99985 _ K _ _ _).trans (run15 o0 o2 b0 b2 s K)))
theorem run13 (o0 o2 : Obj) (b0 b2 : Nat) (s : Strm) (K : KdR) : (rq b0 b2 99987).code [0, 1] 24 223 false [] (restC 13 c24) K (F13 b0 b2 s) (L13 o0 o2 b0 b2 s) (tlk 303 s) = K .ret [] (F23 b0 b2 s) (L23 o0 o2 b0 b2 s) (tlk 447 s) := (seqZ b0 b2 99986 rfl rest13 K _ _ _).trans ((cst13 o0 o2 b0 b2 s _).trans ((sqK_n b0 b2 99986 _ K _ _ _).trans (run14 o0 o2 b0 b2 s K)))
theorem run12 (o0 o2 : Obj) (b0 b2 : Nat) (s : Strm) (K : KdR) : (rq b0 b2 99988).code [0, 1] 24 223 false [] (restC 12 c24) K (F12 b0 b2 s) (L12 o0 o2 b0 b2 s) (tlk 295 s) = K .ret [] (F23 b0 b2 s) (L23 o0 o2 b0 b2 s) (tlk 447 s) := (seqZ b0 b2 99987 rfl rest12 K _ _ _).trans ((cst12 o0 o2 b0 b2 s _).trans ((sqK_n b0 b2 99987 _ K _ _ _).trans (run13 o0 o2 b0 b2 s K)))
theorem run11 (o0 o2 : Obj) (b0 b2 : Nat) (s : Strm) (K : KdR) : (rq b0 b2 99989).code [0, 1] 24 223 false [] (restC 11 c24) K (F11 b0 b2 s) (L11 o0 o2 b0 b2 s) (tlk 283 s) = K .ret [] (F23 b0 b2 s) (L23 o0 o2 b0 b2 s) (tlk 447 s) := (seqZ b0 b2 99988 rfl rest11 K _ _ _).trans ((cst11 o0 o2 b0 b2 s _).trans ((sqK_n b0 b2 99988 _ K _ _ _).trans (run12 o0 o2 b0 b2 s K)))
theorem run10 (o0 o2 : Obj) (b0 b2 : Nat) (s : Strm) (K : KdR) : (rq b0 b2 99990).code [0, 1] 24 223 false [] (restC 10 c24) K (F10 b0 b2 s) (L10 o0 o2 b0 b2 s) (tlk 194 s) = K .ret [] (F23 b0 b2 s) (L23 o0 o2 b0 b2 s) (tlk 447 s) := (seqZ b0 b2 99989 rfl rest10 K _ _ _).trans ((cst10 o0 o2 b0 b2 s _).trans ((sqK_n b0 b2 99989 _ K _ _ _).trans (run11 o0 o2 b0 b2 s K)))
theorem run9 (o0 o2 : Obj) (b0 b2 : Nat) (s : Strm) (K : KdR) : (rq b0 b2 99991).code [0, 1] 24 223 false [] (restC 9 c24) K (F9 b0 b2 s) (L9 o0 o2 b0 b2 s) (tlk 179 s) = K .ret [] (F23 b0 b2 s) (L23 o0 o2 b0 b2 s) (tlk 447 s) := (seqZ b0 b2 99990 rfl rest9 K _ _ _).trans ((cst9 o0 o2 b0 b2 s _).trans ((sqK_n b0 b2 99990 _ K _ _ _).trans (run10 o0 o2 b0 b2 s K)))
theorem run8 (o0 o2 : Obj) (b0 b2 : Nat) (s : Strm) (K : KdR) : (rq b0 b2 99992).code [0, 1] 24 223 false [] (restC 8 c24) K (F8 b0 b2 s) (L8 o0 o2 b0 b2 s) (tlk 173 s) = K .ret [] (F23 b0 b2 s) (L23 o0 o2 b0 b2 s) (tlk 447 s) := (seqZ b0 b2 99991 rfl rest8 K _ _ _).trans ((cst8 o0 o2 b0 b2 s _).trans ((sqK_n b0 b2 99991 _ K _ _ _).trans (run9 o0 o2 b0 b2 s K)))
theorem run7 (o0 o2 : Obj) (b0 b2 : Nat) (s : Strm) (K : KdR) : (rq b0 b2 99993).code [0, 1] 24 223 false [] (restC 7 c24) K (F7 b0 b2 s) (L7 o0 o2 b0 b2 s) (tlk 168 s) = K .ret [] (F23 b0 b2 s) (L23 o0 o2 b0 b2 s) (tlk 447 s) := (seqZ b0 b2 99992 rfl rest7 K _ _ _).trans ((cst7 o0 o2 b0 b2 s _).trans ((sqK_n b0 b2 99992 _ K _ _ _).trans (run8 o0 o2 b0 b2 s K)))
theorem run6 (o0 o2 : Obj) (b0 b2 : Nat) (s : Strm) (K : KdR) : (rq b0 b2 99994).code [0, 1] 24 223 false [] (restC 6 c24) K (F6 b0 b2 s) (L6 o0 o2 b0 b2 s) (tlk 152 s) = K .ret [] (F23 b0 b2 s) (L23 o0 o2 b0 b2 s) (tlk 447 s) := (seqZ b0 b2 99993 rfl rest6 K _ _ _).trans ((cst6 o0 o2 b0 b2 s _).trans ((sqK_n b0 b2 99993 _ K _ _ _).trans (run7 o0 o2 b0 b2 s K)))
theorem run5 (o0 o2 : Obj) (b0 b2 : Nat) (s : Strm) (K : KdR) : (rq b0 b2 99995).code [0, 1] 24 223 false [] (restC 5 c24) K (F5 b0 b2 s) (L5 o0 o2 b0 b2 s) (tlk 152 s) = K .ret [] (F23 b0 b2 s) (L23 o0 o2 b0 b2 s) (tlk 447 s) := (seqZ b0 b2 99994 rfl rest5 K _ _ _).trans ((cst5 o0 o2 b0 b2 s _).trans ((sqK_n b0 b2 99994 _ K _ _ _).trans (run6 o0 o2 b0 b2 s K)))
theorem run4 (o0 o2 : Obj) (b0 b2 : Nat) (s : Strm) (K : KdR) : (rq b0 b2 99996).code [0, 1] 24 223 false [] (restC 4 c24) K (F4 b0 b2 s) (L4 o0 o2 b0 b2 s) (tlk 88 s) = K .ret [] (F23 b0 b2 s) (L23 o0 o2 b0 b2 s) (tlk 447 s) := (seqZ b0 b2 99995 rfl rest4 K _ _ _).trans ((cst4 o0 o2 b0 b2 s _).trans ((sqK_n b0 b2 99995 _ K _ _ _).trans (run5 o0 o2 b0 b2 s K)))
theorem run3 (o0 o2 : Obj) (b0 b2 : Nat) (s : Strm) (K : KdR) : (rq b0 b2 99997).code [0, 1] 24 223 false [] (restC 3 c24) K (F3 b0 b2 s) (L3 o0 o2 b0 b2 s) (tlk 45 s) = K .ret [] (F23 b0 b2 s) (L23 o0 o2 b0 b2 s) (tlk 447 s) := (seqZ b0 b2 99996 rfl rest3 K _ _ _).trans ((cst3 o0 o2 b0 b2 s _).trans ((sqK_n b0 b2 99996 _ K _ _ _).trans (run4 o0 o2 b0 b2 s K)))
theorem run2 (o0 o2 : Obj) (b0 b2 : Nat) (s : Strm) (K : KdR) : (rq b0 b2 99998).code [0, 1] 24 223 false [] (restC 2 c24) K (F2 b0 b2 s) (L2 o0 o2 b0 b2 s) (tlk 45 s) = K .ret [] (F23 b0 b2 s) (L23 o0 o2 b0 b2 s) (tlk 447 s) := (seqZ b0 b2 99997 rfl rest2 K _ _ _).trans ((cst2 o0 o2 b0 b2 s _).trans ((sqK_n b0 b2 99997 _ K _ _ _).trans (run3 o0 o2 b0 b2 s K)))
theorem run23b (o0 o2 : Obj) (b0 b2 : Nat) (s : Strm) (K : KdR) : (rq b0 b2 99977).code [0, 1] 24 223 false [] (restC 23 c24) K (F23b b0 b2 s) (L23b o0 o2 b0 b2 s) (tlk 447 s) = K .ret [] (F23b b0 b2 s) (L23b o0 o2 b0 b2 s) (tlk 447 s) := retZ b0 b2 99976 rest23 K _ _ _
theorem run22b (o0 o2 : Obj) (b0 b2 : Nat) (s : Strm) (K : KdR) : (rq b0 b2 99978).code [0, 1] 24 223 false [] (restC 22 c24) K (F22b b0 b2 s) (L22b o0 o2 b0 b2 s) (tlk 447 s) = K .ret [] (F23b b0 b2 s) (L23b o0 o2 b0 b2 s) (tlk 447 s) := (seqZ b0 b2 99977 rfl rest22 K _ _ _).trans ((cst22b o0 o2 b0 b2 s _).trans ((sqK_n b0 b2 99977 _ K _ _ _).trans (run23b o0 o2 b0 b2 s K)))
theorem run21b (o0 o2 : Obj) (b0 b2 : Nat) (s : Strm) (K : KdR) : (rq b0 b2 99979).code [0, 1] 24 223 false [] (restC 21 c24) K (F21b b0 b2 s) (L21b o0 o2 b0 b2 s) (tlk 441 s) = K .ret [] (F23b b0 b2 s) (L23b o0 o2 b0 b2 s) (tlk 447 s) := (seqZ b0 b2 99978 rfl rest21 K _ _ _).trans ((cst21b o0 o2 b0 b2 s _).trans ((sqK_n b0 b2 99978 _ K _ _ _).trans (run22b o0 o2 b0 b2 s K)))
theorem run20b (o0 o2 : Obj) (b0 b2 : Nat) (s : Strm) (K : KdR) : (rq b0 b2 99980).code [0, 1] 24 223 false [] (restC 20 c24) K (F20b b0 b2 s) (L20b o0 o2 b0 b2 s) (tlk 441 s) = K .ret [] (F23b b0 b2 s) (L23b o0 o2 b0 b2 s) (tlk 447 s) := (seqZ b0 b2 99979 rfl rest20 K _ _ _).trans ((cst20b o0 o2 b0 b2 s _).trans ((sqK_n b0 b2 99979 _ K _ _ _).trans (run21b o0 o2 b0 b2 s K)))
theorem run19b (o0 o2 : Obj) (b0 b2 : Nat) (s : Strm) (K : KdR) : (rq b0 b2 99981).code [0, 1] 24 223 false [] (restC 19 c24) K (F19b b0 b2 s) (L19b o0 o2 b0 b2 s) (tlk 434 s) = K .ret [] (F23b b0 b2 s) (L23b o0 o2 b0 b2 s) (tlk 447 s) := (seqZ b0 b2 99980 rfl rest19 K _ _ _).trans ((cst19b o0 o2 b0 b2 s _).trans ((sqK_n b0 b2 99980 _ K _ _ _).trans (run20b o0 o2 b0 b2 s K)))
theorem run18b (o0 o2 : Obj) (b0 b2 : Nat) (s : Strm) (K : KdR) : (rq b0 b2 99982).code [0, 1] 24 223 false [] (restC 18 c24) K (F18b b0 b2 s) (L18b o0 o2 b0 b2 s) (tlk 415 s) = K .ret [] (F23b b0 b2 s) (L23b o0 o2 b0 b2 s) (tlk 447 s) := (seqZ b0 b2 99981 rfl rest18 K _ _ _).trans ((cst18b o0 o2 b0 b2 s _).trans ((sqK_n b0 b2 99981 _ K _ _ _).trans (run19b o0 o2 b0 b2 s K)))
theorem run17b (o0 o2 : Obj) (b0 b2 : Nat) (s : Strm) (K : KdR) : (rq b0 b2 99983).code [0, 1] 24 223 false [] (restC 17 c24) K (F17b b0 b2 s) (L17b o0 o2 b0 b2 s) (tlk 358 s) = K .ret [] (F23b b0 b2 s) (L23b o0 o2 b0 b2 s) (tlk 447 s) := (seqZ b0 b2 99982 rfl rest17 K _ _ _).trans ((cst17b o0 o2 b0 b2 s _).trans ((sqK_n b0 b2 99982 _ K _ _ _).trans (run18b o0 o2 b0 b2 s K)))
theorem run16b (o0 o2 : Obj) (b0 b2 : Nat) (s : Strm) (K : KdR) : (rq b0 b2 99984).code [0, 1] 24 223 false [] (restC 16 c24) K (F16b b0 b2 s) (L16b o0 o2 b0 b2 s) (tlk 358 s) = K .ret [] (F23b b0 b2 s) (L23b o0 o2 b0 b2 s) (tlk 447 s) := (seqZ b0 b2 99983 rfl rest16 K _ _ _).trans ((cst16b o0 o2 b0 b2 s _).trans ((sqK_n b0 b2 99983 _ K _ _ _).trans (run17b o0 o2 b0 b2 s K)))
theorem run15b (o0 o2 : Obj) (b0 b2 : Nat) (s : Strm) (K : KdR) : (rq b0 b2 99985).code [0, 1] 24 223 false [] (restC 15 c24) K (F15b b0 b2 s) (L15b o0 o2 b0 b2 s) (tlk 358 s) = K .ret [] (F23b b0 b2 s) (L23b o0 o2 b0 b2 s) (tlk 447 s) := (seqZ b0 b2 99984 rfl rest15 K _ _ _).trans ((cst15b o0 o2 b0 b2 s _).trans ((sqK_n b0 b2 99984 _ K _ _ _).trans (run16b o0 o2 b0 b2 s K)))
theorem run14b (o0 o2 : Obj) (b0 b2 : Nat) (s : Strm) (K : KdR) : (rq b0 b2 99986).code [0, 1] 24 223 false [] (restC 14 c24) K (F14b b0 b2 s) (L14b o0 o2 b0 b2 s) (tlk 346 s) = K .ret [] (F23b b0 b2 s) (L23b o0 o2 b0 b2 s) (tlk 447 s) := (seqZ b0 b2 99985 rfl rest14 K _ _ _).trans ((cst14b o0 o2 b0 b2 s _).trans ((sqK_n b0 b2 99985 _ K _ _ _).trans (run15b o0 o2 b0 b2 s K)))
theorem run13b (o0 o2 : Obj) (b0 b2 : Nat) (s : Strm) (K : KdR) : (rq b0 b2 99987).code [0, 1] 24 223 false [] (restC 13 c24) K (F13b b0 b2 s) (L13b o0 o2 b0 b2 s) (tlk 303 s) = K .ret [] (F23b b0 b2 s) (L23b o0 o2 b0 b2 s) (tlk 447 s) := (seqZ b0 b2 99986 rfl rest13 K _ _ _).trans ((cst13b o0 o2 b0 b2 s _).trans ((sqK_n b0 b2 99986 _ K _ _ _).trans (run14b o0 o2 b0 b2 s K)))
theorem run12b (o0 o2 : Obj) (b0 b2 : Nat) (s : Strm) (K : KdR) : (rq b0 b2 99988).code [0, 1] 24 223 false [] (restC 12 c24) K (F12b b0 b2 s) (L12b o0 o2 b0 b2 s) (tlk 295 s) = K .ret [] (F23b b0 b2 s) (L23b o0 o2 b0 b2 s) (tlk 447 s) := (seqZ b0 b2 99987 rfl rest12 K _ _ _).trans ((cst12b o0 o2 b0 b2 s _).trans ((sqK_n b0 b2 99987 _ K _ _ _).trans (run13b o0 o2 b0 b2 s K)))
theorem run11b (o0 o2 : Obj) (b0 b2 : Nat) (s : Strm) (K : KdR) : (rq b0 b2 99989).code [0, 1] 24 223 false [] (restC 11 c24) K (F11b b0 b2 s) (L11b o0 o2 b0 b2 s) (tlk 283 s) = K .ret [] (F23b b0 b2 s) (L23b o0 o2 b0 b2 s) (tlk 447 s) := (seqZ b0 b2 99988 rfl rest11 K _ _ _).trans ((cst11b o0 o2 b0 b2 s _).trans ((sqK_n b0 b2 99988 _ K _ _ _).trans (run12b o0 o2 b0 b2 s K)))
theorem run10b (o0 o2 : Obj) (b0 b2 : Nat) (s : Strm) (K : KdR) : (rq b0 b2 99990).code [0, 1] 24 223 false [] (restC 10 c24) K (F10b b0 b2 s) (L10b o0 o2 b0 b2 s) (tlk 194 s) = K .ret [] (F23b b0 b2 s) (L23b o0 o2 b0 b2 s) (tlk 447 s) := (seqZ b0 b2 99989 rfl rest10 K _ _ _).trans ((cst10b o0 o2 b0 b2 s _).trans ((sqK_n b0 b2 99989 _ K _ _ _).trans (run11b o0 o2 b0 b2 s K)))
theorem run9b (o0 o2 : Obj) (b0 b2 : Nat) (s : Strm) (K : KdR) : (rq b0 b2 99991).code [0, 1] 24 223 false [] (restC 9 c24) K (F9b b0 b2 s) (L9b o0 o2 b0 b2 s) (tlk 179 s) = K .ret [] (F23b b0 b2 s) (L23b o0 o2 b0 b2 s) (tlk 447 s) := (seqZ b0 b2 99990 rfl rest9 K _ _ _).trans ((cst9b o0 o2 b0 b2 s _).trans ((sqK_n b0 b2 99990 _ K _ _ _).trans (run10b o0 o2 b0 b2 s K)))
theorem run8b (o0 o2 : Obj) (b0 b2 : Nat) (s : Strm) (K : KdR) : (rq b0 b2 99992).code [0, 1] 24 223 false [] (restC 8 c24) K (F8b b0 b2 s) (L8b o0 o2 b0 b2 s) (tlk 173 s) = K .ret [] (F23b b0 b2 s) (L23b o0 o2 b0 b2 s) (tlk 447 s) := (seqZ b0 b2 99991 rfl rest8 K _ _ _).trans ((cst8b o0 o2 b0 b2 s _).trans ((sqK_n b0 b2 99991 _ K _ _ _).trans (run9b o0 o2 b0 b2 s K)))
theorem run7b (o0 o2 : Obj) (b0 b2 : Nat) (s : Strm) (K : KdR) : (rq b0 b2 99993).code [0, 1] 24 223 false [] (restC 7 c24) K (F7b b0 b2 s) (L7b o0 o2 b0 b2 s) (tlk 168 s) = K .ret [] (F23b b0 b2 s) (L23b o0 o2 b0 b2 s) (tlk 447 s) := (seqZ b0 b2 99992 rfl rest7 K _ _ _).trans ((cst7b o0 o2 b0 b2 s _).trans ((sqK_n b0 b2 99992 _ K _ _ _).trans (run8b o0 o2 b0 b2 s K)))
theorem run6b (o0 o2 : Obj) (b0 b2 : Nat) (s : Strm) (K : KdR) : (rq b0 b2 99994).code [0, 1] 24 223 false [] (restC 6 c24) K (F6b b0 b2 s) (L6b o0 o2 b0 b2 s) (tlk 152 s) = K .ret [] (F23b b0 b2 s) (L23b o0 o2 b0 b2 s) (tlk 447 s) := (seqZ b0 b2 99993 rfl rest6 K _ _ _).trans ((cst6b o0 o2 b0 b2 s _).trans ((sqK_n b0 b2 99993 _ K _ _ _).trans (run7b o0 o2 b0 b2 s K)))
theorem run5b (o0 o2 : Obj) (b0 b2 : Nat) (s : Strm) (K : KdR) : (rq b0 b2 99995).code [0, 1] 24 223 false [] (restC 5 c24) K (F5b b0 b2 s) (L5b o0 o2 b0 b2 s) (tlk 152 s) = K .ret [] (F23b b0 b2 s) (L23b o0 o2 b0 b2 s) (tlk 447 s) := (seqZ b0 b2 99994 rfl rest5 K _ _ _).trans ((cst5b o0 o2 b0 b2 s _).trans ((sqK_n b0 b2 99994 _ K _ _ _).trans (run6b o0 o2 b0 b2 s K)))
theorem run4b (o0 o2 : Obj) (b0 b2 : Nat) (s : Strm) (K : KdR) : (rq b0 b2 99996).code [0, 1] 24 223 false [] (restC 4 c24) K (F4b b0 b2 s) (L4b o0 o2 b0 b2 s) (tlk 88 s) = K .ret [] (F23b b0 b2 s) (L23b o0 o2 b0 b2 s) (tlk 447 s) := (seqZ b0 b2 99995 rfl rest4 K _ _ _).trans ((cst4b o0 o2 b0 b2 s _).trans ((sqK_n b0 b2 99995 _ K _ _ _).trans (run5b o0 o2 b0 b2 s K)))
theorem run3b (o0 o2 : Obj) (b0 b2 : Nat) (s : Strm) (K : KdR) : (rq b0 b2 99997).code [0, 1] 24 223 false [] (restC 3 c24) K (F3b b0 b2 s) (L3b o0 o2 b0 b2 s) (tlk 45 s) = K .ret [] (F23b b0 b2 s) (L23b o0 o2 b0 b2 s) (tlk 447 s) := (seqZ b0 b2 99996 rfl rest3 K _ _ _).trans ((cst3b o0 o2 b0 b2 s _).trans ((sqK_n b0 b2 99996 _ K _ _ _).trans (run4b o0 o2 b0 b2 s K)))
theorem run2b (o0 o2 : Obj) (b0 b2 : Nat) (s : Strm) (K : KdR) : (rq b0 b2 99998).code [0, 1] 24 223 false [] (restC 2 c24) K (F2b b0 b2 s) (L2b o0 o2 b0 b2 s) (tlk 45 s) = K .ret [] (F23b b0 b2 s) (L23b o0 o2 b0 b2 s) (tlk 447 s) := (seqZ b0 b2 99997 rfl rest2 K _ _ _).trans ((cst2b o0 o2 b0 b2 s _).trans ((sqK_n b0 b2 99997 _ K _ _ _).trans (run3b o0 o2 b0 b2 s K)))
theorem run1 (o0 o2 : Obj) (b0 b2 : Nat) (s : Strm) (K : KdR) : (rq b0 b2 99999).code [0, 1] 24 223 false [] (restC 1 c24) K (F1 b0 b2 s) (L1 o0 o2 b0 b2 s) (tlk 0 s) = (K .ret [] (F23 b0 b2 s) (L23 o0 o2 b0 b2 s) (tlk 447 s) && K .ret [] (F23b b0 b2 s) (L23b o0 o2 b0 b2 s) (tlk 447 s)) := (seqZ b0 b2 99998 rfl rest1 K _ _ _).trans ((cst1 o0 o2 b0 b2 s _).trans (by rw [sqK_n, sqK_n, run2 o0 o2 b0 b2 s K, run2b o0 o2 b0 b2 s K]))
theorem run0 (o0 o2 : Obj) (b0 b2 : Nat) (s : Strm) (K : KdR) : (rq b0 b2 100000).code [0, 1] 24 223 false [] (restC 0 c24) K (F0 b0 b2 s) (L0 o0 o2 b0 b2 s) (tlk 0 s) = (K .ret [] (F23 b0 b2 s) (L23 o0 o2 b0 b2 s) (tlk 447 s) && K .ret [] (F23b b0 b2 s) (L23b o0 o2 b0 b2 s) (tlk 447 s)) := (seqZ b0 b2 99999 rfl rest0 K _ _ _).trans ((cst0 o0 o2 b0 b2 s _).trans ((sqK_n b0 b2 99999 _ K _ _ _).trans (run1 o0 o2 b0 b2 s K)))
end
theorem callZ {P : Program} {tb : Tbx} {fo : Fo} {pt : Plt} {gl : Gl} {hk : Nat → Option (List Nat → List SV → Hp → Strm → KvR → Bool)} {raw : List Nat → Nz → Oper → Fr → Hp → Strm → KvR → Bool} {rt : Nz → Oper → Fr → Hp → Option SV} {m f : Nat} {ps : List Nat} {xs : List SV} {L : Hp} {s : Strm} {K : KvR} {fn : Func} {c : Code} (h1 : hk f = none) (h2 : P.funcs[f]? = some fn) (h3 : fn.body = some c) (h4 : Nat.ble xs.length fn.ntmps = true) :
    (rz P tb fo pt gl hk raw rt (m + 1)).call ps f xs L s K = (rz P tb fo pt gl hk raw rt m).code ps f fn.ntmps false [] c (finZ tb fo P (rz P tb fo pt gl hk raw rt m) ps fn.results.toList K) (argF 0 xs) L s := by
  change (stepZ P tb fo pt gl hk raw rt (rz P tb fo pt gl hk raw rt m)).call ps f xs L s K = _
  simp only [stepZ, h1, h2, h3, h4, cond_true]
theorem c24_body : Tryz.f24.body = some (restC 0 c24) := by kernel_rfl
theorem c24_tmps : Tryz.f24.ntmps = 223 := by kernel_rfl
theorem c24_res : Tryz.f24.results.toList = [.tmp 0] := by kernel_rfl
attribute [local irreducible] rz restC nthC c24
theorem com_call (o0 o2 : Obj) (b0 b2 : Nat) (s : Strm) (K : KvR) : (rq b0 b2 100001).call [0, 1] 24 [] (L0 o0 o2 b0 b2 s) s K = (rq b0 b2 100000).code [0, 1] 24 223 false [] (restC 0 c24) (finZ tb fo Tryz.prog (rq b0 b2 100000) [0, 1] [.tmp 0] K) (F0 b0 b2 s) (L0 o0 o2 b0 b2 s) (tlk 0 s) := by
  have h := callZ (tb := tb) (fo := fo) (pt := ptZ) (gl := glC b0 b2) (hk := hk) (raw := rawY Tryz.prog tb kl) (rt := rtX) (m := 100000) (ps := [0, 1]) (xs := []) (L := L0 o0 o2 b0 b2 s) (s := s) (K := K) (show hk 24 = none by kernel_rfl) Tryz.func24 c24_body rfl
  rw [c24_tmps, c24_res] at h
  exact h
theorem res23 (o0 o2 : Obj) (b0 b2 : Nat) (s : Strm) : resS tb (F23 b0 b2 s) (L23 o0 o2 b0 b2 s) [.tmp 0] = some [.c (.b true)] := by kernel_rfl
theorem res23b (o0 o2 : Obj) (b0 b2 : Nat) (s : Strm) : resS tb (F23b b0 b2 s) (L23b o0 o2 b0 b2 s) [.tmp 0] = some [.c (.b true)] := by kernel_rfl
theorem com_end (v : KvR) (o0 o2 : Obj) (b0 b2 : Nat) (s : Strm) : finZ tb fo Tryz.prog (rq b0 b2 100000) [0, 1] [.tmp 0] v .ret [] (F23 b0 b2 s) (L23 o0 o2 b0 b2 s) (tlk 447 s) = v (.e (.c (.b true))) (L23 o0 o2 b0 b2 s) (tlk 447 s) := by
  simp only [finZ, leaveZ, res23]
theorem com_endb (v : KvR) (o0 o2 : Obj) (b0 b2 : Nat) (s : Strm) : finZ tb fo Tryz.prog (rq b0 b2 100000) [0, 1] [.tmp 0] v .ret [] (F23b b0 b2 s) (L23b o0 o2 b0 b2 s) (tlk 447 s) = v (.e (.c (.b true))) (L23b o0 o2 b0 b2 s) (tlk 447 s) := by
  simp only [finZ, leaveZ, res23b]
theorem common_run (o0 o2 : Obj) (b0 b2 : Nat) (s : Strm) (K : KvR) (h : ∀ L s, K (.e (.c (.b true))) L s = true) : (rq b0 b2 100001).call [0, 1] 24 [] (L0 o0 o2 b0 b2 s) s K = true := by
  rw [com_call, run0, com_end, com_endb, h, h]; rfl
end Go.Proofs.YthmokdfigjffjaaGreatDoor

namespace Go.Proofs.YthmokdfigjffjaaGreatDoor
set_option linter.unusedVariables false
set_option linter.unusedSimpArgs false
open Go.RowKit Go.Lib Go.Sort

theorem bu_size : (Tryz.prog.info? 416).map (·.size) = some 2 := by kernel_rfl
theorem bu_lies : liesAt Tryz.prog Tryz.prog.depth 416 (2 / Tryz.prog.cellsOf 416) 0 416 1 = true := by kernel_rfl
set_option maxHeartbeats 1000000 in
set_option maxRecDepth 100000 in
theorem bu_check_used (b : Nat) (w : World) (h0 : w.cell? ⟨b, 0, none⟩ = some (.pointer (some ⟨b, 0, none⟩))) :
    Calls Tryz.prog 268 #[.pointer (some ⟨b, 0, none⟩)] w fun e w' => e = .returned (.tuple #[]) ∧ w' = w := by
  obtain ⟨j, hj, _⟩ := Option.map_eq_some_iff.1 bu_size
  have e0 : ∀ W, (binOp .neq 414 (.pointer (some ⟨b, 0, none⟩)) (.pointer (some ⟨b, 0, none⟩))).run Tryz.prog W = .ok (.bool false) W := fun W => Lib.run_neq_ptr_same W _ Tryz.underlying414 hj
  go_enter Tryz.func268, Tryz.ntmps268
  go_wp2_with fail
  go_end0
  exact ⟨rfl, rfl⟩
set_option maxHeartbeats 1000000 in
set_option maxRecDepth 100000 in
theorem bu_check_fresh (b : Nat) (w : World) (h0 : w.cell? ⟨b, 0, none⟩ = some (.pointer none)) (hsh : w.shape? b = some (416, 2)) (hfz : w.frozen? ⟨b, 0, none⟩ = false) :
    Calls Tryz.prog 268 #[.pointer (some ⟨b, 0, none⟩)] w fun e w' => e = .returned (.tuple #[]) ∧ w' = w.setCell ⟨b, 0, none⟩ (.pointer (some ⟨b, 0, none⟩)) := by
  obtain ⟨j, hj, hjs⟩ := Option.map_eq_some_iff.1 bu_size
  have e1 := Lib.run_to_unsafe w ⟨b, 0, none⟩ Tryz.underlying414 Tryz.underlying483 hj (by rw [hjs]; decide) hsh (Nat.zero_lt_succ 1)
  have e2 := Lib.run_from_unsafe w ⟨b, 0, none⟩ Tryz.underlying483 Tryz.underlying414 hj hsh bu_lies
  go_enter Tryz.func268, Tryz.ntmps268
  go_wp2_with fail
  rw [run_callFunc_extern Tryz.func288 (by kernel_rfl) (by kernel_rfl) (by kernel_rfl) (e := Extern.AbiNoEscape.same) (by kernel_rfl)]
  rw [Lib.run_noEscape]
  simp only [Result.andThen]
  rw [Oper.upon_value]
  go_wp2_with fail
  go_end0
  exact ⟨rfl, rfl⟩
theorem bu_check (B b : Nat) (bs : List Value) (w : World) (h : Lib.IsBuilder 416 5 B b bs w) :
    Calls Tryz.prog 268 #[.pointer (some ⟨b, 0, none⟩)] w fun e w' => e = .returned (.tuple #[]) ∧ (Lib.BuilderAt 416 5 B b (.pointer (some ⟨b, 0, none⟩)) bs w' ∧ Below B w w') := by
  rcases h with h | h
  · refine (bu_check_fresh b w h.cell0 h.shape h.frozen0).mono ?_
    rintro e w' ⟨rfl, rfl⟩
    exact ⟨rfl, h.used _, (Below.refl B w).setCell (p := ⟨b, 0, none⟩) h.1 _⟩
  · refine (bu_check_used b w h.cell0).mono ?_
    rintro e w' ⟨rfl, rfl⟩
    exact ⟨rfl, h, Below.refl B _⟩
theorem bu_info : ∃ i, Tryz.prog.info? 5 = some i ∧ i.zero = some (.int .u8 0) ∧ i.size = 1 ∧ i.bytes = 1 := by
  have h : (Tryz.prog.info? 5).map (fun i => (i.zero, i.size, i.bytes)) = some (some (.int .u8 0), 1, 1) := by kernel_rfl
  exact info_parts h
set_option maxHeartbeats 2000000 in
set_option maxRecDepth 100000 in
theorem bu_byte (B b : Nat) (bs : List Value) (c : Int) (w : World) (h : Lib.IsBuilder 416 5 B b bs w) (hlen : bs.length + 1 ≤ 140737488355328) (hBw : B ≤ w.heap.size) :
    Calls Tryz.prog 219 #[.pointer (some ⟨b, 0, none⟩), .int .u8 c] w fun e w' => e = .returned .nilIface ∧ (Lib.BuilderAt 416 5 B b (.pointer (some ⟨b, 0, none⟩)) (bs ++ [.int .u8 c]) w' ∧ Below B w w') := by
  obtain ⟨i0, hi, hz0, hz1, hz2⟩ := bu_info
  go_enter Tryz.func219, Tryz.ntmps219
  go_wp2_with fail
  refine (bu_check B b bs _ h).mono ?_
  rintro e w1 ⟨rfl, h1, hb1⟩
  obtain ⟨hB, v, hbk, hown, hne⟩ := h1
  have c0 : w1.cell? ⟨b, 0, none⟩ = some (.pointer (some ⟨b, 0, none⟩)) := by simp [World.cell?, hbk]
  have c1 : w1.cell? ⟨b, 1, none⟩ = some v := by simp [World.cell?, hbk]
  go_wp2_with (at_builtin; refine wpList_append_own _ rfl _ _ 355 rfl B 5 i0 (.int .u8 0) 1 1 Tryz.underlying355 hi hz0 hz1 hz2 rfl (by decide) _ _ _ rfl (hown.alloc _) ⟨w1.heap.size, 0, none⟩ 1 1 [.int .u8 c] rfl rfl ?c1 ?c2 ?c3 ?c4 ?c5 ?_)
  case c1 =>
    intro j u hj
    match j, hj with
    | 0, hj => simp at hj; subst hj; simp [Addr.add]
  case c2 => intro u hu; simp at hu; subst hu; rfl
  case c3 => unfold maxLen; omega
  case c4 => omega
  case c5 => have := hb1.size; simp; omega
  intro v' w2 hown' hgrow _
  have hlt : b < w1.heap.size := (Array.getElem?_eq_some_iff.1 hbk).1
  have hb2 : w2.heap[b]? = some (.cells #[.pointer (some ⟨b, 0, none⟩), v] 416 (0, 0)) := by
    rw [hgrow.block b (by simp; omega) (fun e => hne e.symm), Lib.alloc_old w1 _ b hlt]
    exact hbk
  have d0 : w2.cell? ⟨b, 0, none⟩ = some (.pointer (some ⟨b, 0, none⟩)) := by simp [World.cell?, hb2]
  have d1 : w2.cell? ⟨b, 1, none⟩ = some v := by simp [World.cell?, hb2]
  have f1 : w2.frozen? ⟨b, 1, none⟩ = false := by simp [World.frozen?, hb2]
  obtain ⟨g, cap, rfl⟩ : ∃ g cap, v' = .slice (some ⟨g, 0, none⟩) (bs.length + 1) cap := by
    rcases hown'.2 with ⟨_, h0⟩ | ⟨g, cap, cur, hv, _⟩
    · omega
    · exact ⟨g, cap, hv⟩
  go_wp2_with fail
  go_ret
  refine ⟨rfl, ?_, ?_⟩
  · exact Lib.BuilderAt.put (T := 416) (e := 5) hB hb2 (bs' := bs ++ [.int .u8 c]) (by simpa using hown') (by decide)
  · exact ((hb1.alloc (by have := hb1.size; omega) _).grown hgrow (by have := hb1.size; simp; omega) (fun k hk => (hown.lt k hk).1)).setCell (p := ⟨b, 1, none⟩) hB _
set_option maxHeartbeats 2000000 in
set_option maxRecDepth 100000 in
theorem bu_string (B b : Nat) (bs : List Value) (s : ByteArray) (w : World) (h : Lib.IsBuilder 416 5 B b bs w) (hlen : bs.length + s.size ≤ 140737488355328) (hBw : B ≤ w.heap.size) :
    Calls Tryz.prog 267 #[.pointer (some ⟨b, 0, none⟩), .string s] w fun e w' => e = .returned (.tuple #[.int .i64 s.size, .nilIface]) ∧ (Lib.BuilderAt 416 5 B b (.pointer (some ⟨b, 0, none⟩)) (bs ++ Lib.strCells s) w' ∧ Below B w w') := by
  obtain ⟨i0, hi, hz0, hz1, hz2⟩ := bu_info
  go_enter Tryz.func267, Tryz.ntmps267
  go_wp2_with fail
  refine (bu_check B b bs _ h).mono ?_
  rintro e w1 ⟨rfl, h1, hb1⟩
  obtain ⟨hB, v, hbk, hown, hne⟩ := h1
  have c0 : w1.cell? ⟨b, 0, none⟩ = some (.pointer (some ⟨b, 0, none⟩)) := by simp [World.cell?, hbk]
  have c1 : w1.cell? ⟨b, 1, none⟩ = some v := by simp [World.cell?, hbk]
  go_wp2_with (at_builtin; refine Lib.wpList_append_own_string _ rfl _ _ 355 9 rfl B 5 i0 Tryz.underlying355 Tryz.underlying9 hi hz0 hz1 hz2 _ _ _ rfl hown s rfl ?c3 ?c4 ?c5 ?_)
  case c3 => unfold maxLen; omega
  case c4 => omega
  case c5 => have := hb1.size; omega
  intro v' w2 hown' hgrow _
  have hlt : b < w1.heap.size := (Array.getElem?_eq_some_iff.1 hbk).1
  have hb2 : w2.heap[b]? = some (.cells #[.pointer (some ⟨b, 0, none⟩), v] 416 (0, 0)) := by
    rw [hgrow.block b hlt (fun e => hne e.symm)]
    exact hbk
  have d0 : w2.cell? ⟨b, 0, none⟩ = some (.pointer (some ⟨b, 0, none⟩)) := by simp [World.cell?, hb2]
  have d1 : w2.cell? ⟨b, 1, none⟩ = some v := by simp [World.cell?, hb2]
  have f1 : w2.frozen? ⟨b, 1, none⟩ = false := by simp [World.frozen?, hb2]
  obtain ⟨ao, n', cap, rfl⟩ : ∃ ao n' cap, v' = .slice ao n' cap := by
    rcases hown'.2 with ⟨hv, _⟩ | ⟨g, cap, cur, hv, _⟩
    · exact ⟨_, _, _, hv⟩
    · exact ⟨_, _, _, hv⟩
  go_wp2_with fail
  go_ret2
  refine ⟨rfl, ?_, ?_⟩
  · exact Lib.BuilderAt.put (T := 416) (e := 5) hB hb2 (bs' := bs ++ Lib.strCells s) (by simpa [Lib.strCells_length] using hown') (by decide)
  · exact (hb1.grown hgrow (by have := hb1.size; omega) (fun k hk => (hown.lt k hk).1)).setCell (p := ⟨b, 1, none⟩) hB _
end Go.Proofs.YthmokdfigjffjaaGreatDoor

namespace Go.Proofs.YthmokdfigjffjaaGreatDoor
set_option linter.unusedVariables false
set_option linter.unusedSimpArgs false

/-- The byte at a place (0: there is none). -/
def byt (l : List UInt8) (i : Nat) : Nat := (l[i]?.getD 0).toNat
def g16 (l : List UInt8) (i : Nat) : Nat := if i + 2 ≤ l.length then byt l i * 256 + byt l (i + 1) else 0
def addC (a b : Nat) : Nat := if 65535 < a + b then a + b - 65535 else a + b
def sumW : Nat → List UInt8 → Nat
  | s, a :: b :: t => sumW (addC s (a.toNat * 256 + b.toNat)) t
  | s, [a] => addC s (a.toNat * 256)
  | s, [] => s
def sumL : Nat → List (List UInt8) → Nat
  | s, [] => s
  | s, l :: t => sumL (sumW s l) t
def csum (ls : List (List UInt8)) : Nat := 65535 - sumL 0 ls
def b16 (n : Nat) : List UInt8 := [UInt8.ofNat (n / 256), UInt8.ofNat (n % 256)]
def b32 (n : Nat) : List UInt8 := b16 (n / 65536) ++ b16 (n % 65536)

theorem byt_lt (l : List UInt8) (i : Nat) : byt l i < 256 := UInt8.toNat_lt _
theorem g16_lt (l : List UInt8) (i : Nat) : g16 l i < 65536 := by
  unfold g16; have := byt_lt l i; have := byt_lt l (i + 1); split <;> omega
theorem byt_get {l : List UInt8} {i : Nat} (h : i < l.length) : byt l i = l[i].toNat := by simp [byt, List.getElem?_eq_getElem h]
theorem addC_lt {a b : Nat} (ha : a < 65536) (hb : b < 65536) : addC a b < 65536 := by unfold addC; split <;> omega
theorem sumW_lt : ∀ (l : List UInt8) (s : Nat), s < 65536 → sumW s l < 65536
  | [], s, h => by simpa [sumW] using h
  | [a], s, h => by simp only [sumW]; have := a.toNat_lt; exact addC_lt h (by omega)
  | a :: b :: t, s, h => by simp only [sumW]; have := a.toNat_lt; have := b.toNat_lt; exact sumW_lt t _ (addC_lt h (by omega))
theorem sumL_lt : ∀ (ls : List (List UInt8)) (s : Nat), s < 65536 → sumL s ls < 65536
  | [], s, h => h
  | l :: t, s, h => sumL_lt t _ (sumW_lt l s h)
theorem drop2 {l : List UInt8} {i : Nat} (h : i + 2 ≤ l.length) : l.drop i = l[i] :: l[i + 1] :: l.drop (i + 2) := by
  rw [List.drop_eq_getElem_cons (by omega), List.drop_eq_getElem_cons (show i + 1 < l.length by omega)]
theorem sumW_step {l : List UInt8} {i s : Nat} (h : i + 2 ≤ l.length) : sumW s (l.drop i) = sumW (addC s (g16 l i)) (l.drop (i + 2)) := by
  rw [drop2 h, sumW, g16, if_pos h, byt_get, byt_get]
theorem sumW_one {l : List UInt8} {i s : Nat} (h : i + 1 = l.length) : sumW s (l.drop i) = addC s (byt l i * 256) := by
  rw [List.drop_eq_getElem_cons (by omega), byt_get (by omega), show l.drop (i + 1) = [] from List.drop_eq_nil_of_le (by omega)]
  rfl
theorem sumW_end {l : List UInt8} {i s : Nat} (h : l.length ≤ i) : sumW s (l.drop i) = s := by
  rw [List.drop_eq_nil_of_le h]; rfl

def ipOwn (l : List UInt8) : Nat := byt l 0 % 16 * 4
/-- What is seen of a packet: kind, flags, ports, whether it asks. -/
structure Sn where
  proto : Nat
  src : Nat
  sp : Nat
  dst : Nat
  dp : Nat
  kind : Nat
  flags : Nat
  ask : Bool
  ttl : Nat
deriving DecidableEq

def ipHead (tos id : Nat) (fl : Bool) (ttl proto src dst : Nat) (opts : List UInt8) (size sum : Nat) : List UInt8 :=
  [UInt8.ofNat (69 + opts.length / 4), UInt8.ofNat tos] ++ (b16 size ++ b16 id ++ b16 (if fl then 16384 else 0)) ++ [UInt8.ofNat ttl, UInt8.ofNat proto] ++ b16 sum ++ b32 src ++ b32 dst ++ opts
/-- A packet without options: its bytes. -/
def ipPut (ttl proto src dst : Nat) (d : List UInt8) : List UInt8 :=
  ipHead 0 0 false ttl proto src dst [] (20 + d.length) (csum [ipHead 0 0 false ttl proto src dst [] (20 + d.length) 0]) ++ d
def pseudo (src dst proto size : Nat) : List UInt8 := b32 src ++ b32 dst ++ (b16 proto ++ b16 (size % 65536))
def udpRaw (a b : Nat) (d : List UInt8) : List UInt8 := b16 a ++ b16 b ++ b16 ((8 + d.length) % 65536) ++ b16 0 ++ d
def udpSeal (src dst : Nat) (s : List UInt8) : List UInt8 :=
  if s.length < 8 then s else
  let n := csum [pseudo src dst 17 s.length, s.take 6 ++ [0, 0] ++ s.drop 8]
  s.take 6 ++ b16 (if n = 0 then 65535 else n) ++ s.drop 8
def tcpRaw (a b flags : Nat) (d : List UInt8) : List UInt8 :=
  b16 a ++ b16 b ++ b32 1000 ++ b32 2000 ++ [80, UInt8.ofNat flags] ++ (b16 512 ++ b16 0 ++ b16 0) ++ d
def tcpSeal (src dst : Nat) (s : List UInt8) : List UInt8 :=
  if s.length < 20 then s else s.take 16 ++ b16 (csum [pseudo src dst 6 s.length, s.take 16 ++ [0, 0] ++ s.drop 18]) ++ s.drop 18
def icmpRaw (a b : Nat) (d : List UInt8) : List UInt8 := [if b = 0 then 8 else 0, 0, 0, 0] ++ (b16 (if b = 0 then a else b) ++ [0, 1]) ++ d
def icmpSeal (s : List UInt8) : List UInt8 := if s.length < 8 then s else s.take 2 ++ b16 (csum [s.take 2 ++ [0, 0] ++ s.drop 4]) ++ s.drop 4

-- the chapter's examples
end Go.Proofs.YthmokdfigjffjaaGreatDoor
namespace Go.Proofs.YthmokdfigjffjaaGreatDoor
set_option linter.unusedVariables false
set_option linter.unusedSimpArgs false

structure IpOk (l : List UInt8) : Prop where
  len : 20 ≤ l.length
  ver : byt l 0 / 16 = 4
  own : 20 ≤ ipOwn l
  all : ipOwn l ≤ g16 l 2
  has : g16 l 2 ≤ l.length
  most : g16 l 2 ≤ 2048
  sum : csum [l.take (ipOwn l)] = 0
  pieces : g16 l 6 = 0 ∨ g16 l 6 = 16384

end Go.Proofs.YthmokdfigjffjaaGreatDoor
namespace Go.Proofs.YthmokdfigjffjaaGreatDoor
set_option linter.unusedVariables false
set_option linter.unusedSimpArgs false

theorem b16_len (n : Nat) : (b16 n).length = 2 := rfl
theorem ofNat_toNat {n : Nat} (h : n < 256) : (UInt8.ofNat n).toNat = n := by rw [UInt8.toNat_ofNat']; omega
end Go.Proofs.YthmokdfigjffjaaGreatDoor

namespace Go.Proofs.YthmokdfigjffjaaGreatDoor
set_option linter.unusedVariables false
set_option linter.unusedSimpArgs false
open Go.Lib

/-- The number that digits say. -/
def val (l : List UInt8) : Nat := l.foldl (fun a c => a * 10 + (c.toNat - 48)) 0
/-- A text, taken apart at a byte. -/
def pieces (c : UInt8) : List UInt8 → List (List UInt8)
  | [] => [[]]
  | b :: l => if b = c then [] :: pieces c l else match pieces c l with | [] => [[b]] | p :: ps => (b :: p) :: ps
end Go.Proofs.YthmokdfigjffjaaGreatDoor
namespace Go.Proofs.YthmokdfigjffjaaGreatDoor
set_option linter.unusedVariables false
set_option linter.unusedSimpArgs false
open Go.Lib

end Go.Proofs.YthmokdfigjffjaaGreatDoor
namespace Go.Proofs.YthmokdfigjffjaaGreatDoor
set_option linter.unusedVariables false
set_option linter.unusedSimpArgs false
open Go.Lib

theorem byte_str (s : ByteArray) : s = ⟨s.data.toList.toArray⟩ := by cases s; simp

end Go.Proofs.YthmokdfigjffjaaGreatDoor
namespace Go.Proofs.YthmokdfigjffjaaGreatDoor
set_option linter.unusedVariables false
set_option linter.unusedSimpArgs false

theorem maskN_mul {k : Nat} (hk : k ≤ 32) : 2 ^ 32 - 2 ^ k = (2 ^ (32 - k) - 1) * 2 ^ k := by
  rw [Nat.sub_mul, ← Nat.pow_add, Nat.sub_add_cancel hk, Nat.one_mul]
theorem and_mask {x k : Nat} (hx : x < 2 ^ 32) (hk : k ≤ 32) : x &&& (2 ^ 32 - 2 ^ k) = x / 2 ^ k * 2 ^ k := by
  apply Nat.eq_of_testBit_eq
  intro i
  rw [maskN_mul hk, Nat.testBit_and, Nat.testBit_mul_two_pow, Nat.testBit_mul_two_pow, Nat.testBit_two_pow_sub_one, Nat.testBit_div_two_pow]
  by_cases hki : k ≤ i
  · rw [show i - k + k = i from by omega]
    by_cases h32 : i < 32
    · simp [hki, show i - k < 32 - k from by omega]
    · have : x.testBit i = false := Nat.testBit_lt_two_pow (Nat.lt_of_lt_of_le hx (Nat.pow_le_pow_right (by omega) (by omega)))
      simp [this]
  · simp [hki]
theorem and_low {x k : Nat} (hk : k ≤ 32) : x &&& (4294967295 - (2 ^ 32 - 2 ^ k)) = x % 2 ^ k := by
  have h1 : 2 ^ k ≤ 2 ^ 32 := Nat.pow_le_pow_right (by omega) hk
  have h2 : 0 < 2 ^ k := Nat.two_pow_pos k
  have e : 4294967295 - (2 ^ 32 - 2 ^ k) = 2 ^ k - 1 := by
    have : (2 : Nat) ^ 32 = 4294967296 := by decide
    omega
  rw [e, Nat.and_two_pow_sub_one_eq_mod]
theorem xor_zero {a b : Nat} : a ^^^ b = 0 ↔ a = b := by
  constructor
  · intro h
    have : (a ^^^ b) ^^^ b = 0 ^^^ b := by rw [h]
    rw [Nat.xor_assoc, Nat.xor_self, Nat.xor_zero, Nat.zero_xor] at this
    exact this
  · rintro rfl; exact Nat.xor_self a
theorem xor_div {a b k : Nat} : (a ^^^ b) / 2 ^ k = 0 ↔ a / 2 ^ k = b / 2 ^ k := by
  rw [← Nat.shiftRight_eq_div_pow, ← Nat.shiftRight_eq_div_pow, ← Nat.shiftRight_eq_div_pow, Nat.shiftRight_xor_distrib, xor_zero]
theorem xor_lt {a b : Nat} (ha : a < 2 ^ 32) (hb : b < 2 ^ 32) : a ^^^ b < 2 ^ 32 := Nat.xor_lt_two_pow ha hb
theorem mask_zero {a b k : Nat} (ha : a < 2 ^ 32) (hb : b < 2 ^ 32) (hk : k ≤ 32) : (a ^^^ b) &&& (2 ^ 32 - 2 ^ k) = 0 ↔ a / 2 ^ k = b / 2 ^ k := by
  rw [and_mask (xor_lt ha hb) hk, ← xor_div]
  have h2 : 0 < 2 ^ k := Nat.two_pow_pos k
  constructor
  · intro h
    rcases Nat.mul_eq_zero.1 h with h | h
    · exact h
    · omega
  · intro h; rw [h]; simp
end Go.Proofs.YthmokdfigjffjaaGreatDoor

namespace Go.Proofs.YthmokdfigjffjaaGreatDoor
set_option linter.unusedVariables false
set_option linter.unusedSimpArgs false
open Go.RowKit Go.Lib Go.Sort

/-- How long a state lasts. -/
def lastN (f s : Nat) : Int := (([[0, 0, 0, 0, 0, 0, 0, 0], [0, 120, 300, 0, 0, 0, 0, 0], [0, 60, 60, 0, 0, 0, 0, 0], [0, 240, 240, 7440, 240, 240, 240, 240]] : List (List Int)).getD f []).getD s 0
/-- A protocol's word. -/
def wordOf (k : Nat) : List UInt8 := if k = 1 then [105, 99, 109, 112] else if k = 6 then [116, 99, 112] else if k = 17 then [117, 100, 112] else []
def isWord (k : Nat) : Bool := decide (k = 1 ∨ k = 6 ∨ k = 17)
/-- What the library's and the program's variables hold. -/
structure Tb (w : World) : Prop where
  lasts : ∀ f s, f < 4 → s < 8 → w.cell? ⟨1, f * 8 + s, none⟩ = some (.int .i64 (lastN f s))
  words : ∃ bm o, w.cell? ⟨0, 0, none⟩ = some (.map (some bm)) ∧ w.heap[bm]? = some o ∧ ∀ W : World, W.heap[bm]? = some o → ∀ k : Nat, k < 256 →
    (Instr.lookup 318 (.map (some bm)) (.int .u8 k) true).run Tryz.prog W = .ok (.tuple #[.string ⟨(wordOf k).toArray⟩, .bool (isWord k)]) W ∧
    (Instr.lookup 318 (.map (some bm)) (.int .u8 k) false).run Tryz.prog W = .ok (.string ⟨(wordOf k).toArray⟩) W
theorem Tb.low {w w' : World} (h : Tb w) (hf : NoW w w') : Tb w' := by
  obtain ⟨hl, bm, o, h1, h2, h3⟩ := h
  refine ⟨fun f s a b => (hf.cell (cell_lt (hl f s a b)) id).trans (hl f s a b), bm, o, (hf.cell (cell_lt h1) id).trans h1, ?_, h3⟩
  exact (hf.block _ (Array.getElem?_eq_some_iff.1 h2).1 id).trans h2
/-- A text, as a list of bytes. -/
abbrev str (l : List UInt8) : Value := .string ⟨l.toArray⟩
end Go.Proofs.YthmokdfigjffjaaGreatDoor

namespace Go.Proofs.YthmokdfigjffjaaGreatDoor
set_option linter.unusedVariables false
set_option linter.unusedSimpArgs false
open Go.RowKit Go.Lib Go.Sort

theorem ret_b {a b : Bool} (h : a = b) : Ending.returned (.bool a) = .returned (.bool b) := by rw [h]
/-- The byte at a place of a text. -/
theorem run_byte (l : List UInt8) {i : Nat} {z : Int} (hz : z = (i : Int)) (h : i < l.length) (W : World) : (Instr.index 9 (str l) (.int .i64 z)).run Tryz.prog W = .ok (.int .u8 (byt l i : Nat)) W := by
  subst hz
  have hs : i < (⟨l.toArray⟩ : ByteArray).size := by simpa [ByteArray.size] using h
  have hb : (0 : Int) ≤ (i : Int) ∧ (i : Int) < ((⟨l.toArray⟩ : ByteArray).size : Int) := by omega
  rw [run_index_string W 9 _ _ _ Tryz.underlying9, dif_pos hb, byt_get h]
  rfl
theorem whole_ok (l : List UInt8) (i m : Nat) (hl : l.length ≤ 1000000) (hi : i ≤ 1000000) (hm : m ≤ 1000000) (w : World) :
    Calls Tryz.prog 265 #[str l, .int .i64 i, .int .i64 m] w fun e w' => e = .returned (.bool (decide (i + m ≤ l.length))) ∧ w' = w := by
  go_enter Tryz.func265, Tryz.ntmps265
  go_wp2_with fail
  all_goals go_ret
  all_goals exact ⟨ret_b (by simp; try omega), rfl⟩

end Go.Proofs.YthmokdfigjffjaaGreatDoor

namespace Go.Proofs.YthmokdfigjffjaaGreatDoor
set_option linter.unusedVariables false
set_option linter.unusedSimpArgs false
open Go.RowKit Go.Lib Go.Sort Go.Shelf
attribute [local go_sem] Oper.semAt_some

abbrev W16 := { n : Nat // n < 65536 }
/-- What a round keeps: the iterator's box. -/
def KB (b : Nat) (A B : World) : Prop := A.heap.size ≤ B.heap.size ∧ B.heap[b]? = A.heap[b]?
theorem KB.refl (b : Nat) (A : World) : KB b A A := ⟨Nat.le_refl _, rfl⟩
theorem KB.trans {b : Nat} {A B C : World} (h : KB b A B) (k : KB b B C) : KB b A C := ⟨Nat.le_trans h.1 k.1, k.2.trans h.2⟩
theorem KB.cell {b : Nat} {A B : World} (h : KB b A B) (j : Nat) : B.cell? ⟨b, j, none⟩ = A.cell? ⟨b, j, none⟩ := World.cell?_of_block (w := A) h.2
theorem KB.low {b : Nat} {A B : World} (h : NoW A B) (hb : b < A.heap.size) : KB b A B := ⟨h.size, h.block _ hb id⟩
end Go.Proofs.YthmokdfigjffjaaGreatDoor

namespace Go.Proofs.YthmokdfigjffjaaGreatDoor
set_option linter.unusedVariables false
set_option linter.unusedSimpArgs false
open Go.RowKit Go.Lib Go.Sort
def wordsB (ws : List Nat) : List UInt8 := ws.flatMap b16
theorem wordsB_snoc (ws : List Nat) (k : Nat) (h : k < ws.length) : wordsB (ws.take (k + 1)) = wordsB (ws.take k) ++ b16 ws[k] := by
  unfold wordsB
  rw [List.take_succ_eq_append_getElem h, List.flatMap_append]
  simp only [List.flatMap_cons, List.flatMap_nil, List.append_nil]
theorem wordsB_len (ws : List Nat) : (wordsB ws).length = 2 * ws.length := by
  induction ws with
  | nil => rfl
  | cons a t ih => simp [wordsB, b16_len] at ih ⊢; omega
theorem ext_mid (l : List UInt8) (a b : Nat) : (⟨l.toArray⟩ : ByteArray).extract a b = ⟨((l.drop a).take (b - a)).toArray⟩ := by
  rw [byte_str ((⟨l.toArray⟩ : ByteArray).extract a b), extract_data]
/-- Where Words stands: the words so far, where the next one begins, what is looked at. -/
theorem ext_cut (l : List UInt8) (a b : Nat) : (⟨l.toArray⟩ : ByteArray).extract a b = ⟨((l.take b).drop a).toArray⟩ := by rw [ext_mid, ← List.drop_take]
theorem run_cutTo (l : List UInt8) {j : Nat} {zj : Int} (hj : zj = (j : Int)) (h2 : j ≤ l.length) (W : World) :
    (Instr.sliceAt 9 (str l) none (some (.int .i64 zj)) none).run Tryz.prog W = .ok (str (l.take j)) W := by
  subst hj
  rw [run_sliceAt_string W 9 _ _ _ _ Tryz.underlying9, run_slice_string_to_if W 9 _ _ _ Tryz.underlying9, if_pos (by simp [ByteArray.size]; omega)]
  simp only [Int.toNat_natCast]
  rw [ext_mid, ← List.drop_take, List.drop_zero]
theorem run_cutFrom (l : List UInt8) {i : Nat} {zi : Int} (hi : zi = (i : Int)) (h1 : i ≤ l.length) (W : World) :
    (Instr.sliceAt 9 (str l) (some (.int .i64 zi)) none none).run Tryz.prog W = .ok (str (l.drop i)) W := by
  subst hi
  rw [run_sliceAt_string W 9 _ _ _ _ Tryz.underlying9, run_slice_string_from_if W 9 _ _ _ Tryz.underlying9, if_pos (by simp [ByteArray.size]; omega)]
  simp only [Int.toNat_natCast]
  rw [show (⟨l.toArray⟩ : ByteArray).size = l.length by simp [ByteArray.size], ext_mid, ← List.drop_take, List.take_length]
theorem byteCells_app (a b : List UInt8) : Lib.byteCells (a ++ b) = Lib.byteCells a ++ Lib.byteCells b := by simp [Lib.byteCells]
theorem strCells_eq (l : List UInt8) : Lib.strCells ⟨l.toArray⟩ = Lib.byteCells l := by simp [Lib.strCells, Lib.byteCells]
theorem same_ret {P : Program} {f : FuncId} {xs : Array Value} {v : Value} {w : World} (h : Calls P f xs w fun e w' => e = .returned v ∧ w' = w) : Calls P f xs w (Ret1 v w) := h.mono fun e w' ⟨h1, h2⟩ => ⟨h1, by rw [h2]; exact Fp.refl _ _⟩
theorem bu_str {B b : Nat} {a : List UInt8} (l : List UInt8) (w : World) (h : Lib.IsBuilder 416 5 B b (Lib.byteCells a) w) (hlen : a.length + l.length ≤ 1000000) (hBw : B ≤ w.heap.size) :
    Calls Tryz.prog 267 #[.pointer (some ⟨b, 0, none⟩), .string ⟨l.toArray⟩] w fun e w' => ∃ z : Int, e = .returned (.tuple #[.int .i64 z, .nilIface]) ∧ Lib.IsBuilder 416 5 B b (Lib.byteCells (a ++ l)) w' ∧ Below B w w' :=
  (bu_string B b _ ⟨l.toArray⟩ w h (by simp [Lib.byteCells, ByteArray.size]; omega) hBw).mono fun e w' ⟨h1, h2, h3⟩ => ⟨_, h1, by rw [byteCells_app, ← strCells_eq l]; exact .inr h2, h3⟩
theorem bu_new {w W : World} {b : Nat} (hb : W.heap[b]? = some (.cells #[.pointer none, .slice none 0 0] 416 (0, 0))) (hB : w.heap.size ≤ b) : Lib.IsBuilder 416 5 w.heap.size b (Lib.byteCells []) W :=
  .inl ⟨hB, _, hb, ⟨rfl, .inl ⟨rfl, rfl⟩⟩, by simp [Value.ownBlock]⟩
theorem bu_used {B b : Nat} {bs : List Value} {w : World} (h : Lib.BuilderAt 416 5 B b (.pointer (some ⟨b, 0, none⟩)) bs w) : Lib.IsBuilder 416 5 B b bs w := .inr h
set_option maxHeartbeats 4000000 in
set_option maxRecDepth 100000 in
theorem word_ok8 (g c : Nat) (ws : List Nat) (hw : ∀ x, x ∈ ws → x < 65536) (hl : ws.length ≤ 100) (w : World) (hc : ∀ j x, ws[j]? = some x → w.cell? ⟨g, j, none⟩ = some (.int .u16 (x : Nat))) (hg : g < w.heap.size) :
    Calls Tryz.prog 163 #[.slice (some ⟨g, 0, none⟩) ws.length c] w (Ret1 (str (wordsB ws)) w) := by
  have HC := Lib.hid hc
  have HW := Lib.hid hw
  clear hc hw
  obtain ⟨n, hn⟩ : ∃ n, n = ws.length := ⟨_, rfl⟩
  have Hn := Lib.hid hn
  rw [← hn] at hl ⊢
  clear hn
  go_enter Tryz.func163, Tryz.ntmps163
  go_wp2_with fail
  have hb0 := heap_alloc_new w (.cells #[.pointer none, .slice none 0 0] 416)
  have hf0 : NoW w (w.alloc (.cells #[.pointer none, .slice none 0 0] 416)) := (Fp.refl _ _).alloc _
  generalize w.alloc (.cells #[.pointer none, .slice none 0 0] 416) = w0 at *
  obtain ⟨b, hb⟩ : ∃ b, b = w.heap.size := ⟨_, rfl⟩
  have HI0 := Lib.hid (bu_new (w := w) (b := b) (by rw [hb]; exact hb0) (by omega))
  rw [← hb] at hb0 ⊢
  clear hb
  go_loopw [8] (fun i wr => ∃ k : Nat, k ≤ n ∧ i = .int .i64 (k : Int) ∧ Lib.IsBuilder 416 5 w.heap.size b (Lib.byteCells (wordsB (ws.take k))) wr ∧ Below w.heap.size w wr) (fun i _ => n - (RowKit.intOf i).toNat)
  case atStart => exact ⟨0, Nat.zero_le _, rfl, by simpa [wordsB] using HI0.out, hf0.below⟩
  case round =>
    obtain ⟨k, hk, rfl, hI, hf⟩ := hrel
    have HI := Lib.hid hI
    have HF := Lib.hid hf
    clear hI hf0 hb0 HI0
    by_cases hlt : k < n
    · have hkl : k < ws.length := by rw [← Hn.out]; exact hlt
      have hcell := (HF.out.cell (p := ⟨g, k, none⟩) hg).trans (HC.out k _ (List.getElem?_eq_getElem hkl))
      have hgr : g < wr.heap.size := Nat.lt_of_lt_of_le hg HF.out.size
      have hsn := wordsB_snoc ws k hkl
      have hbv := HW.out _ (List.getElem_mem hkl)
      have l0 : (wordsB (ws.take k)).length ≤ 200 := by rw [wordsB_len, List.length_take]; omega
      have Hs := Lib.hid hsn
      have c0 : (ws[k] : Int) / 256 = ((ws[k] / 256 : Nat) : Int) := by omega
      have c1 : IntKind.u8.wrap ((ws[k] / 256 : Nat) : Int) = ((ws[k] / 256 : Nat) : Int) := IntWalk.u8_in _ (by omega)
      have c2 : IntKind.u8.wrap ((ws[k] : Nat) : Int) = ((ws[k] % 256 : Nat) : Int) := by simp [IntKind.wrap, IntKind.signed, IntKind.bits] 
      have e0 : (Value.int .u8 ((ws[k] / 256 : Nat) : Int)) = .int .u8 ((UInt8.ofNat (ws[k] / 256)).toNat : Int) := by rw [ofNat_toNat (by omega)]
      have e1 : (Value.int .u8 ((ws[k] % 256 : Nat) : Int)) = .int .u8 ((UInt8.ofNat (ws[k] % 256)).toNat : Int) := by rw [ofNat_toNat (by omega)]
      have E0 := Lib.hid e0
      have E1 := Lib.hid e1
      have lB : (Lib.byteCells (wordsB (ws.take k))).length ≤ 200 := by simpa [Lib.byteCells] using l0
      have HB0 := Lib.hid HF.out.size
      have hkn : (k : Int) < (n : Int) := by omega
      clear hsn e0 e1 HC HW
      generalize wordsB (ws.take k) = x at *
      generalize ws[k] = v at *
      generalize hhi : v / 256 = hi at *
      generalize hlo : v % 256 = lo at *
      have Hhi := Lib.hid hhi
      have Hlo := Lib.hid hlo
      clear hhi hlo
      go_wp2_with fail
      refine (bu_byte w.heap.size b _ (hi : Nat) wr HI.out (by omega) HB0.out).mono ?_
      rintro e w1 ⟨rfl, h1, hb1⟩
      have H1 := Lib.hid (bu_used h1)
      have HF1 := Lib.hid (HF.out.trans hb1)
      have HB1 := Lib.hid HF1.out.size
      clear h1 hb1
      go_wp2_with fail
      refine (bu_byte w.heap.size b _ (lo : Nat) w1 H1.out (by simp; omega) HB1.out).mono ?_
      rintro e w2 ⟨rfl, h1, hb1⟩
      have H2 := Lib.hid (bu_used h1)
      have HF2 := Lib.hid (HF1.out.trans hb1)
      clear h1 hb1
      go_wp2_with fail
      go_roundw
      case rel => exact ⟨k + 1, by omega, by go_num, by rw [Hs.out, byteCells_app]; have h := H2.out; rw [E0.out, E1.out] at h; simpa [b16, Lib.byteCells, Hhi.out, Hlo.out] using h, HF2.out⟩
      case measure => simp [RowKit.intOf]; omega
    · obtain rfl : k = n := by omega
      have he : wordsB (ws.take k) = wordsB ws := by rw [Hn.out, List.take_length]
      rw [he] at HI
      clear he
      have HB0 := Lib.hid HF.out.size
      go_wp2_with fail
      refine (Tryz.Builder_String_any w.heap.size b _ wr HI.out HB0.out).mono ?_
      rintro e w1 ⟨rfl, hb1⟩
      have HF1 := Lib.hid (HF.out.trans hb1)
      clear hb1
      go_wp2_with fail
      go_ret
      exact ⟨rfl, Fp.of_below HF1.out⟩
set_option maxHeartbeats 4000000 in
set_option maxRecDepth 100000 in
theorem with_ok (l p : List UInt8) (i : Nat) (hl : l.length ≤ 1000) (hi : i ≤ 1000) (hp : p.length ≤ 1000) (hin : i + p.length ≤ l.length) (w : World) :
    Calls Tryz.prog 218 #[str l, .int .i64 (i : Nat), str p] w (Ret1 (.tuple #[str (l.take i ++ p ++ l.drop (i + p.length)), .bool true]) w) := by
  have KB := Lib.hid (fun W => same_ret (whole_ok l i p.length (by omega) (by omega) (by omega) W))
  rw [decide_eq_true hin] at KB
  have s0 := run_cutTo l (j := i) rfl (by omega)
  have s1 := run_cutFrom l (i := i + p.length) rfl hin
  have c0 : IntKind.i64.wrap ((i : Int) + (p.length : Int)) = ((i + p.length : Nat) : Int) := (IntWalk.i64_in _ (by omega)).trans (by omega)
  have c1 : (i : Int) + (p.length : Int) = ((i + p.length : Nat) : Int) := by omega
  have i0 : (i : Int) ≤ (l.length : Int) := by omega
  have i1 : ((i + p.length : Nat) : Int) ≤ (l.length : Int) := by omega
  have ex0 := ext_cut l 0 i
  rw [List.drop_zero] at ex0
  have ex1 : (⟨l.toArray⟩ : ByteArray).extract (i + p.length) l.length = ⟨(l.drop (i + p.length)).toArray⟩ := by rw [ext_cut, List.take_length]
  have lt : (l.take i).length ≤ 1000 := by simp; omega
  have ld : (l.drop (i + p.length)).length ≤ 1000 := by simp; omega
  generalize hk : i + p.length = k at *
  have HK := Lib.hid hk
  clear hk
  go_enter Tryz.func218, Tryz.ntmps218
  have HN := Lib.hid (Fp.refl (fun _ => False) w)
  go_wp2_with fail
  refine (show Calls _ _ _ _ _ from KB.out _).mono ?_
  rintro e x1 ⟨rfl, hp⟩
  replace HN := hid_now HN hp
  clear hp
  go_wp2_with fail
  refine calls_gen (fun x2 hW => ?_)
  have hp := new_now hW
  have hB := new_blk hW
  clear hW
  have hGe := hid_ge HN
  replace HN := hid_now HN hp
  obtain ⟨g8, hg8⟩ : ∃ g8, g8 = x1.heap.size := ⟨_, rfl⟩
  have G_g8 := Lib.hid (Nat.le_trans hGe (Nat.le_of_eq hg8.symm))
  rw [← hg8] at hB ⊢
  have B_g8 := hB
  clear hB hGe hg8
  clear hp
  have HI := Lib.hid (bu_new (w := w) (b := g8) B_g8.out G_g8.out)
  clear B_g8
  refine (bu_str (l.take i) _ HI.out (by simp; omega) (hid_ge HN)).mono ?_
  rintro e x3 ⟨zx3, rfl, h1, hb1⟩
  replace HI := Lib.hid h1
  replace HN := Lib.hid (Fp.of_below ((NoW.below HN.out).trans hb1))
  clear h1 hb1
  go_wp2_with fail
  refine (bu_str (p) _ HI.out (by simp; omega) (hid_ge HN)).mono ?_
  rintro e x4 ⟨zx4, rfl, h1, hb1⟩
  replace HI := Lib.hid h1
  replace HN := Lib.hid (Fp.of_below ((NoW.below HN.out).trans hb1))
  clear h1 hb1
  go_wp2_with fail
  refine (bu_str (l.drop k) _ HI.out (by simp; omega) (hid_ge HN)).mono ?_
  rintro e x5 ⟨zx5, rfl, h1, hb1⟩
  replace HI := Lib.hid h1
  replace HN := Lib.hid (Fp.of_below ((NoW.below HN.out).trans hb1))
  clear h1 hb1
  go_wp2_with fail
  refine (Tryz.Builder_String_any w.heap.size g8 _ _ HI.out (hid_ge HN)).mono ?_
  rintro e y1 ⟨rfl, hb1⟩
  replace HN := Lib.hid (Fp.of_below ((NoW.below HN.out).trans hb1))
  clear hb1
  go_wp2_with fail
  go_ret2
  exact ⟨by simp, HN.out⟩
end Go.Proofs.YthmokdfigjffjaaGreatDoor

namespace Go.Proofs.YthmokdfigjffjaaGreatDoor
set_option linter.unusedVariables false
set_option linter.unusedSimpArgs false
open Go.RowKit
theorem wB_eq : ∀ ws, wB ws = wordsB ws
  | [] => rfl
  | n :: ws => by simp [wB, wordsB, b16, wB_eq ws]
theorem hk_ok (gl : Gl) : HookOk Tryz.prog gl hk := by
  intro f h hf
  unfold hk at hf
  rcases h1 : Nat.beq f 163 with _ | _
  · rw [h1] at hf
    rcases h2 : Nat.beq f 218 with _ | _
    · rw [h2] at hf; cases hf
    rw [h2] at hf
    obtain rfl := Option.some.inj hf
    obtain rfl := Nat.eq_of_beq_eq_true h2
    exact hkWith_ok fun l p i w h1 h2 h3 h4 => with_ok l p i h1 h2 h3 h4 w
  · rw [h1] at hf
    obtain rfl := Option.some.inj hf
    obtain rfl := Nat.eq_of_beq_eq_true h1
    refine hkWord_ok fun g c ws w h1 h2 h3 h4 => ?_
    rw [wB_eq]
    exact word_ok8 g c ws h1 h2 w h3 h4
end Go.Proofs.YthmokdfigjffjaaGreatDoor
