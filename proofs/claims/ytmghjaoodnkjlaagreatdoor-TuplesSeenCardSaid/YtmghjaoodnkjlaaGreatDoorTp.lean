/- Chapter 08: the chapter's examples (written by gen8p.py). -/
import Derived.Test.YtmghjaoodnkjlaaGreatDoorTo
import Derived.Test.YtmghjaoodnkjlaaGreatDoorTk
import Derived.Test.YtmghjaoodnkjlaaGreatDoorEpT
import Derived.Test.YtmghjaoodnkjlaaGreatDoorEnL
namespace Go.Proofs.YtmghjaoodnkjlaaGreatDoor
set_option linter.unusedVariables false
set_option linter.unusedSimpArgs false
open Go.RowKit Go.Lib Go.Sort

theorem ex_one0 (W : World) : Calls Tryz.prog 24 #[.int .u8 17, .int .u16 5, .int .u16 53] W (Ret1 (.agg #[.int .u8 17, .int .u32 167772161, .int .u16 5, .int .u32 16909060, .int .u16 53]) W) := one_ok 17 5 53 W
theorem ex0 : ∃ p : List UInt8, (∀ W, Calls Tryz.prog 23 #[.agg #[.int .u8 17, .int .u32 167772161, .int .u16 5, .int .u32 16909060, .int .u16 53], .int .u8 0, .int .u8 64, .string ⟨#[113]⟩] W (Ret1 (str p) W)) ∧ (∀ W, Tb W → Calls Tryz.prog 10 #[str p] W (Ret1 (.tuple #[.agg #[.int .u8 17, .int .u32 167772161, .int .u16 5, .int .u32 16909060, .int .u16 53, .int .i64 2, .int .u8 0, .bool false, .int .u8 64], .int .i64 0]) W)) :=
  ⟨ipPut 64 17 167772161 16909060 (udpSeal 167772161 16909060 (udpRaw 5 53 [113])), fun W => made_ok 17 167772161 16909060 5 53 0 64 [113] (udpSeal 167772161 16909060 (udpRaw 5 53 [113])) (by omega) (by omega) (by omega) (by omega) (by decide +kernel) (fun W => load_udp 167772161 16909060 5 53 0 [113] (by omega) (by omega) (by omega) (by omega) (by simp) W) W,
   fun W hT => by have h := of_ok (ipPut 64 17 167772161 16909060 (udpSeal 167772161 16909060 (udpRaw 5 53 [113]))) (by decide +kernel) W hT; rw [seen_udp] at h; exact h⟩

theorem ex_one1 (W : World) : Calls Tryz.prog 24 #[.int .u8 6, .int .u16 5, .int .u16 80] W (Ret1 (.agg #[.int .u8 6, .int .u32 167772161, .int .u16 5, .int .u32 16909060, .int .u16 80]) W) := one_ok 6 5 80 W
theorem ex1 : ∃ p : List UInt8, (∀ W, Calls Tryz.prog 23 #[.agg #[.int .u8 6, .int .u32 167772161, .int .u16 5, .int .u32 16909060, .int .u16 80], .int .u8 2, .int .u8 64, .string ⟨#[]⟩] W (Ret1 (str p) W)) ∧ (∀ W, Tb W → Calls Tryz.prog 10 #[str p] W (Ret1 (.tuple #[.agg #[.int .u8 6, .int .u32 167772161, .int .u16 5, .int .u32 16909060, .int .u16 80, .int .i64 1, .int .u8 2, .bool false, .int .u8 64], .int .i64 0]) W)) :=
  ⟨ipPut 64 6 167772161 16909060 (tcpSeal 167772161 16909060 (tcpRaw 5 80 2 [])), fun W => made_ok 6 167772161 16909060 5 80 2 64 [] (tcpSeal 167772161 16909060 (tcpRaw 5 80 2 [])) (by omega) (by omega) (by omega) (by omega) (by decide +kernel) (fun W => load_tcp 167772161 16909060 5 80 2 [] (by omega) (by omega) (by omega) (by omega) (by omega) (by simp) W) W,
   fun W hT => by have h := of_ok (ipPut 64 6 167772161 16909060 (tcpSeal 167772161 16909060 (tcpRaw 5 80 2 []))) (by decide +kernel) W hT; rw [seen_tcp1] at h; exact h⟩

theorem ex_one2 (W : World) : Calls Tryz.prog 24 #[.int .u8 6, .int .u16 5, .int .u16 80] W (Ret1 (.agg #[.int .u8 6, .int .u32 167772161, .int .u16 5, .int .u32 16909060, .int .u16 80]) W) := one_ok 6 5 80 W
theorem ex2 : ∃ p : List UInt8, (∀ W, Calls Tryz.prog 23 #[.agg #[.int .u8 6, .int .u32 167772161, .int .u16 5, .int .u32 16909060, .int .u16 80], .int .u8 18, .int .u8 64, .string ⟨#[]⟩] W (Ret1 (str p) W)) ∧ (∀ W, Tb W → Calls Tryz.prog 10 #[str p] W (Ret1 (.tuple #[.agg #[.int .u8 6, .int .u32 167772161, .int .u16 5, .int .u32 16909060, .int .u16 80, .int .i64 2, .int .u8 18, .bool false, .int .u8 64], .int .i64 0]) W)) :=
  ⟨ipPut 64 6 167772161 16909060 (tcpSeal 167772161 16909060 (tcpRaw 5 80 18 [])), fun W => made_ok 6 167772161 16909060 5 80 18 64 [] (tcpSeal 167772161 16909060 (tcpRaw 5 80 18 [])) (by omega) (by omega) (by omega) (by omega) (by decide +kernel) (fun W => load_tcp 167772161 16909060 5 80 18 [] (by omega) (by omega) (by omega) (by omega) (by omega) (by simp) W) W,
   fun W hT => by have h := of_ok (ipPut 64 6 167772161 16909060 (tcpSeal 167772161 16909060 (tcpRaw 5 80 18 []))) (by decide +kernel) W hT; rw [seen_tcp2] at h; exact h⟩

theorem ex_one3 (W : World) : Calls Tryz.prog 24 #[.int .u8 1, .int .u16 7, .int .u16 0] W (Ret1 (.agg #[.int .u8 1, .int .u32 167772161, .int .u16 7, .int .u32 16909060, .int .u16 0]) W) := one_ok 1 7 0 W
theorem ex3 : ∃ p : List UInt8, (∀ W, Calls Tryz.prog 23 #[.agg #[.int .u8 1, .int .u32 167772161, .int .u16 7, .int .u32 16909060, .int .u16 0], .int .u8 0, .int .u8 64, .string ⟨#[]⟩] W (Ret1 (str p) W)) ∧ (∀ W, Tb W → Calls Tryz.prog 10 #[str p] W (Ret1 (.tuple #[.agg #[.int .u8 1, .int .u32 167772161, .int .u16 7, .int .u32 16909060, .int .u16 0, .int .i64 2, .int .u8 0, .bool true, .int .u8 64], .int .i64 0]) W)) :=
  ⟨ipPut 64 1 167772161 16909060 (icmpSeal (icmpRaw 7 0 [])), fun W => made_ok 1 167772161 16909060 7 0 0 64 [] (icmpSeal (icmpRaw 7 0 [])) (by omega) (by omega) (by omega) (by omega) (by decide +kernel) (fun W => load_ask 167772161 16909060 7 0 0 [] rfl (by omega) (by omega) (by omega) (by omega) (by simp) W) W,
   fun W hT => by have h := of_ok (ipPut 64 1 167772161 16909060 (icmpSeal (icmpRaw 7 0 []))) (by decide +kernel) W hT; rw [seen_ask] at h; exact h⟩

theorem ex_one4 (W : World) : Calls Tryz.prog 24 #[.int .u8 1, .int .u16 0, .int .u16 7] W (Ret1 (.agg #[.int .u8 1, .int .u32 167772161, .int .u16 0, .int .u32 16909060, .int .u16 7]) W) := one_ok 1 0 7 W
theorem ex4 : ∃ p : List UInt8, (∀ W, Calls Tryz.prog 23 #[.agg #[.int .u8 1, .int .u32 167772161, .int .u16 0, .int .u32 16909060, .int .u16 7], .int .u8 0, .int .u8 64, .string ⟨#[]⟩] W (Ret1 (str p) W)) ∧ (∀ W, Tb W → Calls Tryz.prog 10 #[str p] W (Ret1 (.tuple #[.agg #[.int .u8 1, .int .u32 167772161, .int .u16 0, .int .u32 16909060, .int .u16 7, .int .i64 2, .int .u8 0, .bool false, .int .u8 64], .int .i64 0]) W)) :=
  ⟨ipPut 64 1 167772161 16909060 (icmpSeal (icmpRaw 0 7 [])), fun W => made_ok 1 167772161 16909060 0 7 0 64 [] (icmpSeal (icmpRaw 0 7 [])) (by omega) (by omega) (by omega) (by omega) (by decide +kernel) (fun W => load_told 167772161 16909060 0 7 0 [] (by omega) (by omega) (by omega) (by omega) (by omega) (by simp) W) W,
   fun W hT => by have h := of_ok (ipPut 64 1 167772161 16909060 (icmpSeal (icmpRaw 0 7 []))) (by decide +kernel) W hT; rw [seen_told] at h; exact h⟩

theorem ca0 : ∃ p : List UInt8, (∀ W, Calls Tryz.prog 25 #[.int .u8 2, .string ⟨#[49, 50, 51, 52, 53, 54, 55, 56]⟩] W (Ret1 (str p) W)) ∧ (∀ W, Tb W → Calls Tryz.prog 10 #[str p] W (Ret1 (.tuple #[.agg #[.int .u8 0, .int .u32 0, .int .u16 0, .int .u32 0, .int .u16 0, .int .i64 0, .int .u8 0, .bool false, .int .u8 0], .int .i64 6]) W)) :=
  ⟨ipPut 64 2 167772161 16909060 [49, 50, 51, 52, 53, 54, 55, 56], fun W => carrying_ok 2 [49, 50, 51, 52, 53, 54, 55, 56] (by omega) (by simp) W,
   fun W hT => by have h := of_ok (ipPut 64 2 167772161 16909060 [49, 50, 51, 52, 53, 54, 55, 56]) (by decide +kernel) W hT; rw [seen_no1] at h; exact h⟩

theorem ca1 : ∃ p : List UInt8, (∀ W, Calls Tryz.prog 25 #[.int .u8 1, .string ⟨#[5, 0, 49, 50, 51, 52, 53, 54]⟩] W (Ret1 (str p) W)) ∧ (∀ W, Tb W → Calls Tryz.prog 10 #[str p] W (Ret1 (.tuple #[.agg #[.int .u8 0, .int .u32 0, .int .u16 0, .int .u32 0, .int .u16 0, .int .i64 0, .int .u8 0, .bool false, .int .u8 0], .int .i64 6]) W)) :=
  ⟨ipPut 64 1 167772161 16909060 [5, 0, 49, 50, 51, 52, 53, 54], fun W => carrying_ok 1 [5, 0, 49, 50, 51, 52, 53, 54] (by omega) (by simp) W,
   fun W hT => by have h := of_ok (ipPut 64 1 167772161 16909060 [5, 0, 49, 50, 51, 52, 53, 54]) (by decide +kernel) W hT; rw [seen_no2] at h; exact h⟩

theorem ca2 : ∃ p : List UInt8, (∀ W, Calls Tryz.prog 25 #[.int .u8 17, .string ⟨#[49, 50, 51, 52, 53, 54, 55]⟩] W (Ret1 (str p) W)) ∧ (∀ W, Tb W → Calls Tryz.prog 10 #[str p] W (Ret1 (.tuple #[.agg #[.int .u8 0, .int .u32 0, .int .u16 0, .int .u32 0, .int .u16 0, .int .i64 0, .int .u8 0, .bool false, .int .u8 0], .int .i64 7]) W)) :=
  ⟨ipPut 64 17 167772161 16909060 [49, 50, 51, 52, 53, 54, 55], fun W => carrying_ok 17 [49, 50, 51, 52, 53, 54, 55] (by omega) (by simp) W,
   fun W hT => by have h := of_ok (ipPut 64 17 167772161 16909060 [49, 50, 51, 52, 53, 54, 55]) (by decide +kernel) W hT; rw [seen_no3] at h; exact h⟩

theorem pa0 (W : World) (hT : TbQ W) : Calls Tryz.prog 13 #[.string ⟨#[105, 99, 109, 112, 32, 49, 46, 50, 46, 51, 46, 52, 58, 53, 32, 49, 46, 50, 46, 51, 46, 52, 58, 54]⟩] W (Ret1 (.tuple #[.agg #[.int .u8 0, .int .u32 0, .int .u16 0, .int .u32 0, .int .u16 0], .int .i64 3]) W) := by
  have h := tup_parse [105, 99, 109, 112, 32, 49, 46, 50, 46, 51, 46, 52, 58, 53, 32, 49, 46, 50, 46, 51, 46, 52, 58, 54] (by simp) W hT
  rw [show tupOf [105, 99, 109, 112, 32, 49, 46, 50, 46, 51, 46, 52, 58, 53, 32, 49, 46, 50, 46, 51, 46, 52, 58, 54] = none by decide +kernel] at h
  exact h

theorem pa1 (W : World) (hT : TbQ W) : Calls Tryz.prog 13 #[.string ⟨#[116, 99, 112, 32, 49, 46, 50, 46, 51, 46, 52, 58, 53]⟩] W (Ret1 (.tuple #[.agg #[.int .u8 0, .int .u32 0, .int .u16 0, .int .u32 0, .int .u16 0], .int .i64 3]) W) := by
  have h := tup_parse [116, 99, 112, 32, 49, 46, 50, 46, 51, 46, 52, 58, 53] (by simp) W hT
  rw [show tupOf [116, 99, 112, 32, 49, 46, 50, 46, 51, 46, 52, 58, 53] = none by decide +kernel] at h
  exact h

theorem tx0 (W : World) (hT : Tb W) : Calls Tryz.prog 14 #[.agg #[.int .u8 17, .int .u32 167772161, .int .u16 5, .int .u32 16909060, .int .u16 53]] W (Ret1 (.string ⟨#[117, 100, 112, 32, 49, 48, 46, 48, 46, 48, 46, 49, 58, 53, 32, 49, 46, 50, 46, 51, 46, 52, 58, 53, 51]⟩) W) := by
  have h := tup_text 17 167772161 5 16909060 53 (by omega) (by omega) (by omega) (by omega) (by omega) (by decide) W hT
  rw [show tupT 17 167772161 5 16909060 53 = [117, 100, 112, 32, 49, 48, 46, 48, 46, 48, 46, 49, 58, 53, 32, 49, 46, 50, 46, 51, 46, 52, 58, 53, 51] by decide +kernel] at h
  exact h
end Go.Proofs.YtmghjaoodnkjlaaGreatDoor
