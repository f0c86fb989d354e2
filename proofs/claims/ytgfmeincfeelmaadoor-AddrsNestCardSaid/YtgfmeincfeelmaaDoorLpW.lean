/- Chapter 03: AddrsParse's walk (written by genparse.py). -/
import Derived.Test.YtgfmeincfeelmaaDoorAdNm
import Derived.Test.YtgfmeincfeelmaaDoorAdV
import Derived.Test.YtgfmeincfeelmaaDoorSees
namespace Go.Proofs.YtgfmeincfeelmaaDoor
set_option linter.unusedVariables false
set_option linter.unusedSimpArgs false
open Go.RowKit Go.Lib Go.Sort

theorem adV_form (o : Option Nat) : ∃ a e : Int, adV o = .tuple #[.int .u32 a, .int .i64 e] := by rcases o with _ | a <;> exact ⟨_, _, rfl⟩
theorem pfV_form (o : Option (Nat × Nat)) : ∃ a b e : Int, pfV o = .tuple #[.agg #[.int .u32 a, .int .i64 b], .int .i64 e] := by
  rcases o with _ | ⟨a, n⟩
  · exact ⟨_, _, _, rfl⟩
  · unfold pfV
    dsimp only
    split <;> exact ⟨_, _, _, rfl⟩
theorem ptV_form (o : Option (Nat × Nat)) : ∃ a b e : Int, ptV o = .tuple #[.agg #[.int .u32 a, .int .u16 b], .int .i64 e] := by rcases o with _ | ⟨a, n⟩ <;> exact ⟨_, _, _, rfl⟩

set_option maxHeartbeats 2000000 in
set_option maxRecDepth 100000 in
theorem walk_AddrsParse (w : World) (ht : Tb w) (v0 : Value) (g0 : Good Tryd.prog w 9 v0) : Calls Tryd.prog 3 #[v0] w (Ret1 (.bool true) w) := by
  obtain ⟨s, rfl, _⟩ := good_string Tryd.underlying9 g0
  obtain ⟨l, rfl, hs⟩ := str_of s
  clear g0
  have Ht := Lib.hid ht
  have hn0 : NoW w w := Fp.refl _ _
  have Hn0 := Lib.hid hn0
  clear ht hn0 hs
  by_cases hl : l.length ≤ 100
  · obtain ⟨a, ea, h1⟩ := adV_form (addrOf l)
    obtain ⟨b, n, eb, h2⟩ := pfV_form (withOf 47 32 l)
    obtain ⟨c, p, ec, h3⟩ := ptV_form (withOf 58 65535 l)
    have k1 := fun W hW => ad_parse l (by omega) W hW
    have k2 := fun W => rt_parse l (by omega) W
    have k3 := fun W hW => ad_prefix l (by omega) W hW
    have k4 := fun W => rt_prefix l (by omega) W
    have k5 := fun W hW => ad_point l (by omega) W hW
    have k6 := fun W => rt_point l (by omega) W
    rw [h1] at k1 k2
    rw [h2] at k3 k4
    rw [h3] at k5 k6
    have K1 := Lib.hid k1
    have K2 := Lib.hid k2
    have K3 := Lib.hid k3
    have K4 := Lib.hid k4
    have K5 := Lib.hid k5
    have K6 := Lib.hid k6
    clear k1 k2 k3 k4 k5 k6 h1 h2 h3
    go_enter Tryd.func3, Tryd.ntmps3
    go_wp2_with fail
    refine (K1.out _ (Ht.out.low Hn0.out)).mono ?_
    rintro e v0 ⟨rfl, hp⟩
    have Hm0 := Lib.hid (Hn0.out.trans hp (fun _ _ h => h))
    clear hp Hn0
    go_wp2_with fail
    refine (K2.out _).mono ?_
    rintro e v1 ⟨rfl, hp⟩
    have Hm1 := Lib.hid (Hm0.out.trans hp (fun _ _ h => h))
    clear hp Hm0
    go_wp2_with fail
    refine (K3.out _ (Ht.out.low Hm1.out)).mono ?_
    rintro e v2 ⟨rfl, hp⟩
    have hq : NoW v2 (v2.alloc (.cells #[.int .u32 b, .int .i64 n] 29)) := (Fp.refl _ _).alloc _
    have Hm2 := Lib.hid ((Hm1.out.trans hp (fun _ _ h => h)).trans hq (fun _ _ h => h))
    have B2 := Lib.hid (heap_alloc_new v2 (.cells #[.int .u32 b, .int .i64 n] 29))
    clear hp hq Hm1
    go_wp2_with fail
    refine (K4.out _).mono ?_
    rintro e v3 ⟨rfl, hp⟩
    have hq : NoW v3 (v3.alloc (.cells #[.int .u32 b, .int .i64 n] 29)) := (Fp.refl _ _).alloc _
    have Hm3 := Lib.hid ((Hm2.out.trans hp (fun _ _ h => h)).trans hq (fun _ _ h => h))
    have hb := (hq.block _ (Nat.lt_of_lt_of_le (Array.getElem?_eq_some_iff.1 B2.out).1 hp.size) id).trans ((hp.block _ (Array.getElem?_eq_some_iff.1 B2.out).1 id).trans B2.out)
    clear B2
    have B2 := Lib.hid hb
    clear hb
    have B3 := Lib.hid (heap_alloc_new v3 (.cells #[.int .u32 b, .int .i64 n] 29))
    clear hp hq Hm2
    go_wp2_with fail
    refine (K5.out _ (Ht.out.low Hm3.out)).mono ?_
    rintro e v4 ⟨rfl, hp⟩
    have hq : NoW v4 (v4.alloc (.cells #[.int .u32 c, .int .u16 p] 34)) := (Fp.refl _ _).alloc _
    have Hm4 := Lib.hid ((Hm3.out.trans hp (fun _ _ h => h)).trans hq (fun _ _ h => h))
    have hb := (hq.block _ (Nat.lt_of_lt_of_le (Array.getElem?_eq_some_iff.1 B2.out).1 hp.size) id).trans ((hp.block _ (Array.getElem?_eq_some_iff.1 B2.out).1 id).trans B2.out)
    clear B2
    have B2 := Lib.hid hb
    clear hb
    have hb := (hq.block _ (Nat.lt_of_lt_of_le (Array.getElem?_eq_some_iff.1 B3.out).1 hp.size) id).trans ((hp.block _ (Array.getElem?_eq_some_iff.1 B3.out).1 id).trans B3.out)
    clear B3
    have B3 := Lib.hid hb
    clear hb
    have B4 := Lib.hid (heap_alloc_new v4 (.cells #[.int .u32 c, .int .u16 p] 34))
    clear hp hq Hm3
    go_wp2_with fail
    refine (K6.out _).mono ?_
    rintro e v5 ⟨rfl, hp⟩
    have Hm5 := Lib.hid (Hm4.out.trans hp (fun _ _ h => h))
    have hb := (hp.block _ (Array.getElem?_eq_some_iff.1 B2.out).1 id).trans B2.out
    clear B2
    have B2 := Lib.hid hb
    clear hb
    have hb := (hp.block _ (Array.getElem?_eq_some_iff.1 B3.out).1 id).trans B3.out
    clear B3
    have B3 := Lib.hid hb
    clear hb
    have hb := (hp.block _ (Array.getElem?_eq_some_iff.1 B4.out).1 id).trans B4.out
    clear B4
    have B4 := Lib.hid hb
    clear hb
    clear hp Hm4
    have c20 : v5.cell? ⟨v2.heap.size, 0, none⟩ = some (.int .u32 b) := by simp [World.cell?, B2.out]
    have c21 : v5.cell? ⟨v2.heap.size, 1, none⟩ = some (.int .i64 n) := by simp [World.cell?, B2.out]
    have l2 : v2.heap.size < v5.heap.size := cell_lt c20
    have c30 : v5.cell? ⟨v3.heap.size, 0, none⟩ = some (.int .u32 b) := by simp [World.cell?, B3.out]
    have c31 : v5.cell? ⟨v3.heap.size, 1, none⟩ = some (.int .i64 n) := by simp [World.cell?, B3.out]
    have l3 : v3.heap.size < v5.heap.size := cell_lt c30
    have c40 : v5.cell? ⟨v4.heap.size, 0, none⟩ = some (.int .u32 c) := by simp [World.cell?, B4.out]
    have c41 : v5.cell? ⟨v4.heap.size, 1, none⟩ = some (.int .u16 p) := by simp [World.cell?, B4.out]
    have l4 : v4.heap.size < v5.heap.size := cell_lt c40
    clear B2 B3 B4
    go_wp2_with fail
    have hz : NoW w (v5.alloc (.cells #[.int .u32 c, .int .u16 p] 34)) := Hm5.out.alloc _
    refine (named_ok _ (Ht.out.low hz)).mono ?_
    rintro e u ⟨rfl, hp⟩
    have Hz := Lib.hid (hz.trans hp (fun _ _ h => h))
    clear hz hp
    go_wp2_with fail
    go_ret
    exact ⟨rfl, Hz.out⟩
  · have hl2 : 100 < l.length := by omega
    clear hl
    go_enter Tryd.func3, Tryd.ntmps3
    go_wp2_with fail
    refine (named_ok _ Ht.out).mono ?_
    rintro e u ⟨rfl, hp⟩
    have Hz := Lib.hid hp
    clear hp
    go_wp2_with fail
    go_ret
    exact ⟨rfl, Hz.out⟩
end Go.Proofs.YtgfmeincfeelmaaDoor
