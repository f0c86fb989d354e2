/- Chapter 18: EntriesTell, any entries (written by gentell18b.py). -/
import Derived.Test.YtdmbjndhdldggaaDoorEtW
import Derived.Test.YtdmbjndhdldggaaDoorEtV
namespace Go.Proofs.YtdmbjndhdldggaaDoor
set_option linter.unusedVariables false
set_option linter.unusedSimpArgs false
open Go.RowKit Go.Lib Go.Sort
theorem toN_le (f : Nat) (hf : f < 4) (s : Int) : toN f s ≤ 7440 := by
  unfold toN
  split
  · obtain ⟨n, rfl⟩ : ∃ n : Nat, s = n := ⟨s.toNat, by omega⟩
    have hn : n < 8 := by omega
    rw [Int.toNat_natCast]
    have key : ∀ f : Fin 4, ∀ n : Fin 8, lastN f.val n.val ≤ 7440 := by decide +kernel
    exact key ⟨f, hf⟩ ⟨n, hn⟩
  · omega
set_option maxRecDepth 100000 in
theorem packet_open {w : World} {v : Value} (h : Good Tryd.prog w 47 v) : ∃ (k a p b q : Nat) (bk : Bool) (fl : Nat) (now : Int), v = .agg #[.int .u8 k, .int .u32 a, .int .u16 p, .int .u32 b, .int .u16 q, .bool bk, .int .u8 fl, .int .i64 now] ∧ fl < 256 := by
  have c1 : Tryd.prog.cellsOf 47 = 8 := by kernel_rfl
  have c2 : Tryd.prog.cellsOf 28 = 5 := by kernel_rfl
  have c3 : Tryd.prog.cellsOf 4 = 1 := by kernel_rfl
  have c4 : Tryd.prog.cellsOf 5 = 1 := by kernel_rfl
  have c5 : Tryd.prog.cellsOf 3 = 1 := by kernel_rfl
  obtain ⟨cs, n, rfl, hs⟩ := good_struct Tryd.underlying47 h
  obtain ⟨hl, m, hs⟩ := sees_struct Tryd.underlying47 hs
  rw [c1] at hl
  obtain ⟨l⟩ := cs
  match l, hl with
  | [x0, x1, x2, x3, x4, x5, x6, x7], _ =>
    simp only [List.forall_mem_cons, c2, c3, c4, c5, List.drop_zero, List.drop_succ_cons, List.take_succ_cons, List.take_zero, List.take_nil] at hs
    obtain ⟨h0, h1, h2, h3, _⟩ := hs
    obtain ⟨k, a, p, b, q, e0, _⟩ := tup_sees h0
    obtain ⟨bk, e1⟩ := sees_bool Tryd.underlying4 h1
    obtain ⟨fl, e2, hf⟩ := u8_sees Tryd.underlying5 h2
    obtain ⟨now, e3, _⟩ := sees_int Tryd.underlying3 h3
    simp at e0 e1 e2 e3
    exact ⟨k, a, p, b, q, bk, fl, now, by simp [e0, e1, e2, e3], hf⟩

set_option maxHeartbeats 4000000 in
set_option maxRecDepth 100000 in
theorem tell_long (r a p b q r2 a2 p2 b2 q2 r3 a3 p3 b3 q3 r4 a4 p4 b4 q4 r7 a7 p7 b7 q7 : Nat) (st dl st2 dl2 now : Int) (ad ad2 : Option Addr) (n c m c2 fl : Nat) (bk : Bool) (w : World) (ht : Tb w) (hnm : n ≤ maxLen) (hmm : m ≤ maxLen) (hL : longB 2 (fun i => if i = 0 then n else m) 2 = true) :
    Calls Tryd.prog 5 #[.agg #[.int .u8 r, .int .u32 a, .int .u16 p, .int .u32 b, .int .u16 q, .int .u8 r2, .int .u32 a2, .int .u16 p2, .int .u32 b2, .int .u16 q2, .int .i64 st, .int .i64 dl, .slice ad n c], .agg #[.int .u8 r3, .int .u32 a3, .int .u16 p3, .int .u32 b3, .int .u16 q3, .int .u8 r4, .int .u32 a4, .int .u16 p4, .int .u32 b4, .int .u16 q4, .int .i64 st2, .int .i64 dl2, .slice ad2 m c2], .agg #[.int .u8 r7, .int .u32 a7, .int .u16 p7, .int .u32 b7, .int .u16 q7, .bool bk, .int .u8 fl, .int .i64 now]] w (Ret1 (.bool true) w) := by
  have Ht := Lib.hid ht
  have kp := fun W (hW : Tb W) => passes18 W hW
  have Kp := Lib.hid kp
  clear ht kp
  go_enter Tryd.func5, Tryd.ntmps5
  go_wp2_with fail
  have hw0 : NoW w ((((w.alloc (.cells #[.int .u8 r, .int .u32 a, .int .u16 p, .int .u32 b, .int .u16 q, .int .u8 r2, .int .u32 a2, .int .u16 p2, .int .u32 b2, .int .u16 q2, .int .i64 st, .int .i64 dl, .slice ad n c] 31)).alloc (.cells #[.int .u8 r3, .int .u32 a3, .int .u16 p3, .int .u32 b3, .int .u16 q3, .int .u8 r4, .int .u32 a4, .int .u16 p4, .int .u32 b4, .int .u16 q4, .int .i64 st2, .int .i64 dl2, .slice ad2 m c2] 31)).alloc (.cells #[.int .u8 r7, .int .u32 a7, .int .u16 p7, .int .u32 b7, .int .u16 q7, .bool bk, .int .u8 fl, .int .i64 now] 47)).alloc (.cells #[.int .u8 r, .int .u32 a, .int .u16 p, .int .u32 b, .int .u16 q, .int .u8 r2, .int .u32 a2, .int .u16 p2, .int .u32 b2, .int .u16 q2, .int .i64 st, .int .i64 dl, .slice ad n c, .int .u8 r3, .int .u32 a3, .int .u16 p3, .int .u32 b3, .int .u16 q3, .int .u8 r4, .int .u32 a4, .int .u16 p4, .int .u32 b4, .int .u16 q4, .int .i64 st2, .int .i64 dl2, .slice ad2 m c2] 31)) := ((((Fp.refl _ _).alloc _).alloc _).alloc _).alloc _
  have h4 : ((((w.alloc (.cells #[.int .u8 r, .int .u32 a, .int .u16 p, .int .u32 b, .int .u16 q, .int .u8 r2, .int .u32 a2, .int .u16 p2, .int .u32 b2, .int .u16 q2, .int .i64 st, .int .i64 dl, .slice ad n c] 31)).alloc (.cells #[.int .u8 r3, .int .u32 a3, .int .u16 p3, .int .u32 b3, .int .u16 q3, .int .u8 r4, .int .u32 a4, .int .u16 p4, .int .u32 b4, .int .u16 q4, .int .i64 st2, .int .i64 dl2, .slice ad2 m c2] 31)).alloc (.cells #[.int .u8 r7, .int .u32 a7, .int .u16 p7, .int .u32 b7, .int .u16 q7, .bool bk, .int .u8 fl, .int .i64 now] 47)).alloc (.cells #[.int .u8 r, .int .u32 a, .int .u16 p, .int .u32 b, .int .u16 q, .int .u8 r2, .int .u32 a2, .int .u16 p2, .int .u32 b2, .int .u16 q2, .int .i64 st, .int .i64 dl, .slice ad n c, .int .u8 r3, .int .u32 a3, .int .u16 p3, .int .u32 b3, .int .u16 q3, .int .u8 r4, .int .u32 a4, .int .u16 p4, .int .u32 b4, .int .u16 q4, .int .i64 st2, .int .i64 dl2, .slice ad2 m c2] 31)).heap[w.heap.size + 1 + 1 + 1]? = some (.cells #[.int .u8 r, .int .u32 a, .int .u16 p, .int .u32 b, .int .u16 q, .int .u8 r2, .int .u32 a2, .int .u16 p2, .int .u32 b2, .int .u16 q2, .int .i64 st, .int .i64 dl, .slice ad n c, .int .u8 r3, .int .u32 a3, .int .u16 p3, .int .u32 b3, .int .u16 q3, .int .u8 r4, .int .u32 a4, .int .u16 p4, .int .u32 b4, .int .u16 q4, .int .i64 st2, .int .i64 dl2, .slice ad2 m c2] 31) := by simpa using heap_alloc_new (((w.alloc (.cells #[.int .u8 r, .int .u32 a, .int .u16 p, .int .u32 b, .int .u16 q, .int .u8 r2, .int .u32 a2, .int .u16 p2, .int .u32 b2, .int .u16 q2, .int .i64 st, .int .i64 dl, .slice ad n c] 31)).alloc (.cells #[.int .u8 r3, .int .u32 a3, .int .u16 p3, .int .u32 b3, .int .u16 q3, .int .u8 r4, .int .u32 a4, .int .u16 p4, .int .u32 b4, .int .u16 q4, .int .i64 st2, .int .i64 dl2, .slice ad2 m c2] 31)).alloc (.cells #[.int .u8 r7, .int .u32 a7, .int .u16 p7, .int .u32 b7, .int .u16 q7, .bool bk, .int .u8 fl, .int .i64 now] 47)) (.cells #[.int .u8 r, .int .u32 a, .int .u16 p, .int .u32 b, .int .u16 q, .int .u8 r2, .int .u32 a2, .int .u16 p2, .int .u32 b2, .int .u16 q2, .int .i64 st, .int .i64 dl, .slice ad n c, .int .u8 r3, .int .u32 a3, .int .u16 p3, .int .u32 b3, .int .u16 q3, .int .u8 r4, .int .u32 a4, .int .u16 p4, .int .u32 b4, .int .u16 q4, .int .i64 st2, .int .i64 dl2, .slice ad2 m c2] 31)
  have hq4 : NoW (((w.alloc (.cells #[.int .u8 r, .int .u32 a, .int .u16 p, .int .u32 b, .int .u16 q, .int .u8 r2, .int .u32 a2, .int .u16 p2, .int .u32 b2, .int .u16 q2, .int .i64 st, .int .i64 dl, .slice ad n c] 31)).alloc (.cells #[.int .u8 r3, .int .u32 a3, .int .u16 p3, .int .u32 b3, .int .u16 q3, .int .u8 r4, .int .u32 a4, .int .u16 p4, .int .u32 b4, .int .u16 q4, .int .i64 st2, .int .i64 dl2, .slice ad2 m c2] 31)).alloc (.cells #[.int .u8 r7, .int .u32 a7, .int .u16 p7, .int .u32 b7, .int .u16 q7, .bool bk, .int .u8 fl, .int .i64 now] 47)) ((((w.alloc (.cells #[.int .u8 r, .int .u32 a, .int .u16 p, .int .u32 b, .int .u16 q, .int .u8 r2, .int .u32 a2, .int .u16 p2, .int .u32 b2, .int .u16 q2, .int .i64 st, .int .i64 dl, .slice ad n c] 31)).alloc (.cells #[.int .u8 r3, .int .u32 a3, .int .u16 p3, .int .u32 b3, .int .u16 q3, .int .u8 r4, .int .u32 a4, .int .u16 p4, .int .u32 b4, .int .u16 q4, .int .i64 st2, .int .i64 dl2, .slice ad2 m c2] 31)).alloc (.cells #[.int .u8 r7, .int .u32 a7, .int .u16 p7, .int .u32 b7, .int .u16 q7, .bool bk, .int .u8 fl, .int .i64 now] 47)).alloc (.cells #[.int .u8 r, .int .u32 a, .int .u16 p, .int .u32 b, .int .u16 q, .int .u8 r2, .int .u32 a2, .int .u16 p2, .int .u32 b2, .int .u16 q2, .int .i64 st, .int .i64 dl, .slice ad n c, .int .u8 r3, .int .u32 a3, .int .u16 p3, .int .u32 b3, .int .u16 q3, .int .u8 r4, .int .u32 a4, .int .u16 p4, .int .u32 b4, .int .u16 q4, .int .i64 st2, .int .i64 dl2, .slice ad2 m c2] 31)) := (Fp.refl _ _).alloc _
  have h3' : (((w.alloc (.cells #[.int .u8 r, .int .u32 a, .int .u16 p, .int .u32 b, .int .u16 q, .int .u8 r2, .int .u32 a2, .int .u16 p2, .int .u32 b2, .int .u16 q2, .int .i64 st, .int .i64 dl, .slice ad n c] 31)).alloc (.cells #[.int .u8 r3, .int .u32 a3, .int .u16 p3, .int .u32 b3, .int .u16 q3, .int .u8 r4, .int .u32 a4, .int .u16 p4, .int .u32 b4, .int .u16 q4, .int .i64 st2, .int .i64 dl2, .slice ad2 m c2] 31)).alloc (.cells #[.int .u8 r7, .int .u32 a7, .int .u16 p7, .int .u32 b7, .int .u16 q7, .bool bk, .int .u8 fl, .int .i64 now] 47)).heap[w.heap.size + 1 + 1]? = some (.cells #[.int .u8 r7, .int .u32 a7, .int .u16 p7, .int .u32 b7, .int .u16 q7, .bool bk, .int .u8 fl, .int .i64 now] 47) := by simpa using heap_alloc_new ((w.alloc (.cells #[.int .u8 r, .int .u32 a, .int .u16 p, .int .u32 b, .int .u16 q, .int .u8 r2, .int .u32 a2, .int .u16 p2, .int .u32 b2, .int .u16 q2, .int .i64 st, .int .i64 dl, .slice ad n c] 31)).alloc (.cells #[.int .u8 r3, .int .u32 a3, .int .u16 p3, .int .u32 b3, .int .u16 q3, .int .u8 r4, .int .u32 a4, .int .u16 p4, .int .u32 b4, .int .u16 q4, .int .i64 st2, .int .i64 dl2, .slice ad2 m c2] 31)) (.cells #[.int .u8 r7, .int .u32 a7, .int .u16 p7, .int .u32 b7, .int .u16 q7, .bool bk, .int .u8 fl, .int .i64 now] 47)
  obtain ⟨h1', h2'⟩ := box2 w (.cells #[.int .u8 r, .int .u32 a, .int .u16 p, .int .u32 b, .int .u16 q, .int .u8 r2, .int .u32 a2, .int .u16 p2, .int .u32 b2, .int .u16 q2, .int .i64 st, .int .i64 dl, .slice ad n c] 31) (.cells #[.int .u8 r3, .int .u32 a3, .int .u16 p3, .int .u32 b3, .int .u16 q3, .int .u8 r4, .int .u32 a4, .int .u16 p4, .int .u32 b4, .int .u16 q4, .int .i64 st2, .int .i64 dl2, .slice ad2 m c2] 31)
  have hq3 : NoW ((w.alloc (.cells #[.int .u8 r, .int .u32 a, .int .u16 p, .int .u32 b, .int .u16 q, .int .u8 r2, .int .u32 a2, .int .u16 p2, .int .u32 b2, .int .u16 q2, .int .i64 st, .int .i64 dl, .slice ad n c] 31)).alloc (.cells #[.int .u8 r3, .int .u32 a3, .int .u16 p3, .int .u32 b3, .int .u16 q3, .int .u8 r4, .int .u32 a4, .int .u16 p4, .int .u32 b4, .int .u16 q4, .int .i64 st2, .int .i64 dl2, .slice ad2 m c2] 31)) (((w.alloc (.cells #[.int .u8 r, .int .u32 a, .int .u16 p, .int .u32 b, .int .u16 q, .int .u8 r2, .int .u32 a2, .int .u16 p2, .int .u32 b2, .int .u16 q2, .int .i64 st, .int .i64 dl, .slice ad n c] 31)).alloc (.cells #[.int .u8 r3, .int .u32 a3, .int .u16 p3, .int .u32 b3, .int .u16 q3, .int .u8 r4, .int .u32 a4, .int .u16 p4, .int .u32 b4, .int .u16 q4, .int .i64 st2, .int .i64 dl2, .slice ad2 m c2] 31)).alloc (.cells #[.int .u8 r7, .int .u32 a7, .int .u16 p7, .int .u32 b7, .int .u16 q7, .bool bk, .int .u8 fl, .int .i64 now] 47)) := (Fp.refl _ _).alloc _
  have h3 := (hq4.block _ (Array.getElem?_eq_some_iff.1 h3').1 id).trans h3'
  have hq := hq3.trans hq4 (fun _ _ h => h)
  have h1 := (hq.block _ (Array.getElem?_eq_some_iff.1 h1').1 id).trans h1'
  have h2 := (hq.block _ (Array.getElem?_eq_some_iff.1 h2').1 id).trans h2'
  clear hq hq3 hq4 h1' h2' h3'
  generalize ((((w.alloc (.cells #[.int .u8 r, .int .u32 a, .int .u16 p, .int .u32 b, .int .u16 q, .int .u8 r2, .int .u32 a2, .int .u16 p2, .int .u32 b2, .int .u16 q2, .int .i64 st, .int .i64 dl, .slice ad n c] 31)).alloc (.cells #[.int .u8 r3, .int .u32 a3, .int .u16 p3, .int .u32 b3, .int .u16 q3, .int .u8 r4, .int .u32 a4, .int .u16 p4, .int .u32 b4, .int .u16 q4, .int .i64 st2, .int .i64 dl2, .slice ad2 m c2] 31)).alloc (.cells #[.int .u8 r7, .int .u32 a7, .int .u16 p7, .int .u32 b7, .int .u16 q7, .bool bk, .int .u8 fl, .int .i64 now] 47)).alloc (.cells #[.int .u8 r, .int .u32 a, .int .u16 p, .int .u32 b, .int .u16 q, .int .u8 r2, .int .u32 a2, .int .u16 p2, .int .u32 b2, .int .u16 q2, .int .i64 st, .int .i64 dl, .slice ad n c, .int .u8 r3, .int .u32 a3, .int .u16 p3, .int .u32 b3, .int .u16 q3, .int .u8 r4, .int .u32 a4, .int .u16 p4, .int .u32 b4, .int .u16 q4, .int .i64 st2, .int .i64 dl2, .slice ad2 m c2] 31)) = w0 at *
  generalize w.heap.size + 1 + 1 + 1 = gBL at *
  generalize w.heap.size + 1 + 1 = gBP at *
  generalize w.heap.size + 1 = gBY at *
  generalize w.heap.size = gBX at *
  have BX := Lib.hid h1
  have BY := Lib.hid h2
  have BP := Lib.hid h3
  have Hn0 := Lib.hid hw0
  have hlc : ∀ i, i < 2 → ∃ b o, (some ⟨gBL, 0, none⟩ : Option Addr) = some ⟨b, o, none⟩ ∧ w0.cell? ⟨b, o + i * 13 + 12, none⟩ = some (.slice ((fun i => if i = 0 then ad else ad2) i) ((fun i => if i = 0 then n else m) i) ((fun i => if i = 0 then c else c2) i)) ∧ (fun i => if i = 0 then n else m) i ≤ maxLen := by
    intro i hi
    have hi2 : i = 0 ∨ i = 1 := by omega
    rcases hi2 with rfl | rfl
    · exact ⟨gBL, 0, rfl, by simp [World.cell?, h4], hnm⟩
    · exact ⟨gBL, 0, rfl, by simp [World.cell?, h4], hmm⟩
  have kl := long_ok (some ⟨gBL, 0, none⟩) 2 2 (fun i => if i = 0 then n else m) (fun i => if i = 0 then c else c2) (fun i => if i = 0 then ad else ad2) 2 (by unfold maxLen; omega) (by omega) w0 hlc
  rw [hL] at kl
  clear h1 h2 h3 h4 hw0 hlc hnm hmm
  refine (kl).mono ?_
  rintro e v0 ⟨rfl, hp⟩
  have Hm0 := Lib.hid (Hn0.out.trans hp (fun _ _ h => h))
  have hb := (hp.block _ (Array.getElem?_eq_some_iff.1 BX.out).1 id).trans BX.out
  clear BX
  have BX := Lib.hid hb
  clear hb
  have hb := (hp.block _ (Array.getElem?_eq_some_iff.1 BY.out).1 id).trans BY.out
  clear BY
  have BY := Lib.hid hb
  clear hb
  have hb := (hp.block _ (Array.getElem?_eq_some_iff.1 BP.out).1 id).trans BP.out
  clear BP
  have BP := Lib.hid hb
  clear hb
  clear hp Hn0
  go_wp2_with fail
  refine (Kp.out _ (Ht.out.low Hm0.out)).mono ?_
  rintro e v1 ⟨rfl, hp⟩
  have Hm1 := Lib.hid (Hm0.out.trans hp (fun _ _ h => h))
  have hb := (hp.block _ (Array.getElem?_eq_some_iff.1 BX.out).1 id).trans BX.out
  clear BX
  have BX := Lib.hid hb
  clear hb
  have hb := (hp.block _ (Array.getElem?_eq_some_iff.1 BY.out).1 id).trans BY.out
  clear BY
  have BY := Lib.hid hb
  clear hb
  have hb := (hp.block _ (Array.getElem?_eq_some_iff.1 BP.out).1 id).trans BP.out
  clear BP
  have BP := Lib.hid hb
  clear hb
  clear hp Hm0
  go_wp2_with fail
  go_ret
  exact ⟨rfl, Hm1.out⟩

theorem walk_EntriesTell (w : World) (ht : Tb w) (v0 v1 v2 : Value) (g0 : Good Tryd.prog w 31 v0) (g1 : Good Tryd.prog w 31 v1) (g2 : Good Tryd.prog w 47 v2) : Calls Tryd.prog 5 #[v0, v1, v2] w (Ret1 (.bool true) w) := by
  obtain ⟨r, a, p, b, q, r2, a2, p2, b2, q2, st, dl, ad, n, c, oa, op, ia, ip, rfl, ⟨hr, hb1, hb2, hb3, hb4⟩, ⟨hr2, _, _, _, _⟩, hst, _, hxo⟩ := ent_open g0
  obtain ⟨r3, a3, p3, b3, q3, r4, a4, p4, b4, q4, st2, dl2, ad2, m, c2, oa2, op2, ia2, ip2, rfl, ⟨_, hb5, hb6, hb7, hb8⟩, _, hst2, _, hyo⟩ := ent_open g1
  obtain ⟨r7, a7, p7, b7, q7, bk, fl, now, rfl, hfl⟩ := packet_open g2
  have hnm : n ≤ maxLen := Nat.le_trans hxo.nc hxo.cm
  have hmm : m ≤ maxLen := Nat.le_trans hyo.nc hyo.cm
  have hx : HoldsIn w ad n (holdsV oa op ia ip n) := hxo.at'
  have hy : HoldsIn w ad2 m (holdsV oa2 op2 ia2 ip2 m) := hyo.at'
  rcases hL : longB 2 (fun i => if i = 0 then n else m) 2 with _ | _
  · have hnl : n ≤ 5 ∧ m ≤ 5 := by
      simp only [longB, Bool.or_eq_false_iff, List.any_eq_false] at hL
      have h0 := hL.1 0 (by simp)
      have h1 := hL.1 1 (by simp)
      simp at h0 h1
      exact ⟨h0, h1⟩
    obtain ⟨hn5, hm5⟩ := hnl
    obtain ⟨ta, tp, tb, tq, ktn, krtn⟩ : ∃ ta tp tb tq : Int, (∀ W, Calls Tryd.prog 10 #[.agg #[.int .u8 r, .int .u32 a, .int .u16 p, .int .u32 b, .int .u16 q, .int .u8 r2, .int .u32 a2, .int .u16 p2, .int .u32 b2, .int .u16 q2, .int .i64 st, .int .i64 dl, .slice ad n c], .bool bk] W (Ret1 (.agg #[.int .u32 ta, .int .u16 tp, .int .u32 tb, .int .u16 tq]) W)) ∧ (∀ W o' c', Calls Tryd.prog 27 #[.agg #[.int .u8 r, .int .u32 a, .int .u16 p, .int .u32 b, .int .u16 q, .int .u8 r2, .int .u32 a2, .int .u16 p2, .int .u32 b2, .int .u16 q2, .int .i64 st, .int .i64 dl, .slice o' n c'], .bool bk] W (Ret1 (.agg #[.int .u32 ta, .int .u16 tp, .int .u32 tb, .int .u16 tq]) W)) := by
      rcases bk with _ | _
      · exact ⟨_, _, _, _, fun W => turn_f r a p b q r2 a2 p2 b2 q2 st dl _ W, fun W o' c' => rturn_f r a p b q r2 a2 p2 b2 q2 st dl _ W⟩
      · exact ⟨_, _, _, _, fun W => turn_t r a p b q r2 a2 p2 b2 q2 st dl _ W, fun W o' c' => rturn_t r a p b q r2 a2 p2 b2 q2 st dl _ W⟩
    obtain ⟨ja, jp, jb, jq, kin, krin⟩ : ∃ ja jp jb jq : Int, (∀ W, Calls Tryd.prog 12 #[.agg #[.int .u8 r, .int .u32 a, .int .u16 p, .int .u32 b, .int .u16 q, .int .u8 r2, .int .u32 a2, .int .u16 p2, .int .u32 b2, .int .u16 q2, .int .i64 st, .int .i64 dl, .slice ad n c], .bool bk] W (Ret1 (.agg #[.int .u32 ja, .int .u16 jp, .int .u32 jb, .int .u16 jq]) W)) ∧ (∀ W o' c', Calls Tryd.prog 28 #[.agg #[.int .u8 r, .int .u32 a, .int .u16 p, .int .u32 b, .int .u16 q, .int .u8 r2, .int .u32 a2, .int .u16 p2, .int .u32 b2, .int .u16 q2, .int .i64 st, .int .i64 dl, .slice o' n c'], .bool bk] W (Ret1 (.agg #[.int .u32 ja, .int .u16 jp, .int .u32 jb, .int .u16 jq]) W)) := by
      rcases bk with _ | _
      · exact ⟨_, _, _, _, fun W => inside_f r a p b q r2 a2 p2 b2 q2 st dl _ W, fun W o' c' => rinside_f r a p b q r2 a2 p2 b2 q2 st dl _ W⟩
      · exact ⟨_, _, _, _, fun W => inside_t r a p b q r2 a2 p2 b2 q2 st dl _ W, fun W o' c' => rinside_t r a p b q r2 a2 p2 b2 q2 st dl _ W⟩
    have kck := fun W (hW : Tb W) => check_ok r a p b q r2 a2 p2 b2 q2 st dl ad n c hr hr2 W hW
    have kmay := fun W o' c' => rmay18_ok r a p b q r2 a2 p2 b2 q2 st dl o' n c' W
    rcases hc : chkB r p q r2 p2 q2 (decide (r = r2 ∧ a = a2 ∧ p = p2 ∧ b = b2 ∧ q = q2)) st dl n with _ | _
    · rw [hc] at kmay
      rw [hc, if_neg (by simp)] at kck
      have kt : ∀ W, Tb W → NoW w W → Calls Tryd.prog 21 #[.agg #[.int .u8 r, .int .u32 a, .int .u16 p, .int .u32 b, .int .u16 q, .int .u8 r2, .int .u32 a2, .int .u16 p2, .int .u32 b2, .int .u16 q2, .int .i64 st, .int .i64 dl, .slice ad n c], .bool bk, .int .u8 fl, .int .i64 now] W fun e w' => ∃ o' c', e = .returned (.tuple #[.agg #[.int .u8 ((0 : Nat) : Int), .int .u32 ((0 : Nat) : Int), .int .u16 ((0 : Nat) : Int), .int .u32 ((0 : Nat) : Int), .int .u16 ((0 : Nat) : Int), .int .u8 ((0 : Nat) : Int), .int .u32 ((0 : Nat) : Int), .int .u16 ((0 : Nat) : Int), .int .u32 ((0 : Nat) : Int), .int .u16 ((0 : Nat) : Int), .int .i64 0, .int .i64 0, .slice o' 0 c'], .int .i64 2]) ∧ HoldsIn w' o' 0 (holdsV id id id id 0) ∧ NoW W w' := fun W hW _ => (touch_bad r a p b q r2 a2 p2 b2 q2 st dl ad n c bk fl now W hW  (fun W hW => kck W hW)).mono fun e w' ⟨h1, h2⟩ => ⟨none, 0, h1, fun h => absurd h (by omega), h2⟩
      have krt : ∀ W o c, Tb W → HoldsIn W o n (holdsV oa op ia ip n) → Calls Tryd.prog 22 #[.agg #[.int .u8 r, .int .u32 a, .int .u16 p, .int .u32 b, .int .u16 q, .int .u8 r2, .int .u32 a2, .int .u16 p2, .int .u32 b2, .int .u16 q2, .int .i64 st, .int .i64 dl, .slice o n c], .bool bk, .int .u8 fl, .int .i64 now] W fun e w' => ∃ o' c', e = .returned (.tuple #[.agg #[.int .u8 ((0 : Nat) : Int), .int .u32 ((0 : Nat) : Int), .int .u16 ((0 : Nat) : Int), .int .u32 ((0 : Nat) : Int), .int .u16 ((0 : Nat) : Int), .int .u8 ((0 : Nat) : Int), .int .u32 ((0 : Nat) : Int), .int .u16 ((0 : Nat) : Int), .int .u32 ((0 : Nat) : Int), .int .u16 ((0 : Nat) : Int), .int .i64 0, .int .i64 0, .slice o' 0 c'], .int .i64 2]) ∧ HoldsIn w' o' 0 (holdsV id id id id 0) ∧ NoW W w' := fun W o c hW _ => (rtouch_bad r a p b q r2 a2 p2 b2 q2 st dl o n c bk fl now W hW  (fun W _ => kmay W o c)).mono fun e w' ⟨h1, h2⟩ => ⟨none, 0, h1, fun h => absurd h (by omega), h2⟩
      refine tell_bad r a p b q r2 a2 p2 b2 q2 r3 a3 p3 b3 q3 r4 a4 p4 b4 q4 0 0 0 0 0 0 0 0 0 0 r7 a7 p7 b7 q7 st dl st2 dl2 0 0 now ad ad2 n c m c2 0 fl oa op ia ip oa2 op2 ia2 ip2 id id id id bk _ _ _ _ _ 2 ta tp tb tq ja jp jb jq w ht (by unfold maxLen; omega) (by unfold maxLen; omega) hL kck (fun W => match_ok r a p b q r2 a2 p2 b2 q2 r7 a7 p7 b7 q7 st dl ad n c W) (fun W o' c' => rmatch_ok r a p b q r2 a2 p2 b2 q2 r7 a7 p7 b7 q7 st dl (.slice o' n c') W) kt krt kmay (fun W => live_ok r a p b q r2 a2 p2 b2 q2 st dl (.slice ad n c) now W) (fun W o' c' => rlive_ok r a p b q r2 a2 p2 b2 q2 st dl (.slice o' n c') now W)
        (fun W hW => doc_ok r a p b q r2 a2 p2 b2 q2 st dl ad n c oa op ia ip (by omega) W (hx.low hW)) (fun W hW => doc_ok r3 a3 p3 b3 q3 r4 a4 p4 b4 q4 st2 dl2 ad2 m c2 oa2 op2 ia2 ip2 (by omega) W (hy.low hW)) (fun W o c' h => doc_ok 0 0 0 0 0 0 0 0 0 0 0 0 o 0 c' id id id id (by omega) W h) (fun W o1 c1 o2 c2 h1 h2 => ?_) ktn krtn kin krin (fun W hW => same_ok r a p b q r2 a2 p2 b2 q2 r3 a3 p3 b3 q3 r4 a4 p4 b4 q4 st dl st2 dl2 ad ad2 n c m c2 oa op ia ip oa2 op2 ia2 ip2 hst hst2 (by omega) W (hx.low hW) (hy.low hW)) (fun W o1 c1 o2 c2 h1 h2 => rsame_ok r a p b q r2 a2 p2 b2 q2 r3 a3 p3 b3 q3 r4 a4 p4 b4 q4 st dl st2 dl2 o1 o2 n c1 m c2 oa op ia ip oa2 op2 ia2 ip2 (by omega) W h1 h2) (fun W hW => ?_) (fun W => eless_ok r a p b q r3 a3 p3 b3 q3 r2 a2 p2 b2 q2 r4 a4 p4 b4 q4 st st2 dl dl2 _ _ hb1 hb2 hb3 hb4 hb5 hb6 hb7 hb8 W) (fun W o1 c1 o2 c2 => rless18_ok r a p b q r3 a3 p3 b3 q3 r2 a2 p2 b2 q2 r4 a4 p4 b4 q4 st st2 dl dl2 _ _ hb1 hb2 hb3 hb4 hb5 hb6 hb7 hb8 W)
      · have h := rsame_ok 0 0 0 0 0 0 0 0 0 0 0 0 0 0 0 0 0 0 0 0 0 0 0 0 o1 o2 0 c1 0 c2 id id id id id id id id (by omega) W h1 h2
        rw [eqHolds_yes (fun k _ => ⟨rfl, rfl, rfl, rfl⟩)] at h
        simpa using h
      · have h := same_ok r a p b q r2 a2 p2 b2 q2 r a p b q r2 a2 p2 b2 q2 st dl st dl ad ad n c n c oa op ia ip oa op ia ip hst hst (by omega) W (hx.low hW) (hx.low hW)
        rw [eqHolds_yes (fun k _ => ⟨rfl, rfl, rfl, rfl⟩)] at h
        simpa using h

    · rw [hc] at kmay
      rw [hc, if_pos rfl] at kck
      rcases hd0 : decide (now < 0) with _ | _
      · rcases hd1 : decide (1099511627776 < now) with _ | _
        · obtain ⟨hn1, hn2⟩ : 1 ≤ n ∧ n ≤ 2 := by
            unfold chkB at hc
            simp only [Bool.and_eq_true, decide_eq_true_eq] at hc
            exact hc.2
          obtain ⟨hb, ho, rfl, hhx⟩ := hx (by omega)
          have htm : IntKind.i64.wrap (now + toN (flowN r) (nextN (flowN r) st bk fl)) = now + toN (flowN r) (nextN (flowN r) st bk fl) := IntWalk.i64_in _ (by
            have h1 := toN_le (flowN r) (flowN_lt r) (nextN (flowN r) st bk fl)
            have h2 := toN_nonneg (flowN r) (flowN_lt r) (nextN (flowN r) st bk fl)
            have h3 := of_decide_eq_false hd0
            have h4 := of_decide_eq_false hd1
            omega)
          have kt : ∀ W, Tb W → NoW w W → Calls Tryd.prog 21 #[.agg #[.int .u8 r, .int .u32 a, .int .u16 p, .int .u32 b, .int .u16 q, .int .u8 r2, .int .u32 a2, .int .u16 p2, .int .u32 b2, .int .u16 q2, .int .i64 st, .int .i64 dl, .slice (some ⟨hb, ho, none⟩) n c], .bool bk, .int .u8 fl, .int .i64 now] W fun e w' => ∃ o' c', e = .returned (.tuple #[.agg #[.int .u8 r, .int .u32 a, .int .u16 p, .int .u32 b, .int .u16 q, .int .u8 r2, .int .u32 a2, .int .u16 p2, .int .u32 b2, .int .u16 q2, .int .i64 (nextN (flowN r) st bk fl), .int .i64 (now + toN (flowN r) (nextN (flowN r) st bk fl)), .slice o' n c'], .int .i64 0]) ∧ HoldsIn w' o' n (holdsV oa op ia ip n) ∧ NoW W w' := fun W hW hN =>
            (touch_core r a p b q r2 a2 p2 b2 q2 st dl hb ho n c (holdsV oa op ia ip n) (by omega) bk fl now (flowN r : Nat) (nextN (flowN r) st bk fl) (toN (flowN r) (nextN (flowN r) st bk fl)) W hW (hhx.low hN) (by have := of_decide_eq_false hd0; omega) (by have := of_decide_eq_false hd1; omega) htm kck (fun W => flow_ok r W) (fun W hW => next_all (flowN r) (flowN_lt r) st bk fl hfl W hW) (fun W hW => timeout_ok (flowN r) (flowN_lt r) _ W hW)).mono fun e w' ⟨b', c', h1, _, _, h2, h3⟩ => ⟨_, c', h1, fun _ => ⟨b', 0, rfl, h2⟩, h3⟩
          have krt : ∀ W o c, Tb W → HoldsIn W o n (holdsV oa op ia ip n) → Calls Tryd.prog 22 #[.agg #[.int .u8 r, .int .u32 a, .int .u16 p, .int .u32 b, .int .u16 q, .int .u8 r2, .int .u32 a2, .int .u16 p2, .int .u32 b2, .int .u16 q2, .int .i64 st, .int .i64 dl, .slice o n c], .bool bk, .int .u8 fl, .int .i64 now] W fun e w' => ∃ o' c', e = .returned (.tuple #[.agg #[.int .u8 r, .int .u32 a, .int .u16 p, .int .u32 b, .int .u16 q, .int .u8 r2, .int .u32 a2, .int .u16 p2, .int .u32 b2, .int .u16 q2, .int .i64 (nextN (flowN r) st bk fl), .int .i64 (now + toN (flowN r) (nextN (flowN r) st bk fl)), .slice o' n c'], .int .i64 0]) ∧ HoldsIn w' o' n (holdsV oa op ia ip n) ∧ NoW W w' := fun W o c hW hH => by
            obtain ⟨hb', ho', rfl, hh'⟩ := hH (by omega)
            exact (rtouch_core r a p b q r2 a2 p2 b2 q2 st dl hb' ho' n c (holdsV oa op ia ip n) (by omega) hn1 bk fl now (flowN r : Nat) (nextN (flowN r) st bk fl) (toN (flowN r) (nextN (flowN r) st bk fl)) W hW hh' hd0 hd1 htm (fun W _ => kmay W _ c) (fun W => rflow_ok r W) (fun W => rnext_ok (flowN r) (flowN_lt r) st bk fl hfl W) (fun W => (rtimeout_ok (flowN r) (flowN_lt r) _ W).mono fun e w' ⟨h1, h2⟩ => ⟨h1, by rw [h2]; exact Fp.refl _ _⟩)).mono fun e w' ⟨b', c', h1, _, _, h2, h3⟩ => ⟨_, c', h1, fun _ => ⟨b', 0, rfl, h2⟩, h3⟩
          refine tell_good r a p b q r2 a2 p2 b2 q2 r3 a3 p3 b3 q3 r4 a4 p4 b4 q4 r a p b q r2 a2 p2 b2 q2 r7 a7 p7 b7 q7 st dl st2 dl2 (nextN (flowN r) st bk fl) (now + toN (flowN r) (nextN (flowN r) st bk fl)) now (some ⟨hb, ho, none⟩) ad2 n c m c2 n fl oa op ia ip oa2 op2 ia2 ip2 oa op ia ip bk _ _ _ _ _ 0 ta tp tb tq ja jp jb jq w ht (by unfold maxLen; omega) (by unfold maxLen; omega) hL kck (fun W => match_ok r a p b q r2 a2 p2 b2 q2 r7 a7 p7 b7 q7 st dl (some ⟨hb, ho, none⟩) n c W) (fun W o' c' => rmatch_ok r a p b q r2 a2 p2 b2 q2 r7 a7 p7 b7 q7 st dl (.slice o' n c') W) kt krt kmay (fun W => live_ok r a p b q r2 a2 p2 b2 q2 st dl (.slice (some ⟨hb, ho, none⟩) n c) now W) (fun W o' c' => rlive_ok r a p b q r2 a2 p2 b2 q2 st dl (.slice o' n c') now W)
            (fun W hW => doc_ok r a p b q r2 a2 p2 b2 q2 st dl (some ⟨hb, ho, none⟩) n c oa op ia ip (by omega) W (hx.low hW)) (fun W hW => doc_ok r3 a3 p3 b3 q3 r4 a4 p4 b4 q4 st2 dl2 ad2 m c2 oa2 op2 ia2 ip2 (by omega) W (hy.low hW)) (fun W o c' h => doc_ok r a p b q r2 a2 p2 b2 q2 (nextN (flowN r) st bk fl) (now + toN (flowN r) (nextN (flowN r) st bk fl)) o n c' oa op ia ip (by omega) W h) (fun W o1 c1 o2 c2 h1 h2 => ?_) ktn krtn kin krin (fun W hW => same_ok r a p b q r2 a2 p2 b2 q2 r3 a3 p3 b3 q3 r4 a4 p4 b4 q4 st dl st2 dl2 (some ⟨hb, ho, none⟩) ad2 n c m c2 oa op ia ip oa2 op2 ia2 ip2 hst hst2 (by omega) W (hx.low hW) (hy.low hW)) (fun W o1 c1 o2 c2 h1 h2 => rsame_ok r a p b q r2 a2 p2 b2 q2 r3 a3 p3 b3 q3 r4 a4 p4 b4 q4 st dl st2 dl2 o1 o2 n c1 m c2 oa op ia ip oa2 op2 ia2 ip2 (by omega) W h1 h2) (fun W hW => ?_) (fun W => eless_ok r a p b q r3 a3 p3 b3 q3 r2 a2 p2 b2 q2 r4 a4 p4 b4 q4 st st2 dl dl2 _ _ hb1 hb2 hb3 hb4 hb5 hb6 hb7 hb8 W) (fun W o1 c1 o2 c2 => rless18_ok r a p b q r3 a3 p3 b3 q3 r2 a2 p2 b2 q2 r4 a4 p4 b4 q4 st st2 dl dl2 _ _ hb1 hb2 hb3 hb4 hb5 hb6 hb7 hb8 W)
          · have h := rsame_ok r a p b q r2 a2 p2 b2 q2 r a p b q r2 a2 p2 b2 q2 (nextN (flowN r) st bk fl) (now + toN (flowN r) (nextN (flowN r) st bk fl)) (nextN (flowN r) st bk fl) (now + toN (flowN r) (nextN (flowN r) st bk fl)) o1 o2 n c1 n c2 oa op ia ip oa op ia ip (by omega) W h1 h2
            rw [eqHolds_yes (fun k _ => ⟨rfl, rfl, rfl, rfl⟩)] at h
            simpa using h
          · have h := same_ok r a p b q r2 a2 p2 b2 q2 r a p b q r2 a2 p2 b2 q2 st dl st dl (some ⟨hb, ho, none⟩) (some ⟨hb, ho, none⟩) n c n c oa op ia ip oa op ia ip hst hst (by omega) W (hx.low hW) (hx.low hW)
            rw [eqHolds_yes (fun k _ => ⟨rfl, rfl, rfl, rfl⟩)] at h
            simpa using h
        · have kt : ∀ W, Tb W → NoW w W → Calls Tryd.prog 21 #[.agg #[.int .u8 r, .int .u32 a, .int .u16 p, .int .u32 b, .int .u16 q, .int .u8 r2, .int .u32 a2, .int .u16 p2, .int .u32 b2, .int .u16 q2, .int .i64 st, .int .i64 dl, .slice ad n c], .bool bk, .int .u8 fl, .int .i64 now] W fun e w' => ∃ o' c', e = .returned (.tuple #[.agg #[.int .u8 ((0 : Nat) : Int), .int .u32 ((0 : Nat) : Int), .int .u16 ((0 : Nat) : Int), .int .u32 ((0 : Nat) : Int), .int .u16 ((0 : Nat) : Int), .int .u8 ((0 : Nat) : Int), .int .u32 ((0 : Nat) : Int), .int .u16 ((0 : Nat) : Int), .int .u32 ((0 : Nat) : Int), .int .u16 ((0 : Nat) : Int), .int .i64 0, .int .i64 0, .slice o' 0 c'], .int .i64 2]) ∧ HoldsIn w' o' 0 (holdsV id id id id 0) ∧ NoW W w' := fun W hW _ => (touch_high r a p b q r2 a2 p2 b2 q2 st dl ad n c bk fl now W hW hd0 hd1 (fun W hW => kck W hW)).mono fun e w' ⟨h1, h2⟩ => ⟨none, 0, h1, fun h => absurd h (by omega), h2⟩
          have krt : ∀ W o c, Tb W → HoldsIn W o n (holdsV oa op ia ip n) → Calls Tryd.prog 22 #[.agg #[.int .u8 r, .int .u32 a, .int .u16 p, .int .u32 b, .int .u16 q, .int .u8 r2, .int .u32 a2, .int .u16 p2, .int .u32 b2, .int .u16 q2, .int .i64 st, .int .i64 dl, .slice o n c], .bool bk, .int .u8 fl, .int .i64 now] W fun e w' => ∃ o' c', e = .returned (.tuple #[.agg #[.int .u8 ((0 : Nat) : Int), .int .u32 ((0 : Nat) : Int), .int .u16 ((0 : Nat) : Int), .int .u32 ((0 : Nat) : Int), .int .u16 ((0 : Nat) : Int), .int .u8 ((0 : Nat) : Int), .int .u32 ((0 : Nat) : Int), .int .u16 ((0 : Nat) : Int), .int .u32 ((0 : Nat) : Int), .int .u16 ((0 : Nat) : Int), .int .i64 0, .int .i64 0, .slice o' 0 c'], .int .i64 2]) ∧ HoldsIn w' o' 0 (holdsV id id id id 0) ∧ NoW W w' := fun W o c hW _ => (rtouch_high r a p b q r2 a2 p2 b2 q2 st dl o n c bk fl now W hW hd0 hd1 (fun W _ => kmay W o c)).mono fun e w' ⟨h1, h2⟩ => ⟨none, 0, h1, fun h => absurd h (by omega), h2⟩
          refine tell_good r a p b q r2 a2 p2 b2 q2 r3 a3 p3 b3 q3 r4 a4 p4 b4 q4 0 0 0 0 0 0 0 0 0 0 r7 a7 p7 b7 q7 st dl st2 dl2 0 0 now ad ad2 n c m c2 0 fl oa op ia ip oa2 op2 ia2 ip2 id id id id bk _ _ _ _ _ 2 ta tp tb tq ja jp jb jq w ht (by unfold maxLen; omega) (by unfold maxLen; omega) hL kck (fun W => match_ok r a p b q r2 a2 p2 b2 q2 r7 a7 p7 b7 q7 st dl ad n c W) (fun W o' c' => rmatch_ok r a p b q r2 a2 p2 b2 q2 r7 a7 p7 b7 q7 st dl (.slice o' n c') W) kt krt kmay (fun W => live_ok r a p b q r2 a2 p2 b2 q2 st dl (.slice ad n c) now W) (fun W o' c' => rlive_ok r a p b q r2 a2 p2 b2 q2 st dl (.slice o' n c') now W)
            (fun W hW => doc_ok r a p b q r2 a2 p2 b2 q2 st dl ad n c oa op ia ip (by omega) W (hx.low hW)) (fun W hW => doc_ok r3 a3 p3 b3 q3 r4 a4 p4 b4 q4 st2 dl2 ad2 m c2 oa2 op2 ia2 ip2 (by omega) W (hy.low hW)) (fun W o c' h => doc_ok 0 0 0 0 0 0 0 0 0 0 0 0 o 0 c' id id id id (by omega) W h) (fun W o1 c1 o2 c2 h1 h2 => ?_) ktn krtn kin krin (fun W hW => same_ok r a p b q r2 a2 p2 b2 q2 r3 a3 p3 b3 q3 r4 a4 p4 b4 q4 st dl st2 dl2 ad ad2 n c m c2 oa op ia ip oa2 op2 ia2 ip2 hst hst2 (by omega) W (hx.low hW) (hy.low hW)) (fun W o1 c1 o2 c2 h1 h2 => rsame_ok r a p b q r2 a2 p2 b2 q2 r3 a3 p3 b3 q3 r4 a4 p4 b4 q4 st dl st2 dl2 o1 o2 n c1 m c2 oa op ia ip oa2 op2 ia2 ip2 (by omega) W h1 h2) (fun W hW => ?_) (fun W => eless_ok r a p b q r3 a3 p3 b3 q3 r2 a2 p2 b2 q2 r4 a4 p4 b4 q4 st st2 dl dl2 _ _ hb1 hb2 hb3 hb4 hb5 hb6 hb7 hb8 W) (fun W o1 c1 o2 c2 => rless18_ok r a p b q r3 a3 p3 b3 q3 r2 a2 p2 b2 q2 r4 a4 p4 b4 q4 st st2 dl dl2 _ _ hb1 hb2 hb3 hb4 hb5 hb6 hb7 hb8 W)
          · have h := rsame_ok 0 0 0 0 0 0 0 0 0 0 0 0 0 0 0 0 0 0 0 0 0 0 0 0 o1 o2 0 c1 0 c2 id id id id id id id id (by omega) W h1 h2
            rw [eqHolds_yes (fun k _ => ⟨rfl, rfl, rfl, rfl⟩)] at h
            simpa using h
          · have h := same_ok r a p b q r2 a2 p2 b2 q2 r a p b q r2 a2 p2 b2 q2 st dl st dl ad ad n c n c oa op ia ip oa op ia ip hst hst (by omega) W (hx.low hW) (hx.low hW)
            rw [eqHolds_yes (fun k _ => ⟨rfl, rfl, rfl, rfl⟩)] at h
            simpa using h
      · have kt : ∀ W, Tb W → NoW w W → Calls Tryd.prog 21 #[.agg #[.int .u8 r, .int .u32 a, .int .u16 p, .int .u32 b, .int .u16 q, .int .u8 r2, .int .u32 a2, .int .u16 p2, .int .u32 b2, .int .u16 q2, .int .i64 st, .int .i64 dl, .slice ad n c], .bool bk, .int .u8 fl, .int .i64 now] W fun e w' => ∃ o' c', e = .returned (.tuple #[.agg #[.int .u8 ((0 : Nat) : Int), .int .u32 ((0 : Nat) : Int), .int .u16 ((0 : Nat) : Int), .int .u32 ((0 : Nat) : Int), .int .u16 ((0 : Nat) : Int), .int .u8 ((0 : Nat) : Int), .int .u32 ((0 : Nat) : Int), .int .u16 ((0 : Nat) : Int), .int .u32 ((0 : Nat) : Int), .int .u16 ((0 : Nat) : Int), .int .i64 0, .int .i64 0, .slice o' 0 c'], .int .i64 2]) ∧ HoldsIn w' o' 0 (holdsV id id id id 0) ∧ NoW W w' := fun W hW _ => (touch_low r a p b q r2 a2 p2 b2 q2 st dl ad n c bk fl now W hW hd0 (fun W hW => kck W hW)).mono fun e w' ⟨h1, h2⟩ => ⟨none, 0, h1, fun h => absurd h (by omega), h2⟩
        have krt : ∀ W o c, Tb W → HoldsIn W o n (holdsV oa op ia ip n) → Calls Tryd.prog 22 #[.agg #[.int .u8 r, .int .u32 a, .int .u16 p, .int .u32 b, .int .u16 q, .int .u8 r2, .int .u32 a2, .int .u16 p2, .int .u32 b2, .int .u16 q2, .int .i64 st, .int .i64 dl, .slice o n c], .bool bk, .int .u8 fl, .int .i64 now] W fun e w' => ∃ o' c', e = .returned (.tuple #[.agg #[.int .u8 ((0 : Nat) : Int), .int .u32 ((0 : Nat) : Int), .int .u16 ((0 : Nat) : Int), .int .u32 ((0 : Nat) : Int), .int .u16 ((0 : Nat) : Int), .int .u8 ((0 : Nat) : Int), .int .u32 ((0 : Nat) : Int), .int .u16 ((0 : Nat) : Int), .int .u32 ((0 : Nat) : Int), .int .u16 ((0 : Nat) : Int), .int .i64 0, .int .i64 0, .slice o' 0 c'], .int .i64 2]) ∧ HoldsIn w' o' 0 (holdsV id id id id 0) ∧ NoW W w' := fun W o c hW _ => (rtouch_low r a p b q r2 a2 p2 b2 q2 st dl o n c bk fl now W hW hd0 (fun W _ => kmay W o c)).mono fun e w' ⟨h1, h2⟩ => ⟨none, 0, h1, fun h => absurd h (by omega), h2⟩
        refine tell_good r a p b q r2 a2 p2 b2 q2 r3 a3 p3 b3 q3 r4 a4 p4 b4 q4 0 0 0 0 0 0 0 0 0 0 r7 a7 p7 b7 q7 st dl st2 dl2 0 0 now ad ad2 n c m c2 0 fl oa op ia ip oa2 op2 ia2 ip2 id id id id bk _ _ _ _ _ 2 ta tp tb tq ja jp jb jq w ht (by unfold maxLen; omega) (by unfold maxLen; omega) hL kck (fun W => match_ok r a p b q r2 a2 p2 b2 q2 r7 a7 p7 b7 q7 st dl ad n c W) (fun W o' c' => rmatch_ok r a p b q r2 a2 p2 b2 q2 r7 a7 p7 b7 q7 st dl (.slice o' n c') W) kt krt kmay (fun W => live_ok r a p b q r2 a2 p2 b2 q2 st dl (.slice ad n c) now W) (fun W o' c' => rlive_ok r a p b q r2 a2 p2 b2 q2 st dl (.slice o' n c') now W)
          (fun W hW => doc_ok r a p b q r2 a2 p2 b2 q2 st dl ad n c oa op ia ip (by omega) W (hx.low hW)) (fun W hW => doc_ok r3 a3 p3 b3 q3 r4 a4 p4 b4 q4 st2 dl2 ad2 m c2 oa2 op2 ia2 ip2 (by omega) W (hy.low hW)) (fun W o c' h => doc_ok 0 0 0 0 0 0 0 0 0 0 0 0 o 0 c' id id id id (by omega) W h) (fun W o1 c1 o2 c2 h1 h2 => ?_) ktn krtn kin krin (fun W hW => same_ok r a p b q r2 a2 p2 b2 q2 r3 a3 p3 b3 q3 r4 a4 p4 b4 q4 st dl st2 dl2 ad ad2 n c m c2 oa op ia ip oa2 op2 ia2 ip2 hst hst2 (by omega) W (hx.low hW) (hy.low hW)) (fun W o1 c1 o2 c2 h1 h2 => rsame_ok r a p b q r2 a2 p2 b2 q2 r3 a3 p3 b3 q3 r4 a4 p4 b4 q4 st dl st2 dl2 o1 o2 n c1 m c2 oa op ia ip oa2 op2 ia2 ip2 (by omega) W h1 h2) (fun W hW => ?_) (fun W => eless_ok r a p b q r3 a3 p3 b3 q3 r2 a2 p2 b2 q2 r4 a4 p4 b4 q4 st st2 dl dl2 _ _ hb1 hb2 hb3 hb4 hb5 hb6 hb7 hb8 W) (fun W o1 c1 o2 c2 => rless18_ok r a p b q r3 a3 p3 b3 q3 r2 a2 p2 b2 q2 r4 a4 p4 b4 q4 st st2 dl dl2 _ _ hb1 hb2 hb3 hb4 hb5 hb6 hb7 hb8 W)
        · have h := rsame_ok 0 0 0 0 0 0 0 0 0 0 0 0 0 0 0 0 0 0 0 0 0 0 0 0 o1 o2 0 c1 0 c2 id id id id id id id id (by omega) W h1 h2
          rw [eqHolds_yes (fun k _ => ⟨rfl, rfl, rfl, rfl⟩)] at h
          simpa using h
        · have h := same_ok r a p b q r2 a2 p2 b2 q2 r a p b q r2 a2 p2 b2 q2 st dl st dl ad ad n c n c oa op ia ip oa op ia ip hst hst (by omega) W (hx.low hW) (hx.low hW)
          rw [eqHolds_yes (fun k _ => ⟨rfl, rfl, rfl, rfl⟩)] at h
          simpa using h

  · exact tell_long r a p b q r2 a2 p2 b2 q2 r3 a3 p3 b3 q3 r4 a4 p4 b4 q4 r7 a7 p7 b7 q7 st dl st2 dl2 now ad ad2 n c m c2 fl bk w ht hnm hmm hL
end Go.Proofs.YtdmbjndhdldggaaDoor
