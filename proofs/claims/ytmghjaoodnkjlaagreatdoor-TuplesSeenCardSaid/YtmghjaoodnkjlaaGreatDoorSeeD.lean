/- Chapter 08: what a reading tells of a Dress (written by gensee.py). -/
import Derived.Test.YtmghjaoodnkjlaaGreatDoorSeeE
namespace Go.Proofs.YtmghjaoodnkjlaaGreatDoor
set_option linter.unusedVariables false
set_option linter.unusedSimpArgs false
open Go.RowKit Go.Lib Go.Sort
theorem i64_sees {P : Program} {w : World} {n : Nat} {t : TypeId} {cs : List Value} (hu : P.underlying t = some (.int .i64)) (h : Sees P w n t cs) : ∃ a : Int, cs = [.int .i64 a] ∧ -9223372036854775808 ≤ a ∧ a ≤ 9223372036854775807 := by
  obtain ⟨x, e, hw⟩ := sees_int hu h
  exact ⟨x, e, wf_i64 hw⟩
theorem bool_sees {P : Program} {w : World} {n : Nat} {t : TypeId} {cs : List Value} (hu : P.underlying t = some .bool) (h : Sees P w n t cs) : ∃ a : Bool, cs = [.bool a] ∧ True := by
  obtain ⟨x, e⟩ := sees_bool hu h
  exact ⟨x, e, trivial⟩
theorem str_sees {P : Program} {w : World} {n : Nat} {t : TypeId} {cs : List Value} (hu : P.underlying t = some .string) (h : Sees P w n t cs) : ∃ l : List UInt8, cs = [str l] ∧ l.length ≤ 9223372036854775807 := by
  obtain ⟨x, e, hw⟩ := sees_string hu h
  unfold maxLen at hw
  exact ⟨x.data.toList, e, by rw [Array.length_toList]; exact hw⟩
set_option maxRecDepth 100000 in
theorem iph_sees {w : World} {n : Nat} {cs : List Value} (h : Sees Tryz.prog w n 49 cs) : ∃ (tos : Nat) (id : Nat) (fl : Bool) (ttl : Nat) (pr0 : Nat) (sr0 : Nat) (ds0 : Nat) (op : List UInt8), cs = [.int .u8 (tos : Nat), .int .u16 (id : Nat), .bool fl, .int .u8 (ttl : Nat), .int .u8 (pr0 : Nat), .int .u32 (sr0 : Nat), .int .u32 (ds0 : Nat), str op] ∧ (tos < 256) ∧ (id < 65536) ∧ (True) ∧ (ttl < 256) ∧ (pr0 < 256) ∧ (sr0 < 4294967296) ∧ (ds0 < 4294967296) ∧ (op.length ≤ 9223372036854775807) := by
  have c0 : Tryz.prog.cellsOf 49 = 8 := by kernel_rfl
  have k0 : Tryz.prog.cellsOf 5 = 1 := by kernel_rfl
  have k1 : Tryz.prog.cellsOf 25 = 1 := by kernel_rfl
  have k2 : Tryz.prog.cellsOf 4 = 1 := by kernel_rfl
  have k3 : Tryz.prog.cellsOf 24 = 1 := by kernel_rfl
  have k4 : Tryz.prog.cellsOf 9 = 1 := by kernel_rfl
  obtain ⟨hl, m, hs⟩ := sees_struct Tryz.underlying49 h
  rw [c0] at hl
  match cs, hl with
  | [x0, x1, x2, x3, x4, x5, x6, x7], _ =>
    simp only [List.forall_mem_cons, k0, k1, k2, k3, k4, List.drop_zero, List.drop_succ_cons, List.take_succ_cons, List.take_zero, List.take_nil] at hs
    obtain ⟨h0, h1, h2, h3, h4, h5, h6, h7, _⟩ := hs
    obtain ⟨tos, e0, w0⟩ := u8_sees Tryz.underlying5 h0
    obtain ⟨id, e1, w1⟩ := u16_sees Tryz.underlying25 h1
    obtain ⟨fl, e2, w2⟩ := bool_sees Tryz.underlying4 h2
    obtain ⟨ttl, e3, w3⟩ := u8_sees Tryz.underlying5 h3
    obtain ⟨pr0, e4, w4⟩ := u8_sees Tryz.underlying5 h4
    obtain ⟨sr0, e5, w5⟩ := u32_sees Tryz.underlying24 h5
    obtain ⟨ds0, e6, w6⟩ := u32_sees Tryz.underlying24 h6
    obtain ⟨op, e7, w7⟩ := str_sees Tryz.underlying9 h7
    simp at e0 e1 e2 e3 e4 e5 e6 e7
    exact ⟨tos, id, fl, ttl, pr0, sr0, ds0, op, by rw [e0, e1, e2, e3, e4, e5, e6, e7], w0, w1, w2, w3, w4, w5, w6, w7⟩
theorem iph_open {w : World} {v : Value} (h : Good Tryz.prog w 49 v) : ∃ (tos : Nat) (id : Nat) (fl : Bool) (ttl : Nat) (pr0 : Nat) (sr0 : Nat) (ds0 : Nat) (op : List UInt8), v = .agg #[.int .u8 (tos : Nat), .int .u16 (id : Nat), .bool fl, .int .u8 (ttl : Nat), .int .u8 (pr0 : Nat), .int .u32 (sr0 : Nat), .int .u32 (ds0 : Nat), str op] ∧ (tos < 256) ∧ (id < 65536) ∧ (True) ∧ (ttl < 256) ∧ (pr0 < 256) ∧ (sr0 < 4294967296) ∧ (ds0 < 4294967296) ∧ (op.length ≤ 9223372036854775807) := by
  obtain ⟨cs, n, rfl, hs⟩ := good_struct Tryz.underlying49 h
  obtain ⟨tos, id, fl, ttl, pr0, sr0, ds0, op, e, r⟩ := iph_sees hs
  exact ⟨tos, id, fl, ttl, pr0, sr0, ds0, op, by rw [show cs = #[.int .u8 (tos : Nat), .int .u16 (id : Nat), .bool fl, .int .u8 (ttl : Nat), .int .u8 (pr0 : Nat), .int .u32 (sr0 : Nat), .int .u32 (ds0 : Nat), str op] from by rw [← Array.toList_inj, e]], r⟩
set_option maxRecDepth 100000 in
theorem tcph_sees {w : World} {n : Nat} {cs : List Value} (h : Sees Tryz.prog w n 51 cs) : ∃ (sp0 : Nat) (dp0 : Nat) (seq : Nat) (ack : Nat) (low : Nat) (fg : Nat) (win : Nat) (sum : Nat) (urg : Nat) (gop : List UInt8), cs = [.int .u16 (sp0 : Nat), .int .u16 (dp0 : Nat), .int .u32 (seq : Nat), .int .u32 (ack : Nat), .int .u8 (low : Nat), .int .u8 (fg : Nat), .int .u16 (win : Nat), .int .u16 (sum : Nat), .int .u16 (urg : Nat), str gop] ∧ (sp0 < 65536) ∧ (dp0 < 65536) ∧ (seq < 4294967296) ∧ (ack < 4294967296) ∧ (low < 256) ∧ (fg < 256) ∧ (win < 65536) ∧ (sum < 65536) ∧ (urg < 65536) ∧ (gop.length ≤ 9223372036854775807) := by
  have c0 : Tryz.prog.cellsOf 51 = 10 := by kernel_rfl
  have k0 : Tryz.prog.cellsOf 25 = 1 := by kernel_rfl
  have k1 : Tryz.prog.cellsOf 23 = 1 := by kernel_rfl
  have k2 : Tryz.prog.cellsOf 5 = 1 := by kernel_rfl
  have k3 : Tryz.prog.cellsOf 9 = 1 := by kernel_rfl
  obtain ⟨hl, m, hs⟩ := sees_struct Tryz.underlying51 h
  rw [c0] at hl
  match cs, hl with
  | [x0, x1, x2, x3, x4, x5, x6, x7, x8, x9], _ =>
    simp only [List.forall_mem_cons, k0, k1, k2, k3, List.drop_zero, List.drop_succ_cons, List.take_succ_cons, List.take_zero, List.take_nil] at hs
    obtain ⟨h0, h1, h2, h3, h4, h5, h6, h7, h8, h9, _⟩ := hs
    obtain ⟨sp0, e0, w0⟩ := u16_sees Tryz.underlying25 h0
    obtain ⟨dp0, e1, w1⟩ := u16_sees Tryz.underlying25 h1
    obtain ⟨seq, e2, w2⟩ := u32_sees Tryz.underlying23 h2
    obtain ⟨ack, e3, w3⟩ := u32_sees Tryz.underlying23 h3
    obtain ⟨low, e4, w4⟩ := u8_sees Tryz.underlying5 h4
    obtain ⟨fg, e5, w5⟩ := u8_sees Tryz.underlying5 h5
    obtain ⟨win, e6, w6⟩ := u16_sees Tryz.underlying25 h6
    obtain ⟨sum, e7, w7⟩ := u16_sees Tryz.underlying25 h7
    obtain ⟨urg, e8, w8⟩ := u16_sees Tryz.underlying25 h8
    obtain ⟨gop, e9, w9⟩ := str_sees Tryz.underlying9 h9
    simp at e0 e1 e2 e3 e4 e5 e6 e7 e8 e9
    exact ⟨sp0, dp0, seq, ack, low, fg, win, sum, urg, gop, by rw [e0, e1, e2, e3, e4, e5, e6, e7, e8, e9], w0, w1, w2, w3, w4, w5, w6, w7, w8, w9⟩
theorem tcph_open {w : World} {v : Value} (h : Good Tryz.prog w 51 v) : ∃ (sp0 : Nat) (dp0 : Nat) (seq : Nat) (ack : Nat) (low : Nat) (fg : Nat) (win : Nat) (sum : Nat) (urg : Nat) (gop : List UInt8), v = .agg #[.int .u16 (sp0 : Nat), .int .u16 (dp0 : Nat), .int .u32 (seq : Nat), .int .u32 (ack : Nat), .int .u8 (low : Nat), .int .u8 (fg : Nat), .int .u16 (win : Nat), .int .u16 (sum : Nat), .int .u16 (urg : Nat), str gop] ∧ (sp0 < 65536) ∧ (dp0 < 65536) ∧ (seq < 4294967296) ∧ (ack < 4294967296) ∧ (low < 256) ∧ (fg < 256) ∧ (win < 65536) ∧ (sum < 65536) ∧ (urg < 65536) ∧ (gop.length ≤ 9223372036854775807) := by
  obtain ⟨cs, n, rfl, hs⟩ := good_struct Tryz.underlying51 h
  obtain ⟨sp0, dp0, seq, ack, low, fg, win, sum, urg, gop, e, r⟩ := tcph_sees hs
  exact ⟨sp0, dp0, seq, ack, low, fg, win, sum, urg, gop, by rw [show cs = #[.int .u16 (sp0 : Nat), .int .u16 (dp0 : Nat), .int .u32 (seq : Nat), .int .u32 (ack : Nat), .int .u8 (low : Nat), .int .u8 (fg : Nat), .int .u16 (win : Nat), .int .u16 (sum : Nat), .int .u16 (urg : Nat), str gop] from by rw [← Array.toList_inj, e]], r⟩
set_option maxRecDepth 100000 in
theorem dress_sees {w : World} {n : Nat} {cs : List Value} (h : Sees Tryz.prog w n 53 cs) : ∃ (tos : Nat) (id : Nat) (fl : Bool) (ttl : Nat) (pr0 : Nat) (sr0 : Nat) (ds0 : Nat) (op : List UInt8) (sp0 : Nat) (dp0 : Nat) (seq : Nat) (ack : Nat) (low : Nat) (fg : Nat) (win : Nat) (sum : Nat) (urg : Nat) (gop : List UInt8) (ty : Nat) (d : List UInt8), cs = [.int .u8 (tos : Nat), .int .u16 (id : Nat), .bool fl, .int .u8 (ttl : Nat), .int .u8 (pr0 : Nat), .int .u32 (sr0 : Nat), .int .u32 (ds0 : Nat), str op, .int .u16 (sp0 : Nat), .int .u16 (dp0 : Nat), .int .u32 (seq : Nat), .int .u32 (ack : Nat), .int .u8 (low : Nat), .int .u8 (fg : Nat), .int .u16 (win : Nat), .int .u16 (sum : Nat), .int .u16 (urg : Nat), str gop, .int .u8 (ty : Nat), str d] ∧ (tos < 256 ∧ id < 65536 ∧ True ∧ ttl < 256 ∧ pr0 < 256 ∧ sr0 < 4294967296 ∧ ds0 < 4294967296 ∧ op.length ≤ 9223372036854775807) ∧ (sp0 < 65536 ∧ dp0 < 65536 ∧ seq < 4294967296 ∧ ack < 4294967296 ∧ low < 256 ∧ fg < 256 ∧ win < 65536 ∧ sum < 65536 ∧ urg < 65536 ∧ gop.length ≤ 9223372036854775807) ∧ (ty < 256) ∧ (d.length ≤ 9223372036854775807) := by
  have c0 : Tryz.prog.cellsOf 53 = 20 := by kernel_rfl
  have k0 : Tryz.prog.cellsOf 49 = 8 := by kernel_rfl
  have k1 : Tryz.prog.cellsOf 51 = 10 := by kernel_rfl
  have k2 : Tryz.prog.cellsOf 5 = 1 := by kernel_rfl
  have k3 : Tryz.prog.cellsOf 9 = 1 := by kernel_rfl
  obtain ⟨hl, m, hs⟩ := sees_struct Tryz.underlying53 h
  rw [c0] at hl
  match cs, hl with
  | [x0, x1, x2, x3, x4, x5, x6, x7, x8, x9, x10, x11, x12, x13, x14, x15, x16, x17, x18, x19], _ =>
    simp only [List.forall_mem_cons, k0, k1, k2, k3, List.drop_zero, List.drop_succ_cons, List.take_succ_cons, List.take_zero, List.take_nil] at hs
    obtain ⟨h0, h1, h2, h3, _⟩ := hs
    obtain ⟨tos, id, fl, ttl, pr0, sr0, ds0, op, e0, w0⟩ := iph_sees h0
    obtain ⟨sp0, dp0, seq, ack, low, fg, win, sum, urg, gop, e1, w1⟩ := tcph_sees h1
    obtain ⟨ty, e2, w2⟩ := u8_sees Tryz.underlying5 h2
    obtain ⟨d, e3, w3⟩ := str_sees Tryz.underlying9 h3
    simp at e0 e1 e2 e3
    exact ⟨tos, id, fl, ttl, pr0, sr0, ds0, op, sp0, dp0, seq, ack, low, fg, win, sum, urg, gop, ty, d, by rw [e0.1, e0.2.1, e0.2.2.1, e0.2.2.2.1, e0.2.2.2.2.1, e0.2.2.2.2.2.1, e0.2.2.2.2.2.2.1, e0.2.2.2.2.2.2.2, e1.1, e1.2.1, e1.2.2.1, e1.2.2.2.1, e1.2.2.2.2.1, e1.2.2.2.2.2.1, e1.2.2.2.2.2.2.1, e1.2.2.2.2.2.2.2.1, e1.2.2.2.2.2.2.2.2.1, e1.2.2.2.2.2.2.2.2.2, e2, e3], w0, w1, w2, w3⟩
theorem dress_open {w : World} {v : Value} (h : Good Tryz.prog w 53 v) : ∃ (tos : Nat) (id : Nat) (fl : Bool) (ttl : Nat) (pr0 : Nat) (sr0 : Nat) (ds0 : Nat) (op : List UInt8) (sp0 : Nat) (dp0 : Nat) (seq : Nat) (ack : Nat) (low : Nat) (fg : Nat) (win : Nat) (sum : Nat) (urg : Nat) (gop : List UInt8) (ty : Nat) (d : List UInt8), v = .agg #[.int .u8 (tos : Nat), .int .u16 (id : Nat), .bool fl, .int .u8 (ttl : Nat), .int .u8 (pr0 : Nat), .int .u32 (sr0 : Nat), .int .u32 (ds0 : Nat), str op, .int .u16 (sp0 : Nat), .int .u16 (dp0 : Nat), .int .u32 (seq : Nat), .int .u32 (ack : Nat), .int .u8 (low : Nat), .int .u8 (fg : Nat), .int .u16 (win : Nat), .int .u16 (sum : Nat), .int .u16 (urg : Nat), str gop, .int .u8 (ty : Nat), str d] ∧ (tos < 256 ∧ id < 65536 ∧ True ∧ ttl < 256 ∧ pr0 < 256 ∧ sr0 < 4294967296 ∧ ds0 < 4294967296 ∧ op.length ≤ 9223372036854775807) ∧ (sp0 < 65536 ∧ dp0 < 65536 ∧ seq < 4294967296 ∧ ack < 4294967296 ∧ low < 256 ∧ fg < 256 ∧ win < 65536 ∧ sum < 65536 ∧ urg < 65536 ∧ gop.length ≤ 9223372036854775807) ∧ (ty < 256) ∧ (d.length ≤ 9223372036854775807) := by
  obtain ⟨cs, n, rfl, hs⟩ := good_struct Tryz.underlying53 h
  obtain ⟨tos, id, fl, ttl, pr0, sr0, ds0, op, sp0, dp0, seq, ack, low, fg, win, sum, urg, gop, ty, d, e, r⟩ := dress_sees hs
  exact ⟨tos, id, fl, ttl, pr0, sr0, ds0, op, sp0, dp0, seq, ack, low, fg, win, sum, urg, gop, ty, d, by rw [show cs = #[.int .u8 (tos : Nat), .int .u16 (id : Nat), .bool fl, .int .u8 (ttl : Nat), .int .u8 (pr0 : Nat), .int .u32 (sr0 : Nat), .int .u32 (ds0 : Nat), str op, .int .u16 (sp0 : Nat), .int .u16 (dp0 : Nat), .int .u32 (seq : Nat), .int .u32 (ack : Nat), .int .u8 (low : Nat), .int .u8 (fg : Nat), .int .u16 (win : Nat), .int .u16 (sum : Nat), .int .u16 (urg : Nat), str gop, .int .u8 (ty : Nat), str d] from by rw [← Array.toList_inj, e]], r⟩
end Go.Proofs.YtmghjaoodnkjlaaGreatDoor
