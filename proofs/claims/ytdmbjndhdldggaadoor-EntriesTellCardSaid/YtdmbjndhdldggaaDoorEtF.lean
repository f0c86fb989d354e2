/- Touch where it may not be; the document's Touch (written by gentouch.py). -/
import Derived.Test.YtdmbjndhdldggaaDoorEtE
namespace Go.Proofs.YtdmbjndhdldggaaDoor
set_option linter.unusedVariables false
set_option linter.unusedSimpArgs false
open Go.RowKit Go.Lib Go.Sort

theorem op_append_at {P : Program} {w : World} {o : Oper} {a : Act} {K : Act → World → Prop} {Q : Exit → Act → World → Prop} (s x : Operand) (t : TypeId)
    (ho : o.op = .call { callee := .builtin .append, args := #[s, x], argTypes := #[t, t] })
    (base : Nat) (e : TypeId) (z : Value) (size : Nat) (ht : P.underlying t = some (.slice e)) (hi : ∃ i, P.info? e = some i ∧ i.zero = some z ∧ i.size = size ∧ i.bytes ≤ 65536)
    (hzs : z.cells.size = size) (hsz : 0 < size) (v : Value) (n : Nat) (xs : List Value) (hs : a.eval s = v) (hown : w.ownsRow base e size v n xs)
    (ad : Addr) (m c : Nat) (news : List Value) (hx : a.eval x = .slice (some ad) m c) (hl : news.length = m * size) (hnews : ∀ j u, news[j]? = some u → w.cell? (ad.add j) = some u) (h1 : ∀ u ∈ news, u.oneCell' = true)
    (hn : n + m ≤ 1048576) (hbase : base ≤ w.heap.size)
    (h : ∀ v' w', w'.ownsRow base e size v' (n + m) (xs ++ news) → w.grownBy w' v.ownBlock → (v' = .slice none 0 0 ↔ v = .slice none 0 0 ∧ m = 0) → K (a.put o.dst v') w') : Oper.wp P o a w K Q := by
  obtain ⟨i, hi, hz, rfl, hb⟩ := hi
  obtain ⟨v', w', hr, h2, h3, h4⟩ := run_append_own (P := P) w base t o.type e i z i.size i.bytes ht hi hz rfl rfl hzs hsz v n xs hown ad m c news hl hnews h1 (by unfold maxLen; omega) (by have := Nat.mul_le_mul hn hb; omega) hbase
  unfold Oper.wp execOp
  simp only [ho, resolve, invoke, builtin, Sem.run_bind, Sem.run_pure, Result.andThen_ok, List.map_toArray, List.map_cons, List.map_nil, hs, hx, hr]
  exact h v' w' h2 h3 h4

def rholdZ : Value := .agg #[.int .u32 0, .int .u16 0, .int .u32 0, .int .u16 0]
theorem infoRHold : ∃ i, Tryd.prog.info? 82 = some i ∧ i.zero = some rholdZ ∧ i.size = 4 ∧ i.bytes ≤ 65536 := by
  have h : ((Tryd.prog.info? 82).map fun i => (i.zero, i.size, decide (i.bytes ≤ 65536))) = some (some rholdZ, 4, true) := by kernel_rfl
  rcases hi : Tryd.prog.info? 82 with _ | i
  · simp [hi] at h
  · simp [hi] at h
    exact ⟨i, rfl, h.1, h.2.1, h.2.2⟩
/-- The holds' cells, wherever they stand. -/
def HoldsIn (w : World) (ad : Option Addr) (n : Nat) (ys : List Value) : Prop := 0 < n → ∃ hb ho, ad = some ⟨hb, ho, none⟩ ∧ Holds w hb ho n ys
theorem HoldsIn.low {w w' : World} {ad : Option Addr} {n : Nat} {ys : List Value} (h : HoldsIn w ad n ys) (hf : NoW w w') : HoldsIn w' ad n ys := fun hn => by
  obtain ⟨hb, ho, e, hh⟩ := h hn
  exact ⟨hb, ho, e, hh.low hf⟩

set_option maxHeartbeats 4000000 in
set_option maxRecDepth 100000 in
theorem touch_bad (r a p b q r2 a2 p2 b2 q2 : Nat) (st dl : Int) (ad : Option Addr) (n c : Nat) (bk : Bool) (fl now : Int) (w : World) (ht : Tb w) 
    (k0 : ∀ W, Tb W → Calls Tryd.prog 19 #[.agg #[.int .u8 r, .int .u32 a, .int .u16 p, .int .u32 b, .int .u16 q, .int .u8 r2, .int .u32 a2, .int .u16 p2, .int .u32 b2, .int .u16 q2, .int .i64 st, .int .i64 dl, .slice ad n c]] W (Ret1 (.int .i64 2) W)) :
    Calls Tryd.prog 21 #[.agg #[.int .u8 r, .int .u32 a, .int .u16 p, .int .u32 b, .int .u16 q, .int .u8 r2, .int .u32 a2, .int .u16 p2, .int .u32 b2, .int .u16 q2, .int .i64 st, .int .i64 dl, .slice ad n c], .bool bk, .int .u8 fl, .int .i64 now] w (Ret1 (.tuple #[.agg #[.int .u8 0, .int .u32 0, .int .u16 0, .int .u32 0, .int .u16 0, .int .u8 0, .int .u32 0, .int .u16 0, .int .u32 0, .int .u16 0, .int .i64 0, .int .i64 0, .slice none 0 0], .int .i64 2]) w) := by
  have Ht := Lib.hid ht
  have K0 := Lib.hid k0
  clear ht k0
  go_enter Tryd.func21, Tryd.ntmps21
  go_wp2_with fail
  have hw0 : NoW w ((w.alloc (.cells #[.int .u8 r, .int .u32 a, .int .u16 p, .int .u32 b, .int .u16 q, .int .u8 r2, .int .u32 a2, .int .u16 p2, .int .u32 b2, .int .u16 q2, .int .i64 st, .int .i64 dl, .slice ad n c] 31)).alloc (.cells #[.int .u8 0, .int .u32 0, .int .u16 0, .int .u32 0, .int .u16 0, .int .u8 0, .int .u32 0, .int .u16 0, .int .u32 0, .int .u16 0, .int .i64 0, .int .i64 0, .slice none 0 0] 31)) := ((Fp.refl _ _).alloc _).alloc _
  obtain ⟨hc0, hr0⟩ := box2 w (.cells #[.int .u8 r, .int .u32 a, .int .u16 p, .int .u32 b, .int .u16 q, .int .u8 r2, .int .u32 a2, .int .u16 p2, .int .u32 b2, .int .u16 q2, .int .i64 st, .int .i64 dl, .slice ad n c] 31) (.cells #[.int .u8 0, .int .u32 0, .int .u16 0, .int .u32 0, .int .u16 0, .int .u8 0, .int .u32 0, .int .u16 0, .int .u32 0, .int .u16 0, .int .i64 0, .int .i64 0, .slice none 0 0] 31)
  generalize (w.alloc (.cells #[.int .u8 r, .int .u32 a, .int .u16 p, .int .u32 b, .int .u16 q, .int .u8 r2, .int .u32 a2, .int .u16 p2, .int .u32 b2, .int .u16 q2, .int .i64 st, .int .i64 dl, .slice ad n c] 31)).alloc (.cells #[.int .u8 0, .int .u32 0, .int .u16 0, .int .u32 0, .int .u16 0, .int .u8 0, .int .u32 0, .int .u16 0, .int .u32 0, .int .u16 0, .int .i64 0, .int .i64 0, .slice none 0 0] 31) = w0 at *
  have hge : w.heap.size ≤ w.heap.size + 1 := Nat.le_succ _
  have hne : ¬ w.heap.size = w.heap.size + 1 := by omega
  have Bc := Lib.hid hc0
  have By := Lib.hid hr0
  have Hw := Lib.hid hw0
  clear hc0 hr0 hw0
  generalize w.heap.size + 1 = g2 at *
  have Hge := Lib.hid hge
  obtain ⟨g, hg⟩ : ∃ g, g = w.heap.size := ⟨_, rfl⟩
  have Hg := Lib.hid hg
  rw [← hg] at hne Bc ⊢
  clear hg hge
  refine (K0.out _ (Ht.out.low Hw.out)).mono ?_
  rintro e v0 ⟨rfl, hp⟩
  have Hm0 := Lib.hid (Hw.out.trans hp (fun _ _ h => h))
  have hb0 := (hp.block _ (Array.getElem?_eq_some_iff.1 Bc.out).1 id).trans Bc.out
  clear Bc
  have Bc := Lib.hid hb0
  clear hb0
  have hb0 := (hp.block _ (Array.getElem?_eq_some_iff.1 By.out).1 id).trans By.out
  clear By
  have By := Lib.hid hb0
  clear hb0
  clear hp Hw
  have y0 : v0.cell? ⟨g2, 0, none⟩ = some (.int .u8 0) := by simp [World.cell?, By.out]
  have zy0 : v0.frozen? ⟨g2, 0, none⟩ = false := by simp [World.frozen?, By.out]
  have y1 : v0.cell? ⟨g2, 1, none⟩ = some (.int .u32 0) := by simp [World.cell?, By.out]
  have zy1 : v0.frozen? ⟨g2, 1, none⟩ = false := by simp [World.frozen?, By.out]
  have y2 : v0.cell? ⟨g2, 2, none⟩ = some (.int .u16 0) := by simp [World.cell?, By.out]
  have zy2 : v0.frozen? ⟨g2, 2, none⟩ = false := by simp [World.frozen?, By.out]
  have y3 : v0.cell? ⟨g2, 3, none⟩ = some (.int .u32 0) := by simp [World.cell?, By.out]
  have zy3 : v0.frozen? ⟨g2, 3, none⟩ = false := by simp [World.frozen?, By.out]
  have y4 : v0.cell? ⟨g2, 4, none⟩ = some (.int .u16 0) := by simp [World.cell?, By.out]
  have zy4 : v0.frozen? ⟨g2, 4, none⟩ = false := by simp [World.frozen?, By.out]
  have y5 : v0.cell? ⟨g2, 5, none⟩ = some (.int .u8 0) := by simp [World.cell?, By.out]
  have zy5 : v0.frozen? ⟨g2, 5, none⟩ = false := by simp [World.frozen?, By.out]
  have y6 : v0.cell? ⟨g2, 6, none⟩ = some (.int .u32 0) := by simp [World.cell?, By.out]
  have zy6 : v0.frozen? ⟨g2, 6, none⟩ = false := by simp [World.frozen?, By.out]
  have y7 : v0.cell? ⟨g2, 7, none⟩ = some (.int .u16 0) := by simp [World.cell?, By.out]
  have zy7 : v0.frozen? ⟨g2, 7, none⟩ = false := by simp [World.frozen?, By.out]
  have y8 : v0.cell? ⟨g2, 8, none⟩ = some (.int .u32 0) := by simp [World.cell?, By.out]
  have zy8 : v0.frozen? ⟨g2, 8, none⟩ = false := by simp [World.frozen?, By.out]
  have y9 : v0.cell? ⟨g2, 9, none⟩ = some (.int .u16 0) := by simp [World.cell?, By.out]
  have zy9 : v0.frozen? ⟨g2, 9, none⟩ = false := by simp [World.frozen?, By.out]
  have y10 : v0.cell? ⟨g2, 10, none⟩ = some (.int .i64 0) := by simp [World.cell?, By.out]
  have zy10 : v0.frozen? ⟨g2, 10, none⟩ = false := by simp [World.frozen?, By.out]
  have y11 : v0.cell? ⟨g2, 11, none⟩ = some (.int .i64 0) := by simp [World.cell?, By.out]
  have zy11 : v0.frozen? ⟨g2, 11, none⟩ = false := by simp [World.frozen?, By.out]
  have y12 : v0.cell? ⟨g2, 12, none⟩ = some (.slice none 0 0) := by simp [World.cell?, By.out]
  have zy12 : v0.frozen? ⟨g2, 12, none⟩ = false := by simp [World.frozen?, By.out]
  go_wp2_with fail
  obtain ⟨W, hW, hb2, hf2⟩ := set13 v0 g2 31 (.int .u8 0) (.int .u32 0) (.int .u16 0) (.int .u32 0) (.int .u16 0) (.int .u8 0) (.int .u32 0) (.int .u16 0) (.int .u32 0) (.int .u16 0) (.int .i64 0) (.int .i64 0) (.slice none 0 0) By.out (.int .u8 0) (.int .u32 0) (.int .u16 0) (.int .u32 0) (.int .u16 0) (.int .u8 0) (.int .u32 0) (.int .u16 0) (.int .u32 0) (.int .u16 0) (.int .i64 0) (.int .i64 0) (.slice none 0 0)
  rw [← hW]
  have Hf2 := Lib.hid hf2
  clear hW hf2
  clear y0 zy0 y1 zy1 y2 zy2 y3 zy3 y4 zy4 y5 zy5 y6 zy6 y7 zy7 y8 zy8 y9 zy9 y10 zy10 y11 zy11 y12 zy12
  have y0 : W.cell? ⟨g2, 0, none⟩ = some (.int .u8 0) := by simp [World.cell?, (Lib.hid hb2).out]
  have y1 : W.cell? ⟨g2, 1, none⟩ = some (.int .u32 0) := by simp [World.cell?, (Lib.hid hb2).out]
  have y2 : W.cell? ⟨g2, 2, none⟩ = some (.int .u16 0) := by simp [World.cell?, (Lib.hid hb2).out]
  have y3 : W.cell? ⟨g2, 3, none⟩ = some (.int .u32 0) := by simp [World.cell?, (Lib.hid hb2).out]
  have y4 : W.cell? ⟨g2, 4, none⟩ = some (.int .u16 0) := by simp [World.cell?, (Lib.hid hb2).out]
  have y5 : W.cell? ⟨g2, 5, none⟩ = some (.int .u8 0) := by simp [World.cell?, (Lib.hid hb2).out]
  have y6 : W.cell? ⟨g2, 6, none⟩ = some (.int .u32 0) := by simp [World.cell?, (Lib.hid hb2).out]
  have y7 : W.cell? ⟨g2, 7, none⟩ = some (.int .u16 0) := by simp [World.cell?, (Lib.hid hb2).out]
  have y8 : W.cell? ⟨g2, 8, none⟩ = some (.int .u32 0) := by simp [World.cell?, (Lib.hid hb2).out]
  have y9 : W.cell? ⟨g2, 9, none⟩ = some (.int .u16 0) := by simp [World.cell?, (Lib.hid hb2).out]
  have y10 : W.cell? ⟨g2, 10, none⟩ = some (.int .i64 0) := by simp [World.cell?, (Lib.hid hb2).out]
  have y11 : W.cell? ⟨g2, 11, none⟩ = some (.int .i64 0) := by simp [World.cell?, (Lib.hid hb2).out]
  have y12 : W.cell? ⟨g2, 12, none⟩ = some (.slice none 0 0) := by simp [World.cell?, (Lib.hid hb2).out]
  refine bodyPost_ret (v := .tuple #[.agg #[.int .u8 0, .int .u32 0, .int .u16 0, .int .u32 0, .int .u16 0, .int .u8 0, .int .u32 0, .int .u16 0, .int .u32 0, .int .u16 0, .int .i64 0, .int .i64 0, .slice none 0 0], .int .i64 2]) (by simp only [results, Tryd.results21]; go_simp) rfl ⟨rfl, ?_⟩
  exact Hm0.out.trans Hf2.out (fun i hi e => by have h1 := Hge.out; omega)

set_option maxHeartbeats 4000000 in
set_option maxRecDepth 100000 in
theorem touch_low (r a p b q r2 a2 p2 b2 q2 : Nat) (st dl : Int) (ad : Option Addr) (n c : Nat) (bk : Bool) (fl now : Int) (w : World) (ht : Tb w) (hn : decide (now < 0) = true)
    (k0 : ∀ W, Tb W → Calls Tryd.prog 19 #[.agg #[.int .u8 r, .int .u32 a, .int .u16 p, .int .u32 b, .int .u16 q, .int .u8 r2, .int .u32 a2, .int .u16 p2, .int .u32 b2, .int .u16 q2, .int .i64 st, .int .i64 dl, .slice ad n c]] W (Ret1 (.int .i64 0) W)) :
    Calls Tryd.prog 21 #[.agg #[.int .u8 r, .int .u32 a, .int .u16 p, .int .u32 b, .int .u16 q, .int .u8 r2, .int .u32 a2, .int .u16 p2, .int .u32 b2, .int .u16 q2, .int .i64 st, .int .i64 dl, .slice ad n c], .bool bk, .int .u8 fl, .int .i64 now] w (Ret1 (.tuple #[.agg #[.int .u8 0, .int .u32 0, .int .u16 0, .int .u32 0, .int .u16 0, .int .u8 0, .int .u32 0, .int .u16 0, .int .u32 0, .int .u16 0, .int .i64 0, .int .i64 0, .slice none 0 0], .int .i64 2]) w) := by
  have Ht := Lib.hid ht
  have K0 := Lib.hid k0
  clear ht k0
  go_enter Tryd.func21, Tryd.ntmps21
  go_wp2_with fail
  have hw0 : NoW w ((w.alloc (.cells #[.int .u8 r, .int .u32 a, .int .u16 p, .int .u32 b, .int .u16 q, .int .u8 r2, .int .u32 a2, .int .u16 p2, .int .u32 b2, .int .u16 q2, .int .i64 st, .int .i64 dl, .slice ad n c] 31)).alloc (.cells #[.int .u8 0, .int .u32 0, .int .u16 0, .int .u32 0, .int .u16 0, .int .u8 0, .int .u32 0, .int .u16 0, .int .u32 0, .int .u16 0, .int .i64 0, .int .i64 0, .slice none 0 0] 31)) := ((Fp.refl _ _).alloc _).alloc _
  obtain ⟨hc0, hr0⟩ := box2 w (.cells #[.int .u8 r, .int .u32 a, .int .u16 p, .int .u32 b, .int .u16 q, .int .u8 r2, .int .u32 a2, .int .u16 p2, .int .u32 b2, .int .u16 q2, .int .i64 st, .int .i64 dl, .slice ad n c] 31) (.cells #[.int .u8 0, .int .u32 0, .int .u16 0, .int .u32 0, .int .u16 0, .int .u8 0, .int .u32 0, .int .u16 0, .int .u32 0, .int .u16 0, .int .i64 0, .int .i64 0, .slice none 0 0] 31)
  generalize (w.alloc (.cells #[.int .u8 r, .int .u32 a, .int .u16 p, .int .u32 b, .int .u16 q, .int .u8 r2, .int .u32 a2, .int .u16 p2, .int .u32 b2, .int .u16 q2, .int .i64 st, .int .i64 dl, .slice ad n c] 31)).alloc (.cells #[.int .u8 0, .int .u32 0, .int .u16 0, .int .u32 0, .int .u16 0, .int .u8 0, .int .u32 0, .int .u16 0, .int .u32 0, .int .u16 0, .int .i64 0, .int .i64 0, .slice none 0 0] 31) = w0 at *
  have hge : w.heap.size ≤ w.heap.size + 1 := Nat.le_succ _
  have hne : ¬ w.heap.size = w.heap.size + 1 := by omega
  have Bc := Lib.hid hc0
  have By := Lib.hid hr0
  have Hw := Lib.hid hw0
  clear hc0 hr0 hw0
  generalize w.heap.size + 1 = g2 at *
  have Hge := Lib.hid hge
  obtain ⟨g, hg⟩ : ∃ g, g = w.heap.size := ⟨_, rfl⟩
  have Hg := Lib.hid hg
  rw [← hg] at hne Bc ⊢
  clear hg hge
  refine (K0.out _ (Ht.out.low Hw.out)).mono ?_
  rintro e v0 ⟨rfl, hp⟩
  have Hm0 := Lib.hid (Hw.out.trans hp (fun _ _ h => h))
  have hb0 := (hp.block _ (Array.getElem?_eq_some_iff.1 Bc.out).1 id).trans Bc.out
  clear Bc
  have Bc := Lib.hid hb0
  clear hb0
  have hb0 := (hp.block _ (Array.getElem?_eq_some_iff.1 By.out).1 id).trans By.out
  clear By
  have By := Lib.hid hb0
  clear hb0
  clear hp Hw
  have y0 : v0.cell? ⟨g2, 0, none⟩ = some (.int .u8 0) := by simp [World.cell?, By.out]
  have zy0 : v0.frozen? ⟨g2, 0, none⟩ = false := by simp [World.frozen?, By.out]
  have y1 : v0.cell? ⟨g2, 1, none⟩ = some (.int .u32 0) := by simp [World.cell?, By.out]
  have zy1 : v0.frozen? ⟨g2, 1, none⟩ = false := by simp [World.frozen?, By.out]
  have y2 : v0.cell? ⟨g2, 2, none⟩ = some (.int .u16 0) := by simp [World.cell?, By.out]
  have zy2 : v0.frozen? ⟨g2, 2, none⟩ = false := by simp [World.frozen?, By.out]
  have y3 : v0.cell? ⟨g2, 3, none⟩ = some (.int .u32 0) := by simp [World.cell?, By.out]
  have zy3 : v0.frozen? ⟨g2, 3, none⟩ = false := by simp [World.frozen?, By.out]
  have y4 : v0.cell? ⟨g2, 4, none⟩ = some (.int .u16 0) := by simp [World.cell?, By.out]
  have zy4 : v0.frozen? ⟨g2, 4, none⟩ = false := by simp [World.frozen?, By.out]
  have y5 : v0.cell? ⟨g2, 5, none⟩ = some (.int .u8 0) := by simp [World.cell?, By.out]
  have zy5 : v0.frozen? ⟨g2, 5, none⟩ = false := by simp [World.frozen?, By.out]
  have y6 : v0.cell? ⟨g2, 6, none⟩ = some (.int .u32 0) := by simp [World.cell?, By.out]
  have zy6 : v0.frozen? ⟨g2, 6, none⟩ = false := by simp [World.frozen?, By.out]
  have y7 : v0.cell? ⟨g2, 7, none⟩ = some (.int .u16 0) := by simp [World.cell?, By.out]
  have zy7 : v0.frozen? ⟨g2, 7, none⟩ = false := by simp [World.frozen?, By.out]
  have y8 : v0.cell? ⟨g2, 8, none⟩ = some (.int .u32 0) := by simp [World.cell?, By.out]
  have zy8 : v0.frozen? ⟨g2, 8, none⟩ = false := by simp [World.frozen?, By.out]
  have y9 : v0.cell? ⟨g2, 9, none⟩ = some (.int .u16 0) := by simp [World.cell?, By.out]
  have zy9 : v0.frozen? ⟨g2, 9, none⟩ = false := by simp [World.frozen?, By.out]
  have y10 : v0.cell? ⟨g2, 10, none⟩ = some (.int .i64 0) := by simp [World.cell?, By.out]
  have zy10 : v0.frozen? ⟨g2, 10, none⟩ = false := by simp [World.frozen?, By.out]
  have y11 : v0.cell? ⟨g2, 11, none⟩ = some (.int .i64 0) := by simp [World.cell?, By.out]
  have zy11 : v0.frozen? ⟨g2, 11, none⟩ = false := by simp [World.frozen?, By.out]
  have y12 : v0.cell? ⟨g2, 12, none⟩ = some (.slice none 0 0) := by simp [World.cell?, By.out]
  have zy12 : v0.frozen? ⟨g2, 12, none⟩ = false := by simp [World.frozen?, By.out]
  go_wp2_with fail
  obtain ⟨W, hW, hb2, hf2⟩ := set13 v0 g2 31 (.int .u8 0) (.int .u32 0) (.int .u16 0) (.int .u32 0) (.int .u16 0) (.int .u8 0) (.int .u32 0) (.int .u16 0) (.int .u32 0) (.int .u16 0) (.int .i64 0) (.int .i64 0) (.slice none 0 0) By.out (.int .u8 0) (.int .u32 0) (.int .u16 0) (.int .u32 0) (.int .u16 0) (.int .u8 0) (.int .u32 0) (.int .u16 0) (.int .u32 0) (.int .u16 0) (.int .i64 0) (.int .i64 0) (.slice none 0 0)
  rw [← hW]
  have Hf2 := Lib.hid hf2
  clear hW hf2
  clear y0 zy0 y1 zy1 y2 zy2 y3 zy3 y4 zy4 y5 zy5 y6 zy6 y7 zy7 y8 zy8 y9 zy9 y10 zy10 y11 zy11 y12 zy12
  have y0 : W.cell? ⟨g2, 0, none⟩ = some (.int .u8 0) := by simp [World.cell?, (Lib.hid hb2).out]
  have y1 : W.cell? ⟨g2, 1, none⟩ = some (.int .u32 0) := by simp [World.cell?, (Lib.hid hb2).out]
  have y2 : W.cell? ⟨g2, 2, none⟩ = some (.int .u16 0) := by simp [World.cell?, (Lib.hid hb2).out]
  have y3 : W.cell? ⟨g2, 3, none⟩ = some (.int .u32 0) := by simp [World.cell?, (Lib.hid hb2).out]
  have y4 : W.cell? ⟨g2, 4, none⟩ = some (.int .u16 0) := by simp [World.cell?, (Lib.hid hb2).out]
  have y5 : W.cell? ⟨g2, 5, none⟩ = some (.int .u8 0) := by simp [World.cell?, (Lib.hid hb2).out]
  have y6 : W.cell? ⟨g2, 6, none⟩ = some (.int .u32 0) := by simp [World.cell?, (Lib.hid hb2).out]
  have y7 : W.cell? ⟨g2, 7, none⟩ = some (.int .u16 0) := by simp [World.cell?, (Lib.hid hb2).out]
  have y8 : W.cell? ⟨g2, 8, none⟩ = some (.int .u32 0) := by simp [World.cell?, (Lib.hid hb2).out]
  have y9 : W.cell? ⟨g2, 9, none⟩ = some (.int .u16 0) := by simp [World.cell?, (Lib.hid hb2).out]
  have y10 : W.cell? ⟨g2, 10, none⟩ = some (.int .i64 0) := by simp [World.cell?, (Lib.hid hb2).out]
  have y11 : W.cell? ⟨g2, 11, none⟩ = some (.int .i64 0) := by simp [World.cell?, (Lib.hid hb2).out]
  have y12 : W.cell? ⟨g2, 12, none⟩ = some (.slice none 0 0) := by simp [World.cell?, (Lib.hid hb2).out]
  refine bodyPost_ret (v := .tuple #[.agg #[.int .u8 0, .int .u32 0, .int .u16 0, .int .u32 0, .int .u16 0, .int .u8 0, .int .u32 0, .int .u16 0, .int .u32 0, .int .u16 0, .int .i64 0, .int .i64 0, .slice none 0 0], .int .i64 2]) (by simp only [results, Tryd.results21]; go_simp) rfl ⟨rfl, ?_⟩
  exact Hm0.out.trans Hf2.out (fun i hi e => by have h1 := Hge.out; omega)

set_option maxHeartbeats 4000000 in
set_option maxRecDepth 100000 in
theorem touch_high (r a p b q r2 a2 p2 b2 q2 : Nat) (st dl : Int) (ad : Option Addr) (n c : Nat) (bk : Bool) (fl now : Int) (w : World) (ht : Tb w) (hn : decide (now < 0) = false) (hn2 : decide (1099511627776 < now) = true)
    (k0 : ∀ W, Tb W → Calls Tryd.prog 19 #[.agg #[.int .u8 r, .int .u32 a, .int .u16 p, .int .u32 b, .int .u16 q, .int .u8 r2, .int .u32 a2, .int .u16 p2, .int .u32 b2, .int .u16 q2, .int .i64 st, .int .i64 dl, .slice ad n c]] W (Ret1 (.int .i64 0) W)) :
    Calls Tryd.prog 21 #[.agg #[.int .u8 r, .int .u32 a, .int .u16 p, .int .u32 b, .int .u16 q, .int .u8 r2, .int .u32 a2, .int .u16 p2, .int .u32 b2, .int .u16 q2, .int .i64 st, .int .i64 dl, .slice ad n c], .bool bk, .int .u8 fl, .int .i64 now] w (Ret1 (.tuple #[.agg #[.int .u8 0, .int .u32 0, .int .u16 0, .int .u32 0, .int .u16 0, .int .u8 0, .int .u32 0, .int .u16 0, .int .u32 0, .int .u16 0, .int .i64 0, .int .i64 0, .slice none 0 0], .int .i64 2]) w) := by
  have Ht := Lib.hid ht
  have K0 := Lib.hid k0
  clear ht k0
  go_enter Tryd.func21, Tryd.ntmps21
  go_wp2_with fail
  have hw0 : NoW w ((w.alloc (.cells #[.int .u8 r, .int .u32 a, .int .u16 p, .int .u32 b, .int .u16 q, .int .u8 r2, .int .u32 a2, .int .u16 p2, .int .u32 b2, .int .u16 q2, .int .i64 st, .int .i64 dl, .slice ad n c] 31)).alloc (.cells #[.int .u8 0, .int .u32 0, .int .u16 0, .int .u32 0, .int .u16 0, .int .u8 0, .int .u32 0, .int .u16 0, .int .u32 0, .int .u16 0, .int .i64 0, .int .i64 0, .slice none 0 0] 31)) := ((Fp.refl _ _).alloc _).alloc _
  obtain ⟨hc0, hr0⟩ := box2 w (.cells #[.int .u8 r, .int .u32 a, .int .u16 p, .int .u32 b, .int .u16 q, .int .u8 r2, .int .u32 a2, .int .u16 p2, .int .u32 b2, .int .u16 q2, .int .i64 st, .int .i64 dl, .slice ad n c] 31) (.cells #[.int .u8 0, .int .u32 0, .int .u16 0, .int .u32 0, .int .u16 0, .int .u8 0, .int .u32 0, .int .u16 0, .int .u32 0, .int .u16 0, .int .i64 0, .int .i64 0, .slice none 0 0] 31)
  generalize (w.alloc (.cells #[.int .u8 r, .int .u32 a, .int .u16 p, .int .u32 b, .int .u16 q, .int .u8 r2, .int .u32 a2, .int .u16 p2, .int .u32 b2, .int .u16 q2, .int .i64 st, .int .i64 dl, .slice ad n c] 31)).alloc (.cells #[.int .u8 0, .int .u32 0, .int .u16 0, .int .u32 0, .int .u16 0, .int .u8 0, .int .u32 0, .int .u16 0, .int .u32 0, .int .u16 0, .int .i64 0, .int .i64 0, .slice none 0 0] 31) = w0 at *
  have hge : w.heap.size ≤ w.heap.size + 1 := Nat.le_succ _
  have hne : ¬ w.heap.size = w.heap.size + 1 := by omega
  have Bc := Lib.hid hc0
  have By := Lib.hid hr0
  have Hw := Lib.hid hw0
  clear hc0 hr0 hw0
  generalize w.heap.size + 1 = g2 at *
  have Hge := Lib.hid hge
  obtain ⟨g, hg⟩ : ∃ g, g = w.heap.size := ⟨_, rfl⟩
  have Hg := Lib.hid hg
  rw [← hg] at hne Bc ⊢
  clear hg hge
  refine (K0.out _ (Ht.out.low Hw.out)).mono ?_
  rintro e v0 ⟨rfl, hp⟩
  have Hm0 := Lib.hid (Hw.out.trans hp (fun _ _ h => h))
  have hb0 := (hp.block _ (Array.getElem?_eq_some_iff.1 Bc.out).1 id).trans Bc.out
  clear Bc
  have Bc := Lib.hid hb0
  clear hb0
  have hb0 := (hp.block _ (Array.getElem?_eq_some_iff.1 By.out).1 id).trans By.out
  clear By
  have By := Lib.hid hb0
  clear hb0
  clear hp Hw
  have y0 : v0.cell? ⟨g2, 0, none⟩ = some (.int .u8 0) := by simp [World.cell?, By.out]
  have zy0 : v0.frozen? ⟨g2, 0, none⟩ = false := by simp [World.frozen?, By.out]
  have y1 : v0.cell? ⟨g2, 1, none⟩ = some (.int .u32 0) := by simp [World.cell?, By.out]
  have zy1 : v0.frozen? ⟨g2, 1, none⟩ = false := by simp [World.frozen?, By.out]
  have y2 : v0.cell? ⟨g2, 2, none⟩ = some (.int .u16 0) := by simp [World.cell?, By.out]
  have zy2 : v0.frozen? ⟨g2, 2, none⟩ = false := by simp [World.frozen?, By.out]
  have y3 : v0.cell? ⟨g2, 3, none⟩ = some (.int .u32 0) := by simp [World.cell?, By.out]
  have zy3 : v0.frozen? ⟨g2, 3, none⟩ = false := by simp [World.frozen?, By.out]
  have y4 : v0.cell? ⟨g2, 4, none⟩ = some (.int .u16 0) := by simp [World.cell?, By.out]
  have zy4 : v0.frozen? ⟨g2, 4, none⟩ = false := by simp [World.frozen?, By.out]
  have y5 : v0.cell? ⟨g2, 5, none⟩ = some (.int .u8 0) := by simp [World.cell?, By.out]
  have zy5 : v0.frozen? ⟨g2, 5, none⟩ = false := by simp [World.frozen?, By.out]
  have y6 : v0.cell? ⟨g2, 6, none⟩ = some (.int .u32 0) := by simp [World.cell?, By.out]
  have zy6 : v0.frozen? ⟨g2, 6, none⟩ = false := by simp [World.frozen?, By.out]
  have y7 : v0.cell? ⟨g2, 7, none⟩ = some (.int .u16 0) := by simp [World.cell?, By.out]
  have zy7 : v0.frozen? ⟨g2, 7, none⟩ = false := by simp [World.frozen?, By.out]
  have y8 : v0.cell? ⟨g2, 8, none⟩ = some (.int .u32 0) := by simp [World.cell?, By.out]
  have zy8 : v0.frozen? ⟨g2, 8, none⟩ = false := by simp [World.frozen?, By.out]
  have y9 : v0.cell? ⟨g2, 9, none⟩ = some (.int .u16 0) := by simp [World.cell?, By.out]
  have zy9 : v0.frozen? ⟨g2, 9, none⟩ = false := by simp [World.frozen?, By.out]
  have y10 : v0.cell? ⟨g2, 10, none⟩ = some (.int .i64 0) := by simp [World.cell?, By.out]
  have zy10 : v0.frozen? ⟨g2, 10, none⟩ = false := by simp [World.frozen?, By.out]
  have y11 : v0.cell? ⟨g2, 11, none⟩ = some (.int .i64 0) := by simp [World.cell?, By.out]
  have zy11 : v0.frozen? ⟨g2, 11, none⟩ = false := by simp [World.frozen?, By.out]
  have y12 : v0.cell? ⟨g2, 12, none⟩ = some (.slice none 0 0) := by simp [World.cell?, By.out]
  have zy12 : v0.frozen? ⟨g2, 12, none⟩ = false := by simp [World.frozen?, By.out]
  go_wp2_with fail
  obtain ⟨W, hW, hb2, hf2⟩ := set13 v0 g2 31 (.int .u8 0) (.int .u32 0) (.int .u16 0) (.int .u32 0) (.int .u16 0) (.int .u8 0) (.int .u32 0) (.int .u16 0) (.int .u32 0) (.int .u16 0) (.int .i64 0) (.int .i64 0) (.slice none 0 0) By.out (.int .u8 0) (.int .u32 0) (.int .u16 0) (.int .u32 0) (.int .u16 0) (.int .u8 0) (.int .u32 0) (.int .u16 0) (.int .u32 0) (.int .u16 0) (.int .i64 0) (.int .i64 0) (.slice none 0 0)
  rw [← hW]
  have Hf2 := Lib.hid hf2
  clear hW hf2
  clear y0 zy0 y1 zy1 y2 zy2 y3 zy3 y4 zy4 y5 zy5 y6 zy6 y7 zy7 y8 zy8 y9 zy9 y10 zy10 y11 zy11 y12 zy12
  have y0 : W.cell? ⟨g2, 0, none⟩ = some (.int .u8 0) := by simp [World.cell?, (Lib.hid hb2).out]
  have y1 : W.cell? ⟨g2, 1, none⟩ = some (.int .u32 0) := by simp [World.cell?, (Lib.hid hb2).out]
  have y2 : W.cell? ⟨g2, 2, none⟩ = some (.int .u16 0) := by simp [World.cell?, (Lib.hid hb2).out]
  have y3 : W.cell? ⟨g2, 3, none⟩ = some (.int .u32 0) := by simp [World.cell?, (Lib.hid hb2).out]
  have y4 : W.cell? ⟨g2, 4, none⟩ = some (.int .u16 0) := by simp [World.cell?, (Lib.hid hb2).out]
  have y5 : W.cell? ⟨g2, 5, none⟩ = some (.int .u8 0) := by simp [World.cell?, (Lib.hid hb2).out]
  have y6 : W.cell? ⟨g2, 6, none⟩ = some (.int .u32 0) := by simp [World.cell?, (Lib.hid hb2).out]
  have y7 : W.cell? ⟨g2, 7, none⟩ = some (.int .u16 0) := by simp [World.cell?, (Lib.hid hb2).out]
  have y8 : W.cell? ⟨g2, 8, none⟩ = some (.int .u32 0) := by simp [World.cell?, (Lib.hid hb2).out]
  have y9 : W.cell? ⟨g2, 9, none⟩ = some (.int .u16 0) := by simp [World.cell?, (Lib.hid hb2).out]
  have y10 : W.cell? ⟨g2, 10, none⟩ = some (.int .i64 0) := by simp [World.cell?, (Lib.hid hb2).out]
  have y11 : W.cell? ⟨g2, 11, none⟩ = some (.int .i64 0) := by simp [World.cell?, (Lib.hid hb2).out]
  have y12 : W.cell? ⟨g2, 12, none⟩ = some (.slice none 0 0) := by simp [World.cell?, (Lib.hid hb2).out]
  refine bodyPost_ret (v := .tuple #[.agg #[.int .u8 0, .int .u32 0, .int .u16 0, .int .u32 0, .int .u16 0, .int .u8 0, .int .u32 0, .int .u16 0, .int .u32 0, .int .u16 0, .int .i64 0, .int .i64 0, .slice none 0 0], .int .i64 2]) (by simp only [results, Tryd.results21]; go_simp) rfl ⟨rfl, ?_⟩
  exact Hm0.out.trans Hf2.out (fun i hi e => by have h1 := Hge.out; omega)

set_option maxHeartbeats 4000000 in
set_option maxRecDepth 100000 in
theorem rtouch_bad (r a p b q r2 a2 p2 b2 q2 : Nat) (st dl : Int) (ad : Option Addr) (n c : Nat) (bk : Bool) (fl now : Int) (w : World) (ht : Tb w) 
    (k0 : ∀ W, Tb W → Calls Tryd.prog 23 #[.agg #[.int .u8 r, .int .u32 a, .int .u16 p, .int .u32 b, .int .u16 q, .int .u8 r2, .int .u32 a2, .int .u16 p2, .int .u32 b2, .int .u16 q2, .int .i64 st, .int .i64 dl, .slice ad n c]] W (Ret1 (.bool false) W)) :
    Calls Tryd.prog 22 #[.agg #[.int .u8 r, .int .u32 a, .int .u16 p, .int .u32 b, .int .u16 q, .int .u8 r2, .int .u32 a2, .int .u16 p2, .int .u32 b2, .int .u16 q2, .int .i64 st, .int .i64 dl, .slice ad n c], .bool bk, .int .u8 fl, .int .i64 now] w (Ret1 (.tuple #[.agg #[.int .u8 0, .int .u32 0, .int .u16 0, .int .u32 0, .int .u16 0, .int .u8 0, .int .u32 0, .int .u16 0, .int .u32 0, .int .u16 0, .int .i64 0, .int .i64 0, .slice none 0 0], .int .i64 2]) w) := by
  have Ht := Lib.hid ht
  have K0 := Lib.hid k0
  clear ht k0
  go_enter Tryd.func22, Tryd.ntmps22
  go_wp2_with fail
  have hw0 : NoW w ((w.alloc (.cells #[.int .u8 r, .int .u32 a, .int .u16 p, .int .u32 b, .int .u16 q, .int .u8 r2, .int .u32 a2, .int .u16 p2, .int .u32 b2, .int .u16 q2, .int .i64 st, .int .i64 dl, .slice ad n c] 50)).alloc (.cells #[.int .u8 0, .int .u32 0, .int .u16 0, .int .u32 0, .int .u16 0, .int .u8 0, .int .u32 0, .int .u16 0, .int .u32 0, .int .u16 0, .int .i64 0, .int .i64 0, .slice none 0 0] 50)) := ((Fp.refl _ _).alloc _).alloc _
  obtain ⟨hc0, hr0⟩ := box2 w (.cells #[.int .u8 r, .int .u32 a, .int .u16 p, .int .u32 b, .int .u16 q, .int .u8 r2, .int .u32 a2, .int .u16 p2, .int .u32 b2, .int .u16 q2, .int .i64 st, .int .i64 dl, .slice ad n c] 50) (.cells #[.int .u8 0, .int .u32 0, .int .u16 0, .int .u32 0, .int .u16 0, .int .u8 0, .int .u32 0, .int .u16 0, .int .u32 0, .int .u16 0, .int .i64 0, .int .i64 0, .slice none 0 0] 50)
  generalize (w.alloc (.cells #[.int .u8 r, .int .u32 a, .int .u16 p, .int .u32 b, .int .u16 q, .int .u8 r2, .int .u32 a2, .int .u16 p2, .int .u32 b2, .int .u16 q2, .int .i64 st, .int .i64 dl, .slice ad n c] 50)).alloc (.cells #[.int .u8 0, .int .u32 0, .int .u16 0, .int .u32 0, .int .u16 0, .int .u8 0, .int .u32 0, .int .u16 0, .int .u32 0, .int .u16 0, .int .i64 0, .int .i64 0, .slice none 0 0] 50) = w0 at *
  have hge : w.heap.size ≤ w.heap.size + 1 := Nat.le_succ _
  have hne : ¬ w.heap.size = w.heap.size + 1 := by omega
  have Bc := Lib.hid hc0
  have By := Lib.hid hr0
  have Hw := Lib.hid hw0
  clear hc0 hr0 hw0
  generalize w.heap.size + 1 = g2 at *
  have Hge := Lib.hid hge
  obtain ⟨g, hg⟩ : ∃ g, g = w.heap.size := ⟨_, rfl⟩
  have Hg := Lib.hid hg
  rw [← hg] at hne Bc ⊢
  clear hg hge
  refine (K0.out _ (Ht.out.low Hw.out)).mono ?_
  rintro e v0 ⟨rfl, hp⟩
  have Hm0 := Lib.hid (Hw.out.trans hp (fun _ _ h => h))
  have hb0 := (hp.block _ (Array.getElem?_eq_some_iff.1 Bc.out).1 id).trans Bc.out
  clear Bc
  have Bc := Lib.hid hb0
  clear hb0
  have hb0 := (hp.block _ (Array.getElem?_eq_some_iff.1 By.out).1 id).trans By.out
  clear By
  have By := Lib.hid hb0
  clear hb0
  clear hp Hw
  have y0 : v0.cell? ⟨g2, 0, none⟩ = some (.int .u8 0) := by simp [World.cell?, By.out]
  have zy0 : v0.frozen? ⟨g2, 0, none⟩ = false := by simp [World.frozen?, By.out]
  have y1 : v0.cell? ⟨g2, 1, none⟩ = some (.int .u32 0) := by simp [World.cell?, By.out]
  have zy1 : v0.frozen? ⟨g2, 1, none⟩ = false := by simp [World.frozen?, By.out]
  have y2 : v0.cell? ⟨g2, 2, none⟩ = some (.int .u16 0) := by simp [World.cell?, By.out]
  have zy2 : v0.frozen? ⟨g2, 2, none⟩ = false := by simp [World.frozen?, By.out]
  have y3 : v0.cell? ⟨g2, 3, none⟩ = some (.int .u32 0) := by simp [World.cell?, By.out]
  have zy3 : v0.frozen? ⟨g2, 3, none⟩ = false := by simp [World.frozen?, By.out]
  have y4 : v0.cell? ⟨g2, 4, none⟩ = some (.int .u16 0) := by simp [World.cell?, By.out]
  have zy4 : v0.frozen? ⟨g2, 4, none⟩ = false := by simp [World.frozen?, By.out]
  have y5 : v0.cell? ⟨g2, 5, none⟩ = some (.int .u8 0) := by simp [World.cell?, By.out]
  have zy5 : v0.frozen? ⟨g2, 5, none⟩ = false := by simp [World.frozen?, By.out]
  have y6 : v0.cell? ⟨g2, 6, none⟩ = some (.int .u32 0) := by simp [World.cell?, By.out]
  have zy6 : v0.frozen? ⟨g2, 6, none⟩ = false := by simp [World.frozen?, By.out]
  have y7 : v0.cell? ⟨g2, 7, none⟩ = some (.int .u16 0) := by simp [World.cell?, By.out]
  have zy7 : v0.frozen? ⟨g2, 7, none⟩ = false := by simp [World.frozen?, By.out]
  have y8 : v0.cell? ⟨g2, 8, none⟩ = some (.int .u32 0) := by simp [World.cell?, By.out]
  have zy8 : v0.frozen? ⟨g2, 8, none⟩ = false := by simp [World.frozen?, By.out]
  have y9 : v0.cell? ⟨g2, 9, none⟩ = some (.int .u16 0) := by simp [World.cell?, By.out]
  have zy9 : v0.frozen? ⟨g2, 9, none⟩ = false := by simp [World.frozen?, By.out]
  have y10 : v0.cell? ⟨g2, 10, none⟩ = some (.int .i64 0) := by simp [World.cell?, By.out]
  have zy10 : v0.frozen? ⟨g2, 10, none⟩ = false := by simp [World.frozen?, By.out]
  have y11 : v0.cell? ⟨g2, 11, none⟩ = some (.int .i64 0) := by simp [World.cell?, By.out]
  have zy11 : v0.frozen? ⟨g2, 11, none⟩ = false := by simp [World.frozen?, By.out]
  have y12 : v0.cell? ⟨g2, 12, none⟩ = some (.slice none 0 0) := by simp [World.cell?, By.out]
  have zy12 : v0.frozen? ⟨g2, 12, none⟩ = false := by simp [World.frozen?, By.out]
  go_wp2_with fail
  obtain ⟨W, hW, hb2, hf2⟩ := set13 v0 g2 50 (.int .u8 0) (.int .u32 0) (.int .u16 0) (.int .u32 0) (.int .u16 0) (.int .u8 0) (.int .u32 0) (.int .u16 0) (.int .u32 0) (.int .u16 0) (.int .i64 0) (.int .i64 0) (.slice none 0 0) By.out (.int .u8 0) (.int .u32 0) (.int .u16 0) (.int .u32 0) (.int .u16 0) (.int .u8 0) (.int .u32 0) (.int .u16 0) (.int .u32 0) (.int .u16 0) (.int .i64 0) (.int .i64 0) (.slice none 0 0)
  rw [← hW]
  have Hf2 := Lib.hid hf2
  clear hW hf2
  clear y0 zy0 y1 zy1 y2 zy2 y3 zy3 y4 zy4 y5 zy5 y6 zy6 y7 zy7 y8 zy8 y9 zy9 y10 zy10 y11 zy11 y12 zy12
  have y0 : W.cell? ⟨g2, 0, none⟩ = some (.int .u8 0) := by simp [World.cell?, (Lib.hid hb2).out]
  have y1 : W.cell? ⟨g2, 1, none⟩ = some (.int .u32 0) := by simp [World.cell?, (Lib.hid hb2).out]
  have y2 : W.cell? ⟨g2, 2, none⟩ = some (.int .u16 0) := by simp [World.cell?, (Lib.hid hb2).out]
  have y3 : W.cell? ⟨g2, 3, none⟩ = some (.int .u32 0) := by simp [World.cell?, (Lib.hid hb2).out]
  have y4 : W.cell? ⟨g2, 4, none⟩ = some (.int .u16 0) := by simp [World.cell?, (Lib.hid hb2).out]
  have y5 : W.cell? ⟨g2, 5, none⟩ = some (.int .u8 0) := by simp [World.cell?, (Lib.hid hb2).out]
  have y6 : W.cell? ⟨g2, 6, none⟩ = some (.int .u32 0) := by simp [World.cell?, (Lib.hid hb2).out]
  have y7 : W.cell? ⟨g2, 7, none⟩ = some (.int .u16 0) := by simp [World.cell?, (Lib.hid hb2).out]
  have y8 : W.cell? ⟨g2, 8, none⟩ = some (.int .u32 0) := by simp [World.cell?, (Lib.hid hb2).out]
  have y9 : W.cell? ⟨g2, 9, none⟩ = some (.int .u16 0) := by simp [World.cell?, (Lib.hid hb2).out]
  have y10 : W.cell? ⟨g2, 10, none⟩ = some (.int .i64 0) := by simp [World.cell?, (Lib.hid hb2).out]
  have y11 : W.cell? ⟨g2, 11, none⟩ = some (.int .i64 0) := by simp [World.cell?, (Lib.hid hb2).out]
  have y12 : W.cell? ⟨g2, 12, none⟩ = some (.slice none 0 0) := by simp [World.cell?, (Lib.hid hb2).out]
  refine bodyPost_ret (v := .tuple #[.agg #[.int .u8 0, .int .u32 0, .int .u16 0, .int .u32 0, .int .u16 0, .int .u8 0, .int .u32 0, .int .u16 0, .int .u32 0, .int .u16 0, .int .i64 0, .int .i64 0, .slice none 0 0], .int .i64 2]) (by simp only [results, Tryd.results22]; go_simp) rfl ⟨rfl, ?_⟩
  exact Hm0.out.trans Hf2.out (fun i hi e => by have h1 := Hge.out; omega)

set_option maxHeartbeats 4000000 in
set_option maxRecDepth 100000 in
theorem rtouch_low (r a p b q r2 a2 p2 b2 q2 : Nat) (st dl : Int) (ad : Option Addr) (n c : Nat) (bk : Bool) (fl now : Int) (w : World) (ht : Tb w) (hn : decide (now < 0) = true)
    (k0 : ∀ W, Tb W → Calls Tryd.prog 23 #[.agg #[.int .u8 r, .int .u32 a, .int .u16 p, .int .u32 b, .int .u16 q, .int .u8 r2, .int .u32 a2, .int .u16 p2, .int .u32 b2, .int .u16 q2, .int .i64 st, .int .i64 dl, .slice ad n c]] W (Ret1 (.bool true) W)) :
    Calls Tryd.prog 22 #[.agg #[.int .u8 r, .int .u32 a, .int .u16 p, .int .u32 b, .int .u16 q, .int .u8 r2, .int .u32 a2, .int .u16 p2, .int .u32 b2, .int .u16 q2, .int .i64 st, .int .i64 dl, .slice ad n c], .bool bk, .int .u8 fl, .int .i64 now] w (Ret1 (.tuple #[.agg #[.int .u8 0, .int .u32 0, .int .u16 0, .int .u32 0, .int .u16 0, .int .u8 0, .int .u32 0, .int .u16 0, .int .u32 0, .int .u16 0, .int .i64 0, .int .i64 0, .slice none 0 0], .int .i64 2]) w) := by
  have Ht := Lib.hid ht
  have K0 := Lib.hid k0
  clear ht k0
  go_enter Tryd.func22, Tryd.ntmps22
  go_wp2_with fail
  have hw0 : NoW w ((w.alloc (.cells #[.int .u8 r, .int .u32 a, .int .u16 p, .int .u32 b, .int .u16 q, .int .u8 r2, .int .u32 a2, .int .u16 p2, .int .u32 b2, .int .u16 q2, .int .i64 st, .int .i64 dl, .slice ad n c] 50)).alloc (.cells #[.int .u8 0, .int .u32 0, .int .u16 0, .int .u32 0, .int .u16 0, .int .u8 0, .int .u32 0, .int .u16 0, .int .u32 0, .int .u16 0, .int .i64 0, .int .i64 0, .slice none 0 0] 50)) := ((Fp.refl _ _).alloc _).alloc _
  obtain ⟨hc0, hr0⟩ := box2 w (.cells #[.int .u8 r, .int .u32 a, .int .u16 p, .int .u32 b, .int .u16 q, .int .u8 r2, .int .u32 a2, .int .u16 p2, .int .u32 b2, .int .u16 q2, .int .i64 st, .int .i64 dl, .slice ad n c] 50) (.cells #[.int .u8 0, .int .u32 0, .int .u16 0, .int .u32 0, .int .u16 0, .int .u8 0, .int .u32 0, .int .u16 0, .int .u32 0, .int .u16 0, .int .i64 0, .int .i64 0, .slice none 0 0] 50)
  generalize (w.alloc (.cells #[.int .u8 r, .int .u32 a, .int .u16 p, .int .u32 b, .int .u16 q, .int .u8 r2, .int .u32 a2, .int .u16 p2, .int .u32 b2, .int .u16 q2, .int .i64 st, .int .i64 dl, .slice ad n c] 50)).alloc (.cells #[.int .u8 0, .int .u32 0, .int .u16 0, .int .u32 0, .int .u16 0, .int .u8 0, .int .u32 0, .int .u16 0, .int .u32 0, .int .u16 0, .int .i64 0, .int .i64 0, .slice none 0 0] 50) = w0 at *
  have hge : w.heap.size ≤ w.heap.size + 1 := Nat.le_succ _
  have hne : ¬ w.heap.size = w.heap.size + 1 := by omega
  have Bc := Lib.hid hc0
  have By := Lib.hid hr0
  have Hw := Lib.hid hw0
  clear hc0 hr0 hw0
  generalize w.heap.size + 1 = g2 at *
  have Hge := Lib.hid hge
  obtain ⟨g, hg⟩ : ∃ g, g = w.heap.size := ⟨_, rfl⟩
  have Hg := Lib.hid hg
  rw [← hg] at hne Bc ⊢
  clear hg hge
  refine (K0.out _ (Ht.out.low Hw.out)).mono ?_
  rintro e v0 ⟨rfl, hp⟩
  have Hm0 := Lib.hid (Hw.out.trans hp (fun _ _ h => h))
  have hb0 := (hp.block _ (Array.getElem?_eq_some_iff.1 Bc.out).1 id).trans Bc.out
  clear Bc
  have Bc := Lib.hid hb0
  clear hb0
  have hb0 := (hp.block _ (Array.getElem?_eq_some_iff.1 By.out).1 id).trans By.out
  clear By
  have By := Lib.hid hb0
  clear hb0
  clear hp Hw
  have y0 : v0.cell? ⟨g2, 0, none⟩ = some (.int .u8 0) := by simp [World.cell?, By.out]
  have zy0 : v0.frozen? ⟨g2, 0, none⟩ = false := by simp [World.frozen?, By.out]
  have y1 : v0.cell? ⟨g2, 1, none⟩ = some (.int .u32 0) := by simp [World.cell?, By.out]
  have zy1 : v0.frozen? ⟨g2, 1, none⟩ = false := by simp [World.frozen?, By.out]
  have y2 : v0.cell? ⟨g2, 2, none⟩ = some (.int .u16 0) := by simp [World.cell?, By.out]
  have zy2 : v0.frozen? ⟨g2, 2, none⟩ = false := by simp [World.frozen?, By.out]
  have y3 : v0.cell? ⟨g2, 3, none⟩ = some (.int .u32 0) := by simp [World.cell?, By.out]
  have zy3 : v0.frozen? ⟨g2, 3, none⟩ = false := by simp [World.frozen?, By.out]
  have y4 : v0.cell? ⟨g2, 4, none⟩ = some (.int .u16 0) := by simp [World.cell?, By.out]
  have zy4 : v0.frozen? ⟨g2, 4, none⟩ = false := by simp [World.frozen?, By.out]
  have y5 : v0.cell? ⟨g2, 5, none⟩ = some (.int .u8 0) := by simp [World.cell?, By.out]
  have zy5 : v0.frozen? ⟨g2, 5, none⟩ = false := by simp [World.frozen?, By.out]
  have y6 : v0.cell? ⟨g2, 6, none⟩ = some (.int .u32 0) := by simp [World.cell?, By.out]
  have zy6 : v0.frozen? ⟨g2, 6, none⟩ = false := by simp [World.frozen?, By.out]
  have y7 : v0.cell? ⟨g2, 7, none⟩ = some (.int .u16 0) := by simp [World.cell?, By.out]
  have zy7 : v0.frozen? ⟨g2, 7, none⟩ = false := by simp [World.frozen?, By.out]
  have y8 : v0.cell? ⟨g2, 8, none⟩ = some (.int .u32 0) := by simp [World.cell?, By.out]
  have zy8 : v0.frozen? ⟨g2, 8, none⟩ = false := by simp [World.frozen?, By.out]
  have y9 : v0.cell? ⟨g2, 9, none⟩ = some (.int .u16 0) := by simp [World.cell?, By.out]
  have zy9 : v0.frozen? ⟨g2, 9, none⟩ = false := by simp [World.frozen?, By.out]
  have y10 : v0.cell? ⟨g2, 10, none⟩ = some (.int .i64 0) := by simp [World.cell?, By.out]
  have zy10 : v0.frozen? ⟨g2, 10, none⟩ = false := by simp [World.frozen?, By.out]
  have y11 : v0.cell? ⟨g2, 11, none⟩ = some (.int .i64 0) := by simp [World.cell?, By.out]
  have zy11 : v0.frozen? ⟨g2, 11, none⟩ = false := by simp [World.frozen?, By.out]
  have y12 : v0.cell? ⟨g2, 12, none⟩ = some (.slice none 0 0) := by simp [World.cell?, By.out]
  have zy12 : v0.frozen? ⟨g2, 12, none⟩ = false := by simp [World.frozen?, By.out]
  go_wp2_with fail
  obtain ⟨W, hW, hb2, hf2⟩ := set13 v0 g2 50 (.int .u8 0) (.int .u32 0) (.int .u16 0) (.int .u32 0) (.int .u16 0) (.int .u8 0) (.int .u32 0) (.int .u16 0) (.int .u32 0) (.int .u16 0) (.int .i64 0) (.int .i64 0) (.slice none 0 0) By.out (.int .u8 0) (.int .u32 0) (.int .u16 0) (.int .u32 0) (.int .u16 0) (.int .u8 0) (.int .u32 0) (.int .u16 0) (.int .u32 0) (.int .u16 0) (.int .i64 0) (.int .i64 0) (.slice none 0 0)
  rw [← hW]
  have Hf2 := Lib.hid hf2
  clear hW hf2
  clear y0 zy0 y1 zy1 y2 zy2 y3 zy3 y4 zy4 y5 zy5 y6 zy6 y7 zy7 y8 zy8 y9 zy9 y10 zy10 y11 zy11 y12 zy12
  have y0 : W.cell? ⟨g2, 0, none⟩ = some (.int .u8 0) := by simp [World.cell?, (Lib.hid hb2).out]
  have y1 : W.cell? ⟨g2, 1, none⟩ = some (.int .u32 0) := by simp [World.cell?, (Lib.hid hb2).out]
  have y2 : W.cell? ⟨g2, 2, none⟩ = some (.int .u16 0) := by simp [World.cell?, (Lib.hid hb2).out]
  have y3 : W.cell? ⟨g2, 3, none⟩ = some (.int .u32 0) := by simp [World.cell?, (Lib.hid hb2).out]
  have y4 : W.cell? ⟨g2, 4, none⟩ = some (.int .u16 0) := by simp [World.cell?, (Lib.hid hb2).out]
  have y5 : W.cell? ⟨g2, 5, none⟩ = some (.int .u8 0) := by simp [World.cell?, (Lib.hid hb2).out]
  have y6 : W.cell? ⟨g2, 6, none⟩ = some (.int .u32 0) := by simp [World.cell?, (Lib.hid hb2).out]
  have y7 : W.cell? ⟨g2, 7, none⟩ = some (.int .u16 0) := by simp [World.cell?, (Lib.hid hb2).out]
  have y8 : W.cell? ⟨g2, 8, none⟩ = some (.int .u32 0) := by simp [World.cell?, (Lib.hid hb2).out]
  have y9 : W.cell? ⟨g2, 9, none⟩ = some (.int .u16 0) := by simp [World.cell?, (Lib.hid hb2).out]
  have y10 : W.cell? ⟨g2, 10, none⟩ = some (.int .i64 0) := by simp [World.cell?, (Lib.hid hb2).out]
  have y11 : W.cell? ⟨g2, 11, none⟩ = some (.int .i64 0) := by simp [World.cell?, (Lib.hid hb2).out]
  have y12 : W.cell? ⟨g2, 12, none⟩ = some (.slice none 0 0) := by simp [World.cell?, (Lib.hid hb2).out]
  refine bodyPost_ret (v := .tuple #[.agg #[.int .u8 0, .int .u32 0, .int .u16 0, .int .u32 0, .int .u16 0, .int .u8 0, .int .u32 0, .int .u16 0, .int .u32 0, .int .u16 0, .int .i64 0, .int .i64 0, .slice none 0 0], .int .i64 2]) (by simp only [results, Tryd.results22]; go_simp) rfl ⟨rfl, ?_⟩
  exact Hm0.out.trans Hf2.out (fun i hi e => by have h1 := Hge.out; omega)

set_option maxHeartbeats 4000000 in
set_option maxRecDepth 100000 in
theorem rtouch_high (r a p b q r2 a2 p2 b2 q2 : Nat) (st dl : Int) (ad : Option Addr) (n c : Nat) (bk : Bool) (fl now : Int) (w : World) (ht : Tb w) (hn : decide (now < 0) = false) (hn2 : decide (1099511627776 < now) = true)
    (k0 : ∀ W, Tb W → Calls Tryd.prog 23 #[.agg #[.int .u8 r, .int .u32 a, .int .u16 p, .int .u32 b, .int .u16 q, .int .u8 r2, .int .u32 a2, .int .u16 p2, .int .u32 b2, .int .u16 q2, .int .i64 st, .int .i64 dl, .slice ad n c]] W (Ret1 (.bool true) W)) :
    Calls Tryd.prog 22 #[.agg #[.int .u8 r, .int .u32 a, .int .u16 p, .int .u32 b, .int .u16 q, .int .u8 r2, .int .u32 a2, .int .u16 p2, .int .u32 b2, .int .u16 q2, .int .i64 st, .int .i64 dl, .slice ad n c], .bool bk, .int .u8 fl, .int .i64 now] w (Ret1 (.tuple #[.agg #[.int .u8 0, .int .u32 0, .int .u16 0, .int .u32 0, .int .u16 0, .int .u8 0, .int .u32 0, .int .u16 0, .int .u32 0, .int .u16 0, .int .i64 0, .int .i64 0, .slice none 0 0], .int .i64 2]) w) := by
  have Ht := Lib.hid ht
  have K0 := Lib.hid k0
  clear ht k0
  go_enter Tryd.func22, Tryd.ntmps22
  go_wp2_with fail
  have hw0 : NoW w ((w.alloc (.cells #[.int .u8 r, .int .u32 a, .int .u16 p, .int .u32 b, .int .u16 q, .int .u8 r2, .int .u32 a2, .int .u16 p2, .int .u32 b2, .int .u16 q2, .int .i64 st, .int .i64 dl, .slice ad n c] 50)).alloc (.cells #[.int .u8 0, .int .u32 0, .int .u16 0, .int .u32 0, .int .u16 0, .int .u8 0, .int .u32 0, .int .u16 0, .int .u32 0, .int .u16 0, .int .i64 0, .int .i64 0, .slice none 0 0] 50)) := ((Fp.refl _ _).alloc _).alloc _
  obtain ⟨hc0, hr0⟩ := box2 w (.cells #[.int .u8 r, .int .u32 a, .int .u16 p, .int .u32 b, .int .u16 q, .int .u8 r2, .int .u32 a2, .int .u16 p2, .int .u32 b2, .int .u16 q2, .int .i64 st, .int .i64 dl, .slice ad n c] 50) (.cells #[.int .u8 0, .int .u32 0, .int .u16 0, .int .u32 0, .int .u16 0, .int .u8 0, .int .u32 0, .int .u16 0, .int .u32 0, .int .u16 0, .int .i64 0, .int .i64 0, .slice none 0 0] 50)
  generalize (w.alloc (.cells #[.int .u8 r, .int .u32 a, .int .u16 p, .int .u32 b, .int .u16 q, .int .u8 r2, .int .u32 a2, .int .u16 p2, .int .u32 b2, .int .u16 q2, .int .i64 st, .int .i64 dl, .slice ad n c] 50)).alloc (.cells #[.int .u8 0, .int .u32 0, .int .u16 0, .int .u32 0, .int .u16 0, .int .u8 0, .int .u32 0, .int .u16 0, .int .u32 0, .int .u16 0, .int .i64 0, .int .i64 0, .slice none 0 0] 50) = w0 at *
  have hge : w.heap.size ≤ w.heap.size + 1 := Nat.le_succ _
  have hne : ¬ w.heap.size = w.heap.size + 1 := by omega
  have Bc := Lib.hid hc0
  have By := Lib.hid hr0
  have Hw := Lib.hid hw0
  clear hc0 hr0 hw0
  generalize w.heap.size + 1 = g2 at *
  have Hge := Lib.hid hge
  obtain ⟨g, hg⟩ : ∃ g, g = w.heap.size := ⟨_, rfl⟩
  have Hg := Lib.hid hg
  rw [← hg] at hne Bc ⊢
  clear hg hge
  refine (K0.out _ (Ht.out.low Hw.out)).mono ?_
  rintro e v0 ⟨rfl, hp⟩
  have Hm0 := Lib.hid (Hw.out.trans hp (fun _ _ h => h))
  have hb0 := (hp.block _ (Array.getElem?_eq_some_iff.1 Bc.out).1 id).trans Bc.out
  clear Bc
  have Bc := Lib.hid hb0
  clear hb0
  have hb0 := (hp.block _ (Array.getElem?_eq_some_iff.1 By.out).1 id).trans By.out
  clear By
  have By := Lib.hid hb0
  clear hb0
  clear hp Hw
  have y0 : v0.cell? ⟨g2, 0, none⟩ = some (.int .u8 0) := by simp [World.cell?, By.out]
  have zy0 : v0.frozen? ⟨g2, 0, none⟩ = false := by simp [World.frozen?, By.out]
  have y1 : v0.cell? ⟨g2, 1, none⟩ = some (.int .u32 0) := by simp [World.cell?, By.out]
  have zy1 : v0.frozen? ⟨g2, 1, none⟩ = false := by simp [World.frozen?, By.out]
  have y2 : v0.cell? ⟨g2, 2, none⟩ = some (.int .u16 0) := by simp [World.cell?, By.out]
  have zy2 : v0.frozen? ⟨g2, 2, none⟩ = false := by simp [World.frozen?, By.out]
  have y3 : v0.cell? ⟨g2, 3, none⟩ = some (.int .u32 0) := by simp [World.cell?, By.out]
  have zy3 : v0.frozen? ⟨g2, 3, none⟩ = false := by simp [World.frozen?, By.out]
  have y4 : v0.cell? ⟨g2, 4, none⟩ = some (.int .u16 0) := by simp [World.cell?, By.out]
  have zy4 : v0.frozen? ⟨g2, 4, none⟩ = false := by simp [World.frozen?, By.out]
  have y5 : v0.cell? ⟨g2, 5, none⟩ = some (.int .u8 0) := by simp [World.cell?, By.out]
  have zy5 : v0.frozen? ⟨g2, 5, none⟩ = false := by simp [World.frozen?, By.out]
  have y6 : v0.cell? ⟨g2, 6, none⟩ = some (.int .u32 0) := by simp [World.cell?, By.out]
  have zy6 : v0.frozen? ⟨g2, 6, none⟩ = false := by simp [World.frozen?, By.out]
  have y7 : v0.cell? ⟨g2, 7, none⟩ = some (.int .u16 0) := by simp [World.cell?, By.out]
  have zy7 : v0.frozen? ⟨g2, 7, none⟩ = false := by simp [World.frozen?, By.out]
  have y8 : v0.cell? ⟨g2, 8, none⟩ = some (.int .u32 0) := by simp [World.cell?, By.out]
  have zy8 : v0.frozen? ⟨g2, 8, none⟩ = false := by simp [World.frozen?, By.out]
  have y9 : v0.cell? ⟨g2, 9, none⟩ = some (.int .u16 0) := by simp [World.cell?, By.out]
  have zy9 : v0.frozen? ⟨g2, 9, none⟩ = false := by simp [World.frozen?, By.out]
  have y10 : v0.cell? ⟨g2, 10, none⟩ = some (.int .i64 0) := by simp [World.cell?, By.out]
  have zy10 : v0.frozen? ⟨g2, 10, none⟩ = false := by simp [World.frozen?, By.out]
  have y11 : v0.cell? ⟨g2, 11, none⟩ = some (.int .i64 0) := by simp [World.cell?, By.out]
  have zy11 : v0.frozen? ⟨g2, 11, none⟩ = false := by simp [World.frozen?, By.out]
  have y12 : v0.cell? ⟨g2, 12, none⟩ = some (.slice none 0 0) := by simp [World.cell?, By.out]
  have zy12 : v0.frozen? ⟨g2, 12, none⟩ = false := by simp [World.frozen?, By.out]
  go_wp2_with fail
  obtain ⟨W, hW, hb2, hf2⟩ := set13 v0 g2 50 (.int .u8 0) (.int .u32 0) (.int .u16 0) (.int .u32 0) (.int .u16 0) (.int .u8 0) (.int .u32 0) (.int .u16 0) (.int .u32 0) (.int .u16 0) (.int .i64 0) (.int .i64 0) (.slice none 0 0) By.out (.int .u8 0) (.int .u32 0) (.int .u16 0) (.int .u32 0) (.int .u16 0) (.int .u8 0) (.int .u32 0) (.int .u16 0) (.int .u32 0) (.int .u16 0) (.int .i64 0) (.int .i64 0) (.slice none 0 0)
  rw [← hW]
  have Hf2 := Lib.hid hf2
  clear hW hf2
  clear y0 zy0 y1 zy1 y2 zy2 y3 zy3 y4 zy4 y5 zy5 y6 zy6 y7 zy7 y8 zy8 y9 zy9 y10 zy10 y11 zy11 y12 zy12
  have y0 : W.cell? ⟨g2, 0, none⟩ = some (.int .u8 0) := by simp [World.cell?, (Lib.hid hb2).out]
  have y1 : W.cell? ⟨g2, 1, none⟩ = some (.int .u32 0) := by simp [World.cell?, (Lib.hid hb2).out]
  have y2 : W.cell? ⟨g2, 2, none⟩ = some (.int .u16 0) := by simp [World.cell?, (Lib.hid hb2).out]
  have y3 : W.cell? ⟨g2, 3, none⟩ = some (.int .u32 0) := by simp [World.cell?, (Lib.hid hb2).out]
  have y4 : W.cell? ⟨g2, 4, none⟩ = some (.int .u16 0) := by simp [World.cell?, (Lib.hid hb2).out]
  have y5 : W.cell? ⟨g2, 5, none⟩ = some (.int .u8 0) := by simp [World.cell?, (Lib.hid hb2).out]
  have y6 : W.cell? ⟨g2, 6, none⟩ = some (.int .u32 0) := by simp [World.cell?, (Lib.hid hb2).out]
  have y7 : W.cell? ⟨g2, 7, none⟩ = some (.int .u16 0) := by simp [World.cell?, (Lib.hid hb2).out]
  have y8 : W.cell? ⟨g2, 8, none⟩ = some (.int .u32 0) := by simp [World.cell?, (Lib.hid hb2).out]
  have y9 : W.cell? ⟨g2, 9, none⟩ = some (.int .u16 0) := by simp [World.cell?, (Lib.hid hb2).out]
  have y10 : W.cell? ⟨g2, 10, none⟩ = some (.int .i64 0) := by simp [World.cell?, (Lib.hid hb2).out]
  have y11 : W.cell? ⟨g2, 11, none⟩ = some (.int .i64 0) := by simp [World.cell?, (Lib.hid hb2).out]
  have y12 : W.cell? ⟨g2, 12, none⟩ = some (.slice none 0 0) := by simp [World.cell?, (Lib.hid hb2).out]
  refine bodyPost_ret (v := .tuple #[.agg #[.int .u8 0, .int .u32 0, .int .u16 0, .int .u32 0, .int .u16 0, .int .u8 0, .int .u32 0, .int .u16 0, .int .u32 0, .int .u16 0, .int .i64 0, .int .i64 0, .slice none 0 0], .int .i64 2]) (by simp only [results, Tryd.results22]; go_simp) rfl ⟨rfl, ?_⟩
  exact Hm0.out.trans Hf2.out (fun i hi e => by have h1 := Hge.out; omega)
end Go.Proofs.YtdmbjndhdldggaaDoor
