/- Chapter 18: entries.Text (written by genetext.py). -/
import Derived.Test.YtdmbjndhdldggaaGreatDoorEnJ
import Derived.Test.YtdmbjndhdldggaaGreatDoorEnG
namespace Go.Proofs.YtdmbjndhdldggaaGreatDoor
set_option linter.unusedVariables false
set_option linter.unusedSimpArgs false
open Go.RowKit Go.Lib Go.Sort

/-- 'append' of one element that lies in a block of its own, where it comes up in a drawn region. -/
theorem op_append1 {P : Program} {w : World} {o : Oper} {a : Act} {K : Act → World → Prop} {Q : Exit → Act → World → Prop} (s x : Operand) (t : TypeId)
    (ho : o.op = .call { callee := .builtin .append, args := #[s, x], argTypes := #[t, t] })
    (base : Nat) (e : TypeId) (z : Value) (size : Nat) (ht : P.underlying t = some (.slice e)) (hi : ∃ i, P.info? e = some i ∧ i.zero = some z ∧ i.size = size ∧ i.bytes ≤ 65536)
    (hzs : z.cells.size = size) (hsz : 0 < size) (v : Value) (n : Nat) (xs : List Value) (hs : a.eval s = v) (hown : w.ownsRow base e size v n xs)
    (g : Nat) (news : List Value) (hx : a.eval x = .slice (some ⟨g, 0, none⟩) 1 1) (hl : news.length = size) (hnews : w.heap[g]? = some (.cells news.toArray e (0, 0))) (h1 : ∀ u ∈ news, u.oneCell' = true)
    (hn : n + 1 ≤ 1048576) (hbase : base ≤ w.heap.size)
    (h : ∀ v' w', w'.ownsRow base e size v' (n + 1) (xs ++ news) → w.grownBy w' v.ownBlock → K (a.put o.dst v') w') : Oper.wp P o a w K Q := by
  obtain ⟨i, hi, hz, rfl, hb⟩ := hi
  have hnews' : ∀ j u, news[j]? = some u → w.cell? ((⟨g, 0, none⟩ : Addr).add j) = some u := by
    intro j u hj
    have e : (⟨g, 0, none⟩ : Addr).add j = ⟨g, j, none⟩ := by unfold Addr.add; split <;> simp_all
    rw [e]
    simp [World.cell?, hnews, hj]
  obtain ⟨v', w', hr, h2, h3, h4⟩ := run_append_own (P := P) w base t o.type e i z i.size i.bytes ht hi hz rfl rfl hzs hsz v n xs hown ⟨g, 0, none⟩ 1 1 news (by omega) hnews' h1 (by unfold maxLen; omega) (by have := Nat.mul_le_mul hn hb; omega) hbase
  unfold Oper.wp execOp
  simp only [ho, resolve, invoke, builtin, Sem.run_bind, Sem.run_pure, Result.andThen_ok, List.map_toArray, List.map_cons, List.map_nil, hs, hx, hr]
  exact h v' w' h2 h3

/-- A hold's text; an entry's. -/
def holdT (oa op ia ip : Nat → Nat) (i : Nat) : List UInt8 := withT 58 (oa i) (op i) ++ 61 :: withT 58 (ia i) (ip i)
def rowsT (r a p b q r2 a2 p2 b2 q2 st dl : Nat) (oa op ia ip : Nat → Nat) (n : Nat) : List (List UInt8) := [tupT r a p b q, [124], tupT r2 a2 p2 b2 q2, decDigits st, decDigits dl] ++ (List.range n).map (holdT oa op ia ip)
def entT (r a p b q r2 a2 p2 b2 q2 st dl : Nat) (oa op ia ip : Nat → Nat) (n : Nat) : List UInt8 := joinB (rowsT r a p b q r2 a2 p2 b2 q2 st dl oa op ia ip n)
theorem joinB_len (m : Nat) : ∀ ps : List (List UInt8), (∀ p ∈ ps, p.length ≤ m) → (joinB ps).length ≤ ps.length * (m + 1)
  | [], _ => by simp [joinB, List.intercalate]
  | [x], h => by have := h x (by simp); simp [joinB, List.intercalate]; omega
  | x :: y :: l, h => by
    have ih := joinB_len m (y :: l) (fun p hp => h p (by simp at hp ⊢; exact .inr hp))
    have := h x (by simp)
    have e : joinB (x :: y :: l) = x ++ 32 :: joinB (y :: l) := by simp [joinB, List.intercalate]
    rw [e]
    simp only [List.length_append, List.length_cons] at *
    have : (l.length + 1 + 1) * (m + 1) = (l.length + 1) * (m + 1) + (m + 1) := by rw [Nat.add_mul (l.length + 1) 1]; omega
    omega

set_option maxHeartbeats 4000000 in
set_option maxRecDepth 100000 in
theorem ent_text (r a p b q r2 a2 p2 b2 q2 st dl : Nat) (oa op ia ip : Nat → Nat) (hb ho n hc : Nat) (ys : List Value) (hr : r < 256) (hr2 : r2 < 256) (ha : a < 4294967296) (hp : p < 65536) (hbb : b < 4294967296) (hq : q < 65536) (ha2 : a2 < 4294967296) (hp2 : p2 < 65536) (hb2 : b2 < 4294967296) (hq2 : q2 < 65536)
    (hst : st ≤ 7) (hdl : dl ≤ 1099511635216) (hn : n ≤ 5) (h1 : tupB r p q = true) (h2 : tupB r2 p2 q2 = true)
    (hv : ∀ i, i < n → (ys[i * 4]? = some (.int .u32 (oa i)) ∧ ys[i * 4 + 1]? = some (.int .u16 (op i)) ∧ ys[i * 4 + 2]? = some (.int .u32 (ia i)) ∧ ys[i * 4 + 3]? = some (.int .u16 (ip i))) ∧ oa i < 4294967296 ∧ op i < 65536 ∧ ia i < 4294967296 ∧ ip i < 65536)
    (w : World) (ht : Tb w) (hh : Holds w hb ho n ys)
    (k0 : ∀ W, Tb W → Calls Tryz.prog 16 #[.agg #[.int .u8 r, .int .u32 a, .int .u16 p, .int .u32 b, .int .u16 q, .int .u8 r2, .int .u32 a2, .int .u16 p2, .int .u32 b2, .int .u16 q2, .int .i64 st, .int .i64 dl, (.slice (some ⟨hb, ho, none⟩) n hc)]] W (Ret1 (.int .i64 0) W)) :
    Calls Tryz.prog 6 #[.agg #[.int .u8 r, .int .u32 a, .int .u16 p, .int .u32 b, .int .u16 q, .int .u8 r2, .int .u32 a2, .int .u16 p2, .int .u32 b2, .int .u16 q2, .int .i64 st, .int .i64 dl, (.slice (some ⟨hb, ho, none⟩) n hc)]] w (Ret1 (str (entT r a p b q r2 a2 p2 b2 q2 st dl oa op ia ip n)) w) := by
  have Ht := Lib.hid ht
  have Hh := Lib.hid hh
  have Hv := Lib.hid hv
  have K0 := Lib.hid k0
  have P1 := Lib.hid (fun W (hW : Tb W) => tup_text r a p b q hr ha hp hbb hq h1 W hW)
  have P2 := Lib.hid (fun W (hW : Tb W) => tup_text r2 a2 p2 b2 q2 hr2 ha2 hp2 hb2 hq2 h2 W hW)
  have P3 := Lib.hid (fun W (hW : Tb W) => itoa_any st (by omega) W hW)
  have P4 := Lib.hid (fun W (hW : Tb W) => itoa_any dl (by omega) W hW)
  have Hlen := Lib.hid (show (entT r a p b q r2 a2 p2 b2 q2 st dl oa op ia ip n).length ≤ 100000 from by
    have t1 := tupT_len r a p b q ha hp hbb hq
    have t2 := tupT_len r2 a2 p2 b2 q2 ha2 hp2 hb2 hq2
    have t3 := dec_len 20 st (by omega) (by omega)
    have t4 := dec_len 20 dl (by omega) (by omega)
    have := joinB_len 100 (rowsT r a p b q r2 a2 p2 b2 q2 st dl oa op ia ip n) (fun x hx => by
      simp only [rowsT, List.mem_append, List.mem_cons, List.not_mem_nil, or_false, List.mem_map, List.mem_range] at hx
      rcases hx with (rfl | rfl | rfl | rfl | rfl) | ⟨i, hi, rfl⟩
      · exact t1
      · simp
      · exact t2
      · omega
      · omega
      · have h := (hv i hi).2
        have w1 := withT_len (oa i) (op i) h.1 h.2.1
        have w2 := withT_len (ia i) (ip i) h.2.2.1 h.2.2.2
        simp only [holdT, List.length_append, List.length_cons, List.length_nil]; omega)
    have e : (rowsT r a p b q r2 a2 p2 b2 q2 st dl oa op ia ip n).length = 5 + n := by simp [rowsT]; omega
    rw [e] at this
    have : (5 + n) * 101 ≤ 10 * 101 := Nat.mul_le_mul_right _ (by omega)
    unfold entT; omega)
  clear ht hh hv k0 hr hr2 ha hp hbb hq ha2 hp2 hb2 hq2 hst hdl h1 h2
  go_enter Tryz.func6, Tryz.ntmps6
  go_wp2_with fail
  have hw0 : NoW w (w.alloc (.cells #[.int .u8 r, .int .u32 a, .int .u16 p, .int .u32 b, .int .u16 q, .int .u8 r2, .int .u32 a2, .int .u16 p2, .int .u32 b2, .int .u16 q2, .int .i64 st, .int .i64 dl, (.slice (some ⟨hb, ho, none⟩) n hc)] 31)) := (Fp.refl _ _).alloc _
  have hb0 : (w.alloc (.cells #[.int .u8 r, .int .u32 a, .int .u16 p, .int .u32 b, .int .u16 q, .int .u8 r2, .int .u32 a2, .int .u16 p2, .int .u32 b2, .int .u16 q2, .int .i64 st, .int .i64 dl, (.slice (some ⟨hb, ho, none⟩) n hc)] 31)).heap[w.heap.size]? = some (.cells #[.int .u8 r, .int .u32 a, .int .u16 p, .int .u32 b, .int .u16 q, .int .u8 r2, .int .u32 a2, .int .u16 p2, .int .u32 b2, .int .u16 q2, .int .i64 st, .int .i64 dl, (.slice (some ⟨hb, ho, none⟩) n hc)] 31) := heap_alloc_new _ _
  generalize w.alloc (.cells #[.int .u8 r, .int .u32 a, .int .u16 p, .int .u32 b, .int .u16 q, .int .u8 r2, .int .u32 a2, .int .u16 p2, .int .u32 b2, .int .u16 q2, .int .i64 st, .int .i64 dl, (.slice (some ⟨hb, ho, none⟩) n hc)] 31) = w0 at *
  obtain ⟨g, hg⟩ : ∃ g, g = w.heap.size := ⟨_, rfl⟩
  have Hg := Lib.hid hg
  rw [← hg] at hb0 ⊢
  clear hg
  refine (K0.out _ (Ht.out.low hw0)).mono ?_
  rintro e v0 ⟨rfl, hp⟩
  have hbk := (hp.block _ (Array.getElem?_eq_some_iff.1 hb0).1 id).trans hb0
  have Hn := Lib.hid (hw0.trans hp (fun _ _ h => h))
  clear hp hw0 hb0
  have x0 : v0.cell? ⟨g, 0, none⟩ = some (.int .u8 r) := by simp [World.cell?, hbk]
  have x1 : v0.cell? ⟨g, 1, none⟩ = some (.int .u32 a) := by simp [World.cell?, hbk]
  have x2 : v0.cell? ⟨g, 2, none⟩ = some (.int .u16 p) := by simp [World.cell?, hbk]
  have x3 : v0.cell? ⟨g, 3, none⟩ = some (.int .u32 b) := by simp [World.cell?, hbk]
  have x4 : v0.cell? ⟨g, 4, none⟩ = some (.int .u16 q) := by simp [World.cell?, hbk]
  have x5 : v0.cell? ⟨g, 5, none⟩ = some (.int .u8 r2) := by simp [World.cell?, hbk]
  have x6 : v0.cell? ⟨g, 6, none⟩ = some (.int .u32 a2) := by simp [World.cell?, hbk]
  have x7 : v0.cell? ⟨g, 7, none⟩ = some (.int .u16 p2) := by simp [World.cell?, hbk]
  have x8 : v0.cell? ⟨g, 8, none⟩ = some (.int .u32 b2) := by simp [World.cell?, hbk]
  have x9 : v0.cell? ⟨g, 9, none⟩ = some (.int .u16 q2) := by simp [World.cell?, hbk]
  have x10 : v0.cell? ⟨g, 10, none⟩ = some (.int .i64 st) := by simp [World.cell?, hbk]
  have x11 : v0.cell? ⟨g, 11, none⟩ = some (.int .i64 dl) := by simp [World.cell?, hbk]
  have x12 : v0.cell? ⟨g, 12, none⟩ = some ((.slice (some ⟨hb, ho, none⟩) n hc)) := by simp [World.cell?, hbk]

  have lg : g < v0.heap.size := cell_lt x0
  have X12 := Lib.hid x12
  clear hbk
  go_wp2_with fail
  refine wp_region_held_drew (S := fun wx => NoW v0 wx) (by kernel_rfl) (Fp.drew (Fp.refl _ _)) (fun hHeld => ?_)
  (refine take_at 0 (some 9) rfl rfl (by kernel_rfl) (by kernel_rfl) (by kernel_rfl) (fun _ _ _ h => h) (v := ?_) (by kernel_rfl) ?_ (by assumption) ?_; rotate_left; (focus (intro wS hSw; skip; go_simp; try with_reducible rfl)); (try simp only [Act.put, List.setIfInBounds_toArray, List.set_cons_zero, List.set_cons_succ]))
  (refine take_at 1 (some 10) rfl rfl (by kernel_rfl) (by kernel_rfl) (by kernel_rfl) (fun _ _ _ h => h) (v := ?_) (by kernel_rfl) ?_ (by assumption) ?_; rotate_left; (focus (intro wS hSw; (have y0 := (hSw.cell (p := ⟨g, 0, none⟩) lg id).trans x0); (have y1 := (hSw.cell (p := ⟨g, 1, none⟩) lg id).trans x1); (have y2 := (hSw.cell (p := ⟨g, 2, none⟩) lg id).trans x2); (have y3 := (hSw.cell (p := ⟨g, 3, none⟩) lg id).trans x3); (have y4 := (hSw.cell (p := ⟨g, 4, none⟩) lg id).trans x4); go_simp; try with_reducible rfl)); (try simp only [Act.put, List.setIfInBounds_toArray, List.set_cons_zero, List.set_cons_succ]))
  (refine take_at 3 (some 12) rfl rfl (by kernel_rfl) (by kernel_rfl) (by kernel_rfl) (fun _ _ _ h => h) (v := ?_) (by kernel_rfl) ?_ (by assumption) ?_; rotate_left; (focus (intro wS hSw; skip; go_simp; try with_reducible rfl)); (try simp only [Act.put, List.setIfInBounds_toArray, List.set_cons_zero, List.set_cons_succ]))
  (refine take_at 4 (some 13) rfl rfl (by kernel_rfl) (by kernel_rfl) (by kernel_rfl) (fun _ _ _ h => h) (v := ?_) (by kernel_rfl) ?_ (by assumption) ?_; rotate_left; (focus (intro wS hSw; (have y5 := (hSw.cell (p := ⟨g, 5, none⟩) lg id).trans x5); (have y6 := (hSw.cell (p := ⟨g, 6, none⟩) lg id).trans x6); (have y7 := (hSw.cell (p := ⟨g, 7, none⟩) lg id).trans x7); (have y8 := (hSw.cell (p := ⟨g, 8, none⟩) lg id).trans x8); (have y9 := (hSw.cell (p := ⟨g, 9, none⟩) lg id).trans x9); go_simp; try with_reducible rfl)); (try simp only [Act.put, List.setIfInBounds_toArray, List.set_cons_zero, List.set_cons_succ]))
  (refine take_at 6 (some 15) rfl rfl (by kernel_rfl) (by kernel_rfl) (by kernel_rfl) (fun _ _ _ h => h) (v := ?_) (by kernel_rfl) ?_ (by assumption) ?_; rotate_left; (focus (intro wS hSw; skip; go_simp; try with_reducible rfl)); (try simp only [Act.put, List.setIfInBounds_toArray, List.set_cons_zero, List.set_cons_succ]))
  (refine take_at 7 (some 16) rfl rfl (by kernel_rfl) (by kernel_rfl) (by kernel_rfl) (fun _ _ _ h => h) (v := ?_) (by kernel_rfl) ?_ (by assumption) ?_; rotate_left; (focus (intro wS hSw; (have y10 := (hSw.cell (p := ⟨g, 10, none⟩) lg id).trans x10); go_simp; try with_reducible rfl)); (try simp only [Act.put, List.setIfInBounds_toArray, List.set_cons_zero, List.set_cons_succ]))
  (refine take_at 9 (some 18) rfl rfl (by kernel_rfl) (by kernel_rfl) (by kernel_rfl) (fun _ _ _ h => h) (v := ?_) (by kernel_rfl) ?_ (by assumption) ?_; rotate_left; (focus (intro wS hSw; skip; go_simp; try with_reducible rfl)); (try simp only [Act.put, List.setIfInBounds_toArray, List.set_cons_zero, List.set_cons_succ]))
  (refine take_at 10 (some 19) rfl rfl (by kernel_rfl) (by kernel_rfl) (by kernel_rfl) (fun _ _ _ h => h) (v := ?_) (by kernel_rfl) ?_ (by assumption) ?_; rotate_left; (focus (intro wS hSw; (have y11 := (hSw.cell (p := ⟨g, 11, none⟩) lg id).trans x11); go_simp; try with_reducible rfl)); (try simp only [Act.put, List.setIfInBounds_toArray, List.set_cons_zero, List.set_cons_succ]))
  clear x0 x1 x2 x3 x4 x5 x6 x7 x8 x9 x10 x11 x12
  refine wpAnyH_ready (rs := [2]) (by kernel_rfl) (by simp) ?_
  refine AllReadyH.cons rfl (fun K hK => ?_) AllReadyH.nil
  go_simp
  go_at_call 18
  refine (P1.out _ (Ht.out.low (Hn.out.trans hHeld (fun _ _ h => h)))).mono ?_
  rintro e u ⟨rfl, hp⟩
  have hn : NoW v0 u := Fp.trans hHeld hp (fun _ _ h => h)
  clear hp hHeld
  refine hK.out _ _ hn (fun hHeld => ?_)
  clear hK K hn
  try simp only [Act.put, List.setIfInBounds_toArray, List.set_cons_zero, List.set_cons_succ]
  refine wpAnyH_ready (rs := [5]) (by kernel_rfl) (by simp) ?_
  refine AllReadyH.cons rfl (fun K hK => ?_) AllReadyH.nil
  go_simp
  go_at_call 18
  refine (P2.out _ (Ht.out.low (Hn.out.trans hHeld (fun _ _ h => h)))).mono ?_
  rintro e u ⟨rfl, hp⟩
  have hn : NoW v0 u := Fp.trans hHeld hp (fun _ _ h => h)
  clear hp hHeld
  refine hK.out _ _ hn (fun hHeld => ?_)
  clear hK K hn
  try simp only [Act.put, List.setIfInBounds_toArray, List.set_cons_zero, List.set_cons_succ]
  refine wpAnyH_ready (rs := [8]) (by kernel_rfl) (by simp) ?_
  refine AllReadyH.cons rfl (fun K hK => ?_) AllReadyH.nil
  go_simp
  go_at_call 19
  refine (P3.out _ (Ht.out.low (Hn.out.trans hHeld (fun _ _ h => h)))).mono ?_
  rintro e u ⟨rfl, hp⟩
  have hn : NoW v0 u := Fp.trans hHeld hp (fun _ _ h => h)
  clear hp hHeld
  refine hK.out _ _ hn (fun hHeld => ?_)
  clear hK K hn
  try simp only [Act.put, List.setIfInBounds_toArray, List.set_cons_zero, List.set_cons_succ]
  refine wpAnyH_ready (rs := [11]) (by kernel_rfl) (by simp) ?_
  refine AllReadyH.cons rfl (fun K hK => ?_) AllReadyH.nil
  go_simp
  go_at_call 19
  refine (P4.out _ (Ht.out.low (Hn.out.trans hHeld (fun _ _ h => h)))).mono ?_
  rintro e u ⟨rfl, hp⟩
  have hn : NoW v0 u := Fp.trans hHeld hp (fun _ _ h => h)
  clear hp hHeld
  refine hK.out _ _ hn (fun hHeld => ?_)
  clear hK K hn
  try simp only [Act.put, List.setIfInBounds_toArray, List.set_cons_zero, List.set_cons_succ]
  refine wpAnyH_ready (rs := [12]) (by kernel_rfl) (by simp) ?_
  refine AllReadyH.cons rfl (fun K hK => ?_) AllReadyH.nil
  go_simp
  have hbs : (u.alloc (.cells #[str (tupT r a p b q), str [124], str (tupT r2 a2 p2 b2 q2), str (decDigits st), str (decDigits dl)] 9)).heap[u.heap.size]? = _ := heap_alloc_new _ _
  have hgs : v0.heap.size ≤ u.heap.size := hHeld.size
  refine hK.out _ _ (hHeld.alloc _) (fun hHeld2 => ?_)
  clear hK K
  try simp only [Act.put, List.setIfInBounds_toArray, List.set_cons_zero, List.set_cons_succ]
  refine wpAnyH_ready (rs := [13]) (by kernel_rfl) (by simp) ?_
  refine AllReadyH.cons rfl (fun K hK => ?_) AllReadyH.nil
  go_simp
  refine hK.out _ _ hHeld2 (fun hHeld3 => ?_)
  clear hK K hHeld2
  try simp only [Act.put, List.setIfInBounds_toArray, List.set_cons_zero, List.set_cons_succ]
  refine wpAnyH_done (by kernel_rfl) ?_ _
  have Hz := Lib.hid (Hn.out.trans hHeld3 (fun _ _ h => h))
  have hgw : w.heap.size ≤ u.heap.size := Nat.le_trans Hn.out.size hgs
  have x12 := (hHeld3.cell (p := ⟨g, 12, none⟩) lg id).trans X12.out
  clear hHeld hHeld3
  have Hbs := Lib.hid hbs
  clear hbs
  generalize u.alloc (.cells #[str (tupT r a p b q), str [124], str (tupT r2 a2 p2 b2 q2), str (decDigits st), str (decDigits dl)] 9) = v1 at *
  generalize u.heap.size = gs at *
  go_wp2_with fail

  clear x12 X12 lg Hn
  have hgw2 : w.heap.size ≤ gs := hgw
  clear hgw hgs
  go_loopg [3, 25] (n + 1) (fun gg v i wx => ∃ (k : Nat) (v' : Value), v' = v ∧ k ≤ n ∧ gg = n + 1 - k ∧ i = .int .i64 (k : Int) ∧ wx.ownsRow w.heap.size 9 1 v' (5 + k) ((rowsT r a p b q r2 a2 p2 b2 q2 st dl oa op ia ip k).map str) ∧ NoW w wx)
  case atStart => exact ⟨0, _, rfl, by omega, by omega, rfl, ⟨by simp [rowsT], Or.inr ⟨gs, 5, _, rfl, hgw2, Hbs.out, by omega, by unfold maxLen; omega, rfl, by simp [rowsT]⟩⟩, Hz.out⟩
  case round =>
    obtain ⟨k, v, rfl, hk, hg, rfl, hown, hf⟩ := hrel
    have Hg := Lib.hid hg
    have Hf := Lib.hid hf
    have Hown := Lib.hid hown
    have hsz := hf.size
    clear hg hf hown
    by_cases hlt : k < n
    · obtain ⟨⟨v0', v1', v2', v3'⟩, b0, b1, b2, b3⟩ := Hv.out k hlt
      have hhr := Hh.out.low Hf.out
      have y0 : wr.cell? ⟨hb, ho + k * 4, none⟩ = some (.int .u32 (oa k)) := hhr.cell (k * 4) _ v0'
      have y1 : wr.cell? ⟨hb, ho + k * 4 + 1, none⟩ = some (.int .u16 (op k)) := hhr.cell (k * 4 + 1) _ v1'
      have y2 : wr.cell? ⟨hb, ho + k * 4 + 2, none⟩ = some (.int .u32 (ia k)) := hhr.cell (k * 4 + 2) _ v2'
      have y3 : wr.cell? ⟨hb, ho + k * 4 + 3, none⟩ = some (.int .u16 (ip k)) := hhr.cell (k * 4 + 3) _ v3'
      have hkk : decide ((k : Int) < (n : Int)) = true := by simp; omega
      clear v0' v1' v2' v3' hhr
      have Q1 := Lib.hid (fun W (hW : Tb W) => point_text (oa k) b0 (op k) b1 W hW)
      have Q2 := Lib.hid (fun W (hW : Tb W) => point_text (ia k) b2 (ip k) b3 W hW)
      have l1 := withT_len (oa k) (op k) b0 b1
      have l2 := withT_len (ia k) (ip k) b2 b3
      have hadd1 : ∀ W, (Op.stringOp .add ⟨(withT 58 (oa k) (op k)).toArray⟩ ⟨#[61]⟩).run Tryz.prog W = .ok (str (withT 58 (oa k) (op k) ++ [61])) W := fun W => run_string_add_lists W (withT 58 (oa k) (op k)) [61] (by omega) (by simp)
      have hadd2 : ∀ W, (Op.stringOp .add ⟨(withT 58 (oa k) (op k) ++ [61]).toArray⟩ ⟨(withT 58 (ia k) (ip k)).toArray⟩).run Tryz.prog W = .ok (str (withT 58 (oa k) (op k) ++ 61 :: withT 58 (ia k) (ip k))) W := fun W => by
        have e : withT 58 (oa k) (op k) ++ 61 :: withT 58 (ia k) (ip k) = withT 58 (oa k) (op k) ++ [61] ++ withT 58 (ia k) (ip k) := by simp
        rw [e]; exact run_string_add_lists W (withT 58 (oa k) (op k) ++ [61]) (withT 58 (ia k) (ip k)) (by simp; omega) (by omega)
      clear b0 b1 b2 b3 l1 l2
      go_wp2_with fail
      have hq : NoW wr (wr.alloc (.cells #[.int .u32 (oa k), .int .u16 (op k), .int .u32 (ia k), .int .u16 (ip k)] 59)) := (Fp.refl _ _).alloc _
      have hbq := heap_alloc_new wr (.cells #[.int .u32 (oa k), .int .u16 (op k), .int .u32 (ia k), .int .u16 (ip k)] 59)
      have hfq := Hf.out.trans hq (fun _ _ h => h)
      have hownq := ownsRow_of_block Hown.out fun x e => hq.block x (World.ownsRow.lt Hown.out x e).2 id
      have hnev : ∀ x, v.ownBlock = some x → w.heap.size ≤ x ∧ x ≠ wr.heap.size := fun x e => ⟨(World.ownsRow.lt Hown.out x e).1, by have := (World.ownsRow.lt Hown.out x e).2; omega⟩
      clear hq Hown Hf
      generalize wr.alloc (.cells #[.int .u32 (oa k), .int .u16 (op k), .int .u32 (ia k), .int .u16 (ip k)] 59) = wq at *
      generalize wr.heap.size = gq at *
      have Hfq := Lib.hid hfq
      have Hba := Lib.hid (show ∀ i, i < w.heap.size → v.ownBlock = some i → False from fun i hi e => by have := (hnev i e).1; omega)
      have Hown := Lib.hid (ownsRow_of_block (w' := wq.drew) hownq fun x e => rfl)
      have hne : ¬ v.ownBlock = some gq := fun e => (hnev gq e).2 rfl
      have z0 : wq.cell? ⟨gq, 0, none⟩ = some (.int .u32 (oa k)) := by simp [World.cell?, hbq]
      have z1 : wq.cell? ⟨gq, 1, none⟩ = some (.int .u16 (op k)) := by simp [World.cell?, hbq]
      have z2 : wq.cell? ⟨gq, 2, none⟩ = some (.int .u32 (ia k)) := by simp [World.cell?, hbq]
      have z3 : wq.cell? ⟨gq, 3, none⟩ = some (.int .u16 (ip k)) := by simp [World.cell?, hbq]
      have lq : gq < wq.heap.size := cell_lt z0
      clear hfq hownq hnev hbq y0 y1 y2 y3
      refine wp_region_held_drew (S := fun wx => Fp (fun b => v.ownBlock = some b) wq wx) (by kernel_rfl) (Fp.drew (Fp.refl _ _)) (fun hHeld => ?_)
      (refine take_at 0 (some 29) rfl rfl (by kernel_rfl) (by kernel_rfl) (by kernel_rfl) (fun _ _ _ h => h) (v := ?_) (by kernel_rfl) ?_ (by assumption) ?_; rotate_left; (focus (intro wS hSw; skip; go_simp; try with_reducible rfl)); (try simp only [Act.put, List.setIfInBounds_toArray, List.set_cons_zero, List.set_cons_succ]))
      (refine take_at 1 (some 30) rfl rfl (by kernel_rfl) (by kernel_rfl) (by kernel_rfl) (fun _ _ _ h => h) (v := ?_) (by kernel_rfl) ?_ (by assumption) ?_; rotate_left; (focus (intro wS hSw; skip; go_simp; try with_reducible rfl)); (try simp only [Act.put, List.setIfInBounds_toArray, List.set_cons_zero, List.set_cons_succ]))
      (refine take_at 2 (some 31) rfl rfl (by kernel_rfl) (by kernel_rfl) (by kernel_rfl) (fun _ _ _ h => h) (v := ?_) (by kernel_rfl) ?_ (by assumption) ?_; rotate_left; (focus (intro wS hSw; (have q0 := (hSw.cell (p := ⟨gq, 0, none⟩) lq hne).trans z0); (have q1 := (hSw.cell (p := ⟨gq, 1, none⟩) lq hne).trans z1); go_simp; try with_reducible rfl)); (try simp only [Act.put, List.setIfInBounds_toArray, List.set_cons_zero, List.set_cons_succ]))
      (refine take_at 5 (some 34) rfl rfl (by kernel_rfl) (by kernel_rfl) (by kernel_rfl) (fun _ _ _ h => h) (v := ?_) (by kernel_rfl) ?_ (by assumption) ?_; rotate_left; (focus (intro wS hSw; skip; go_simp; try with_reducible rfl)); (try simp only [Act.put, List.setIfInBounds_toArray, List.set_cons_zero, List.set_cons_succ]))
      (refine take_at 6 (some 35) rfl rfl (by kernel_rfl) (by kernel_rfl) (by kernel_rfl) (fun _ _ _ h => h) (v := ?_) (by kernel_rfl) ?_ (by assumption) ?_; rotate_left; (focus (intro wS hSw; (have q2 := (hSw.cell (p := ⟨gq, 2, none⟩) lq hne).trans z2); (have q3 := (hSw.cell (p := ⟨gq, 3, none⟩) lq hne).trans z3); go_simp; try with_reducible rfl)); (try simp only [Act.put, List.setIfInBounds_toArray, List.set_cons_zero, List.set_cons_succ]))
      refine wpAnyH_ready (rs := [3]) (by kernel_rfl) (by simp) ?_
      refine AllReadyH.cons rfl (fun K hK => ?_) AllReadyH.nil
      go_simp
      go_at_call 20
      refine (Q1.out _ (Ht.out.low (Hfq.out.trans hHeld Hba.out))).mono ?_
      rintro e u ⟨rfl, hp⟩
      have hn : Fp (fun b => v.ownBlock = some b) wq u := Fp.trans hHeld hp (fun _ _ h => h.elim)
      have hown1 := ownsRow_of_block Hown.out fun x e => hp.block x (World.ownsRow.lt Hown.out x e).2 id
      clear Hown
      have Hown := Lib.hid hown1
      clear hown1 hp hHeld
      refine hK.out _ _ hn (fun hHeld => ?_)
      clear hK K hn
      try simp only [Act.put, List.setIfInBounds_toArray, List.set_cons_zero, List.set_cons_succ]
      (refine take_at 4 (some 33) rfl rfl (by kernel_rfl) (by kernel_rfl) (by kernel_rfl) (fun _ _ _ h => h) (v := ?_) (by kernel_rfl) ?_ (by assumption) ?_; rotate_left; (focus (intro wS hSw; skip; go_simp; try with_reducible rfl)); (try simp only [Act.put, List.setIfInBounds_toArray, List.set_cons_zero, List.set_cons_succ]))
      refine wpAnyH_ready (rs := [7]) (by kernel_rfl) (by simp) ?_
      refine AllReadyH.cons rfl (fun K hK => ?_) AllReadyH.nil
      go_simp
      go_at_call 20
      refine (Q2.out _ (Ht.out.low (Hfq.out.trans hHeld Hba.out))).mono ?_
      rintro e u ⟨rfl, hp⟩
      have hn : Fp (fun b => v.ownBlock = some b) wq u := Fp.trans hHeld hp (fun _ _ h => h.elim)
      have hown1 := ownsRow_of_block Hown.out fun x e => hp.block x (World.ownsRow.lt Hown.out x e).2 id
      clear Hown
      have Hown := Lib.hid hown1
      clear hown1 hp hHeld
      refine hK.out _ _ hn (fun hHeld => ?_)
      clear hK K hn
      try simp only [Act.put, List.setIfInBounds_toArray, List.set_cons_zero, List.set_cons_succ]
      (refine take_at 8 (some 37) rfl rfl (by kernel_rfl) (by kernel_rfl) (by kernel_rfl) (fun _ _ _ h => h) (v := ?_) (by kernel_rfl) ?_ (by assumption) ?_; rotate_left; (focus (intro wS hSw; skip; go_simp; try with_reducible rfl)); (try simp only [Act.put, List.setIfInBounds_toArray, List.set_cons_zero, List.set_cons_succ]))
      refine wpAnyH_ready (rs := [9]) (by kernel_rfl) (by simp) ?_
      refine AllReadyH.cons rfl (fun K hK => ?_) AllReadyH.nil
      go_simp
      have hown1 := ownsRow_of_block (w' := u.alloc (.cells #[str (withT 58 (oa k) (op k) ++ 61 :: withT 58 (ia k) (ip k))] 9)) Hown.out fun x e => ((Fp.refl (fun _ => False) u).alloc (.cells #[str (withT 58 (oa k) (op k) ++ 61 :: withT 58 (ia k) (ip k))] 9)).block x (World.ownsRow.lt Hown.out x e).2 id
      have hub := heap_alloc_new u (.cells #[str (withT 58 (oa k) (op k) ++ 61 :: withT 58 (ia k) (ip k))] 9)
      have hsu : w.heap.size ≤ u.heap.size := Nat.le_trans Hfq.out.size hHeld.size
      clear Hown
      have Hown := Lib.hid hown1
      clear hown1
      refine hK.out _ _ (hHeld.alloc _) (fun hHeld2 => ?_)
      clear hK K hHeld
      try simp only [Act.put, List.setIfInBounds_toArray, List.set_cons_zero, List.set_cons_succ]
      generalize u.alloc (.cells #[str (withT 58 (oa k) (op k) ++ 61 :: withT 58 (ia k) (ip k))] 9) = u9 at *
      generalize u.heap.size = gu at *
      refine wpAnyH_ready (rs := [10]) (by kernel_rfl) (by simp) ?_
      refine AllReadyH.cons rfl (fun K hK => ?_) AllReadyH.nil
      rw [if_pos (by kernel_rfl)]
      refine op_append1 _ _ 57 rfl w.heap.size 9 (.string ByteArray.empty) 1 Tryz.underlying57 infoStr rfl (by decide) v (5 + k) _ rfl Hown.out gu [str (withT 58 (oa k) (op k) ++ 61 :: withT 58 (ia k) (ip k))] rfl rfl hub ?_ ?_ ?_ ?_
      · intro x hx; simp at hx; rw [hx]; rfl
      · omega
      · exact Nat.le_trans Hfq.out.size hHeld2.size
      intro v2 w3 hown3 hgr3
      have hf3 : Fp (fun b => v.ownBlock = some b) wq w3 := Fp.grown hHeld2 hgr3 (fun x e => Or.inr e)
      refine hK.out _ _ hf3 (fun hHeld3 => ?_)
      clear hK K hf3 hHeld2 hgr3
      try simp only [Act.put, List.setIfInBounds_toArray, List.set_cons_zero, List.set_cons_succ]
      refine wpAnyH_ready (rs := [11]) (by kernel_rfl) (by simp) ?_
      refine AllReadyH.cons rfl (fun K hK => ?_) AllReadyH.nil
      go_simp
      refine hK.out _ _ hHeld3 (fun hHeld => ?_)
      clear hK K hHeld3
      try simp only [Act.put, List.setIfInBounds_toArray, List.set_cons_zero, List.set_cons_succ]
      refine wpAnyH_done (by kernel_rfl) ?_ _
      have Hf3 := Lib.hid (Hfq.out.trans hHeld Hba.out)
      have hrow : ((rowsT r a p b q r2 a2 p2 b2 q2 st dl oa op ia ip (k + 1)).map str) = ((rowsT r a p b q r2 a2 p2 b2 q2 st dl oa op ia ip k).map str) ++ [str (withT 58 (oa k) (op k) ++ 61 :: withT 58 (ia k) (ip k))] := by simp [rowsT, holdT, List.range_succ]
      rw [← hrow] at hown3
      have Hown3 := Lib.hid hown3
      clear hown3 hrow hHeld Hown Hfq Hba hub
      go_wp2_with fail
      go_roundg (n - k)
      case measure => have := Hg.out; omega
      case rel => exact ⟨k + 1, _, rfl, by omega, by omega, by go_num, Hown3.out, Hf3.out⟩
    · obtain rfl : k = n := by omega
      obtain ⟨gv, cap, hv, hcap, hlt2, hcell⟩ : ∃ (gv cap : Nat), v = .slice (some ⟨gv, 0, none⟩) (5 + k) cap ∧ 5 + k ≤ cap ∧ gv < wr.heap.size ∧ ∀ j x, ((rowsT r a p b q r2 a2 p2 b2 q2 st dl oa op ia ip k).map str)[j]? = some x → wr.cell? ⟨gv, j, none⟩ = some x := by
        have hc := Hown.out
        obtain ⟨_, h2⟩ := Hown.out
        rcases h2 with ⟨_, h0⟩ | ⟨g, cap, cur, rfl, hg2, hh, hcap, hcap2, hcs, htk⟩
        · omega
        · refine ⟨g, cap, rfl, hcap, (Array.getElem?_eq_some_iff.1 hh).1, fun j x hj => ?_⟩
          have := World.ownsRow.cells hc (g := g) rfl j x hj
          rwa [add_eq0] at this
      subst hv
      have Hcell := Lib.hid hcell
      clear hcell Hown
      go_wp2_with fail
      refine (join_ok gv (5 + k) cap (rowsT r a p b q r2 a2 p2 b2 q2 st dl oa op ia ip k) wr (fun j x hx => Hcell.out j _ (by rw [List.getElem?_map, hx]; rfl)) hlt2 (by simp [rowsT]; omega) hcap Hlen.out).mono ?_
      rintro e w2 ⟨rfl, hp⟩
      have Hw := Lib.hid (Hf.out.trans hp (fun _ _ h => h))
      clear hp
      go_wp2_with fail
      go_ret
      exact ⟨rfl, Hw.out⟩
end Go.Proofs.YtdmbjndhdldggaaGreatDoor
