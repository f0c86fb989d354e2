/- Texts of this proof, merged: EnL EpJ SeeE EpT EpH EpL ErA EtA EaM EtB. -/
import Derived.Test.YtdmbjndhdldggaaDoorMb
import Derived.Test.YtdmbjndhdldggaaDoorMa
import Derived.Test.YtdmbjndhdldggaaDoorRows
import Derived.Maps.RangeWalk
import Derived.Maps.Views
import Derived.Lib.AtoiAllCases
import Derived.Lib.ParseIntBCases
namespace Go.Proofs.YtdmbjndhdldggaaDoor
set_option linter.unusedVariables false
set_option linter.unusedSimpArgs false
open Go.RowKit Go.Lib Go.Sort

/-- 'append' of one element that lies in a block of its own, where it comes up in a drawn region. -/
theorem op_append1 {P : Program} {w : World} {o : Oper} {a : Act} {K : Act → World → Prop} {Q : Exit → Act → World → Prop} (s x : Operand) (t : TypeId)
    (ho : o.op = .call { callee := .builtin .append, args := #[s, x], argTypes := #[t, t] })
    (base : Nat) (e : TypeId) (z : Value) (size : Nat) (ht : P.underlying t = some (.slice e)) (hi : ∃ i, P.info? e = some i ∧ i.zero = some z ∧ i.size = size ∧ i.bytes ≤ 65536)
    (hzs : z.cells.size = size) (hsz : 0 < size) (v : Value) (n : Nat) (xs : List Value) (hs : a.eval s = v) (hown : w.ownsRow base e size v n xs)
    (g : Nat) (news : List Value) (hx : a.eval x = .slice (some ⟨g, 0, none⟩) 1 1) (hl : news.length = size) (hnews : w.heap[g]? = some (.cells news.toArray e (0, 0))) (h1 : ∀ u ∈ news, u.oneCell' = true)
    (hn : n + 1 ≤ 1048576) (hbase : base ≤ w.heap.size)
    (h : ∀ v' w', w'.ownsRow base e size v' (n + 1) (xs ++ news) → w.grownBy w' v.ownBlock → K (a.put o.dst v') w') : Oper.wp P o a w K Q := by
  obtain ⟨i, hi, hz, rfl, hb⟩ := hi
  have hnews' : ∀ j u, news[j]? = some u → w.cell? ((⟨g, 0, none⟩ : Addr).add j) = some u := by
    intro j u hj
    have e : (⟨g, 0, none⟩ : Addr).add j = ⟨g, j, none⟩ := by unfold Addr.add; split <;> simp_all
    rw [e]
    simp [World.cell?, hnews, hj]
  obtain ⟨v', w', hr, h2, h3, h4⟩ := run_append_own (P := P) w base t o.type e i z i.size i.bytes ht hi hz rfl rfl hzs hsz v n xs hown ⟨g, 0, none⟩ 1 1 news (by omega) hnews' h1 (by unfold maxLen; omega) (by have := Nat.mul_le_mul hn hb; omega) hbase
  unfold Oper.wp execOp
  simp only [ho, resolve, invoke, builtin, Sem.run_bind, Sem.run_pure, Result.andThen_ok, List.map_toArray, List.map_cons, List.map_nil, hs, hx, hr]
  exact h v' w' h2 h3

/-- A hold's text; an entry's. -/
def holdT (oa op ia ip : Nat → Nat) (i : Nat) : List UInt8 := withT 58 (oa i) (op i) ++ 61 :: withT 58 (ia i) (ip i)
def rowsT (r a p b q r2 a2 p2 b2 q2 st dl : Nat) (oa op ia ip : Nat → Nat) (n : Nat) : List (List UInt8) := [tupT r a p b q, [124], tupT r2 a2 p2 b2 q2, decDigits st, decDigits dl] ++ (List.range n).map (holdT oa op ia ip)
def entT (r a p b q r2 a2 p2 b2 q2 st dl : Nat) (oa op ia ip : Nat → Nat) (n : Nat) : List UInt8 := joinB (rowsT r a p b q r2 a2 p2 b2 q2 st dl oa op ia ip n)
theorem joinB_len (m : Nat) : ∀ ps : List (List UInt8), (∀ p ∈ ps, p.length ≤ m) → (joinB ps).length ≤ ps.length * (m + 1)
  | [], _ => by simp [joinB, List.intercalate]
  | [x], h => by have := h x (by simp); simp [joinB, List.intercalate]; omega
  | x :: y :: l, h => by
    have ih := joinB_len m (y :: l) (fun p hp => h p (by simp at hp ⊢; exact .inr hp))
    have := h x (by simp)
    have e : joinB (x :: y :: l) = x ++ 32 :: joinB (y :: l) := by simp [joinB, List.intercalate]
    rw [e]
    simp only [List.length_append, List.length_cons] at *
    have : (l.length + 1 + 1) * (m + 1) = (l.length + 1) * (m + 1) + (m + 1) := by rw [Nat.add_mul (l.length + 1) 1]; omega
    omega

set_option maxHeartbeats 4000000 in
set_option maxRecDepth 100000 in
theorem ent_text (r a p b q r2 a2 p2 b2 q2 st dl : Nat) (oa op ia ip : Nat → Nat) (hb ho n hc : Nat) (ys : List Value) (hr : r < 256) (hr2 : r2 < 256) (ha : a < 4294967296) (hp : p < 65536) (hbb : b < 4294967296) (hq : q < 65536) (ha2 : a2 < 4294967296) (hp2 : p2 < 65536) (hb2 : b2 < 4294967296) (hq2 : q2 < 65536)
    (hst : st ≤ 7) (hdl : dl ≤ 1099511635216) (hn : n ≤ 5) (h1 : tupB r p q = true) (h2 : tupB r2 p2 q2 = true)
    (hv : ∀ i, i < n → (ys[i * 4]? = some (.int .u32 (oa i)) ∧ ys[i * 4 + 1]? = some (.int .u16 (op i)) ∧ ys[i * 4 + 2]? = some (.int .u32 (ia i)) ∧ ys[i * 4 + 3]? = some (.int .u16 (ip i))) ∧ oa i < 4294967296 ∧ op i < 65536 ∧ ia i < 4294967296 ∧ ip i < 65536)
    (w : World) (ht : Tb w) (hh : Holds w hb ho n ys)
    (k0 : ∀ W, Tb W → Calls Tryd.prog 19 #[.agg #[.int .u8 r, .int .u32 a, .int .u16 p, .int .u32 b, .int .u16 q, .int .u8 r2, .int .u32 a2, .int .u16 p2, .int .u32 b2, .int .u16 q2, .int .i64 st, .int .i64 dl, (.slice (some ⟨hb, ho, none⟩) n hc)]] W (Ret1 (.int .i64 0) W)) :
    Calls Tryd.prog 37 #[.agg #[.int .u8 r, .int .u32 a, .int .u16 p, .int .u32 b, .int .u16 q, .int .u8 r2, .int .u32 a2, .int .u16 p2, .int .u32 b2, .int .u16 q2, .int .i64 st, .int .i64 dl, (.slice (some ⟨hb, ho, none⟩) n hc)]] w (Ret1 (str (entT r a p b q r2 a2 p2 b2 q2 st dl oa op ia ip n)) w) := by
  have Ht := Lib.hid ht
  have Hh := Lib.hid hh
  have Hv := Lib.hid hv
  have K0 := Lib.hid k0
  have P1 := Lib.hid (fun W (hW : Tb W) => tup_text r a p b q hr ha hp hbb hq h1 W hW)
  have P2 := Lib.hid (fun W (hW : Tb W) => tup_text r2 a2 p2 b2 q2 hr2 ha2 hp2 hb2 hq2 h2 W hW)
  have P3 := Lib.hid (fun W (hW : Tb W) => itoa_any st (by omega) W hW)
  have P4 := Lib.hid (fun W (hW : Tb W) => itoa_any dl (by omega) W hW)
  have Hlen := Lib.hid (show (entT r a p b q r2 a2 p2 b2 q2 st dl oa op ia ip n).length ≤ 100000 from by
    have t1 := tupT_len r a p b q ha hp hbb hq
    have t2 := tupT_len r2 a2 p2 b2 q2 ha2 hp2 hb2 hq2
    have t3 := dec_len 20 st (by omega) (by omega)
    have t4 := dec_len 20 dl (by omega) (by omega)
    have := joinB_len 100 (rowsT r a p b q r2 a2 p2 b2 q2 st dl oa op ia ip n) (fun x hx => by
      simp only [rowsT, List.mem_append, List.mem_cons, List.not_mem_nil, or_false, List.mem_map, List.mem_range] at hx
      rcases hx with (rfl | rfl | rfl | rfl | rfl) | ⟨i, hi, rfl⟩
      · exact t1
      · simp
      · exact t2
      · omega
      · omega
      · have h := (hv i hi).2
        have w1 := withT_len (oa i) (op i) h.1 h.2.1
        have w2 := withT_len (ia i) (ip i) h.2.2.1 h.2.2.2
        simp only [holdT, List.length_append, List.length_cons, List.length_nil]; omega)
    have e : (rowsT r a p b q r2 a2 p2 b2 q2 st dl oa op ia ip n).length = 5 + n := by simp [rowsT]; omega
    rw [e] at this
    have : (5 + n) * 101 ≤ 10 * 101 := Nat.mul_le_mul_right _ (by omega)
    unfold entT; omega)
  clear ht hh hv k0 hr hr2 ha hp hbb hq ha2 hp2 hb2 hq2 hst hdl h1 h2
  go_enter Tryd.func37, Tryd.ntmps37
  go_wp2_with fail
  have hw0 : NoW w (w.alloc (.cells #[.int .u8 r, .int .u32 a, .int .u16 p, .int .u32 b, .int .u16 q, .int .u8 r2, .int .u32 a2, .int .u16 p2, .int .u32 b2, .int .u16 q2, .int .i64 st, .int .i64 dl, (.slice (some ⟨hb, ho, none⟩) n hc)] 31)) := (Fp.refl _ _).alloc _
  have hb0 : (w.alloc (.cells #[.int .u8 r, .int .u32 a, .int .u16 p, .int .u32 b, .int .u16 q, .int .u8 r2, .int .u32 a2, .int .u16 p2, .int .u32 b2, .int .u16 q2, .int .i64 st, .int .i64 dl, (.slice (some ⟨hb, ho, none⟩) n hc)] 31)).heap[w.heap.size]? = some (.cells #[.int .u8 r, .int .u32 a, .int .u16 p, .int .u32 b, .int .u16 q, .int .u8 r2, .int .u32 a2, .int .u16 p2, .int .u32 b2, .int .u16 q2, .int .i64 st, .int .i64 dl, (.slice (some ⟨hb, ho, none⟩) n hc)] 31) := heap_alloc_new _ _
  generalize w.alloc (.cells #[.int .u8 r, .int .u32 a, .int .u16 p, .int .u32 b, .int .u16 q, .int .u8 r2, .int .u32 a2, .int .u16 p2, .int .u32 b2, .int .u16 q2, .int .i64 st, .int .i64 dl, (.slice (some ⟨hb, ho, none⟩) n hc)] 31) = w0 at *
  obtain ⟨g, hg⟩ : ∃ g, g = w.heap.size := ⟨_, rfl⟩
  have Hg := Lib.hid hg
  rw [← hg] at hb0 ⊢
  clear hg
  refine (K0.out _ (Ht.out.low hw0)).mono ?_
  rintro e v0 ⟨rfl, hp⟩
  have hbk := (hp.block _ (Array.getElem?_eq_some_iff.1 hb0).1 id).trans hb0
  have Hn := Lib.hid (hw0.trans hp (fun _ _ h => h))
  clear hp hw0 hb0
  have x0 : v0.cell? ⟨g, 0, none⟩ = some (.int .u8 r) := by simp [World.cell?, hbk]
  have x1 : v0.cell? ⟨g, 1, none⟩ = some (.int .u32 a) := by simp [World.cell?, hbk]
  have x2 : v0.cell? ⟨g, 2, none⟩ = some (.int .u16 p) := by simp [World.cell?, hbk]
  have x3 : v0.cell? ⟨g, 3, none⟩ = some (.int .u32 b) := by simp [World.cell?, hbk]
  have x4 : v0.cell? ⟨g, 4, none⟩ = some (.int .u16 q) := by simp [World.cell?, hbk]
  have x5 : v0.cell? ⟨g, 5, none⟩ = some (.int .u8 r2) := by simp [World.cell?, hbk]
  have x6 : v0.cell? ⟨g, 6, none⟩ = some (.int .u32 a2) := by simp [World.cell?, hbk]
  have x7 : v0.cell? ⟨g, 7, none⟩ = some (.int .u16 p2) := by simp [World.cell?, hbk]
  have x8 : v0.cell? ⟨g, 8, none⟩ = some (.int .u32 b2) := by simp [World.cell?, hbk]
  have x9 : v0.cell? ⟨g, 9, none⟩ = some (.int .u16 q2) := by simp [World.cell?, hbk]
  have x10 : v0.cell? ⟨g, 10, none⟩ = some (.int .i64 st) := by simp [World.cell?, hbk]
  have x11 : v0.cell? ⟨g, 11, none⟩ = some (.int .i64 dl) := by simp [World.cell?, hbk]
  have x12 : v0.cell? ⟨g, 12, none⟩ = some ((.slice (some ⟨hb, ho, none⟩) n hc)) := by simp [World.cell?, hbk]

  have lg : g < v0.heap.size := cell_lt x0
  have X12 := Lib.hid x12
  clear hbk
  go_wp2_with fail
  refine wp_region_held_drew (S := fun wx => NoW v0 wx) (by kernel_rfl) (Fp.drew (Fp.refl _ _)) (fun hHeld => ?_)
  (refine take_at 0 (some 9) rfl rfl (by kernel_rfl) (by kernel_rfl) (by kernel_rfl) (fun _ _ _ h => h) (v := ?_) (by kernel_rfl) ?_ (by assumption) ?_; rotate_left; (focus (intro wS hSw; skip; go_simp; try with_reducible rfl)); (try simp only [Act.put, List.setIfInBounds_toArray, List.set_cons_zero, List.set_cons_succ]))
  (refine take_at 1 (some 10) rfl rfl (by kernel_rfl) (by kernel_rfl) (by kernel_rfl) (fun _ _ _ h => h) (v := ?_) (by kernel_rfl) ?_ (by assumption) ?_; rotate_left; (focus (intro wS hSw; (have y0 := (hSw.cell (p := ⟨g, 0, none⟩) lg id).trans x0); (have y1 := (hSw.cell (p := ⟨g, 1, none⟩) lg id).trans x1); (have y2 := (hSw.cell (p := ⟨g, 2, none⟩) lg id).trans x2); (have y3 := (hSw.cell (p := ⟨g, 3, none⟩) lg id).trans x3); (have y4 := (hSw.cell (p := ⟨g, 4, none⟩) lg id).trans x4); go_simp; try with_reducible rfl)); (try simp only [Act.put, List.setIfInBounds_toArray, List.set_cons_zero, List.set_cons_succ]))
  (refine take_at 3 (some 12) rfl rfl (by kernel_rfl) (by kernel_rfl) (by kernel_rfl) (fun _ _ _ h => h) (v := ?_) (by kernel_rfl) ?_ (by assumption) ?_; rotate_left; (focus (intro wS hSw; skip; go_simp; try with_reducible rfl)); (try simp only [Act.put, List.setIfInBounds_toArray, List.set_cons_zero, List.set_cons_succ]))
  (refine take_at 4 (some 13) rfl rfl (by kernel_rfl) (by kernel_rfl) (by kernel_rfl) (fun _ _ _ h => h) (v := ?_) (by kernel_rfl) ?_ (by assumption) ?_; rotate_left; (focus (intro wS hSw; (have y5 := (hSw.cell (p := ⟨g, 5, none⟩) lg id).trans x5); (have y6 := (hSw.cell (p := ⟨g, 6, none⟩) lg id).trans x6); (have y7 := (hSw.cell (p := ⟨g, 7, none⟩) lg id).trans x7); (have y8 := (hSw.cell (p := ⟨g, 8, none⟩) lg id).trans x8); (have y9 := (hSw.cell (p := ⟨g, 9, none⟩) lg id).trans x9); go_simp; try with_reducible rfl)); (try simp only [Act.put, List.setIfInBounds_toArray, List.set_cons_zero, List.set_cons_succ]))
  (refine take_at 6 (some 15) rfl rfl (by kernel_rfl) (by kernel_rfl) (by kernel_rfl) (fun _ _ _ h => h) (v := ?_) (by kernel_rfl) ?_ (by assumption) ?_; rotate_left; (focus (intro wS hSw; skip; go_simp; try with_reducible rfl)); (try simp only [Act.put, List.setIfInBounds_toArray, List.set_cons_zero, List.set_cons_succ]))
  (refine take_at 7 (some 16) rfl rfl (by kernel_rfl) (by kernel_rfl) (by kernel_rfl) (fun _ _ _ h => h) (v := ?_) (by kernel_rfl) ?_ (by assumption) ?_; rotate_left; (focus (intro wS hSw; (have y10 := (hSw.cell (p := ⟨g, 10, none⟩) lg id).trans x10); go_simp; try with_reducible rfl)); (try simp only [Act.put, List.setIfInBounds_toArray, List.set_cons_zero, List.set_cons_succ]))
  (refine take_at 9 (some 18) rfl rfl (by kernel_rfl) (by kernel_rfl) (by kernel_rfl) (fun _ _ _ h => h) (v := ?_) (by kernel_rfl) ?_ (by assumption) ?_; rotate_left; (focus (intro wS hSw; skip; go_simp; try with_reducible rfl)); (try simp only [Act.put, List.setIfInBounds_toArray, List.set_cons_zero, List.set_cons_succ]))
  (refine take_at 10 (some 19) rfl rfl (by kernel_rfl) (by kernel_rfl) (by kernel_rfl) (fun _ _ _ h => h) (v := ?_) (by kernel_rfl) ?_ (by assumption) ?_; rotate_left; (focus (intro wS hSw; (have y11 := (hSw.cell (p := ⟨g, 11, none⟩) lg id).trans x11); go_simp; try with_reducible rfl)); (try simp only [Act.put, List.setIfInBounds_toArray, List.set_cons_zero, List.set_cons_succ]))
  clear x0 x1 x2 x3 x4 x5 x6 x7 x8 x9 x10 x11 x12
  refine wpAnyH_ready (rs := [2]) (by kernel_rfl) (by simp) ?_
  refine AllReadyH.cons rfl (fun K hK => ?_) AllReadyH.nil
  go_simp
  go_at_call 58
  refine (P1.out _ (Ht.out.low (Hn.out.trans hHeld (fun _ _ h => h)))).mono ?_
  rintro e u ⟨rfl, hp⟩
  have hn : NoW v0 u := Fp.trans hHeld hp (fun _ _ h => h)
  clear hp hHeld
  refine hK.out _ _ hn (fun hHeld => ?_)
  clear hK K hn
  try simp only [Act.put, List.setIfInBounds_toArray, List.set_cons_zero, List.set_cons_succ]
  refine wpAnyH_ready (rs := [5]) (by kernel_rfl) (by simp) ?_
  refine AllReadyH.cons rfl (fun K hK => ?_) AllReadyH.nil
  go_simp
  go_at_call 58
  refine (P2.out _ (Ht.out.low (Hn.out.trans hHeld (fun _ _ h => h)))).mono ?_
  rintro e u ⟨rfl, hp⟩
  have hn : NoW v0 u := Fp.trans hHeld hp (fun _ _ h => h)
  clear hp hHeld
  refine hK.out _ _ hn (fun hHeld => ?_)
  clear hK K hn
  try simp only [Act.put, List.setIfInBounds_toArray, List.set_cons_zero, List.set_cons_succ]
  refine wpAnyH_ready (rs := [8]) (by kernel_rfl) (by simp) ?_
  refine AllReadyH.cons rfl (fun K hK => ?_) AllReadyH.nil
  go_simp
  go_at_call 59
  refine (P3.out _ (Ht.out.low (Hn.out.trans hHeld (fun _ _ h => h)))).mono ?_
  rintro e u ⟨rfl, hp⟩
  have hn : NoW v0 u := Fp.trans hHeld hp (fun _ _ h => h)
  clear hp hHeld
  refine hK.out _ _ hn (fun hHeld => ?_)
  clear hK K hn
  try simp only [Act.put, List.setIfInBounds_toArray, List.set_cons_zero, List.set_cons_succ]
  refine wpAnyH_ready (rs := [11]) (by kernel_rfl) (by simp) ?_
  refine AllReadyH.cons rfl (fun K hK => ?_) AllReadyH.nil
  go_simp
  go_at_call 59
  refine (P4.out _ (Ht.out.low (Hn.out.trans hHeld (fun _ _ h => h)))).mono ?_
  rintro e u ⟨rfl, hp⟩
  have hn : NoW v0 u := Fp.trans hHeld hp (fun _ _ h => h)
  clear hp hHeld
  refine hK.out _ _ hn (fun hHeld => ?_)
  clear hK K hn
  try simp only [Act.put, List.setIfInBounds_toArray, List.set_cons_zero, List.set_cons_succ]
  refine wpAnyH_ready (rs := [12]) (by kernel_rfl) (by simp) ?_
  refine AllReadyH.cons rfl (fun K hK => ?_) AllReadyH.nil
  go_simp
  have hbs : (u.alloc (.cells #[str (tupT r a p b q), str [124], str (tupT r2 a2 p2 b2 q2), str (decDigits st), str (decDigits dl)] 9)).heap[u.heap.size]? = _ := heap_alloc_new _ _
  have hgs : v0.heap.size ≤ u.heap.size := hHeld.size
  refine hK.out _ _ (hHeld.alloc _) (fun hHeld2 => ?_)
  clear hK K
  try simp only [Act.put, List.setIfInBounds_toArray, List.set_cons_zero, List.set_cons_succ]
  refine wpAnyH_ready (rs := [13]) (by kernel_rfl) (by simp) ?_
  refine AllReadyH.cons rfl (fun K hK => ?_) AllReadyH.nil
  go_simp
  refine hK.out _ _ hHeld2 (fun hHeld3 => ?_)
  clear hK K hHeld2
  try simp only [Act.put, List.setIfInBounds_toArray, List.set_cons_zero, List.set_cons_succ]
  refine wpAnyH_done (by kernel_rfl) ?_ _
  have Hz := Lib.hid (Hn.out.trans hHeld3 (fun _ _ h => h))
  have hgw : w.heap.size ≤ u.heap.size := Nat.le_trans Hn.out.size hgs
  have x12 := (hHeld3.cell (p := ⟨g, 12, none⟩) lg id).trans X12.out
  clear hHeld hHeld3
  have Hbs := Lib.hid hbs
  clear hbs
  generalize u.alloc (.cells #[str (tupT r a p b q), str [124], str (tupT r2 a2 p2 b2 q2), str (decDigits st), str (decDigits dl)] 9) = v1 at *
  generalize u.heap.size = gs at *
  go_wp2_with fail

  clear x12 X12 lg Hn
  have hgw2 : w.heap.size ≤ gs := hgw
  clear hgw hgs
  go_loopg [3, 25] (n + 1) (fun gg v i wx => ∃ (k : Nat) (v' : Value), v' = v ∧ k ≤ n ∧ gg = n + 1 - k ∧ i = .int .i64 (k : Int) ∧ wx.ownsRow w.heap.size 9 1 v' (5 + k) ((rowsT r a p b q r2 a2 p2 b2 q2 st dl oa op ia ip k).map str) ∧ NoW w wx)
  case atStart => exact ⟨0, _, rfl, by omega, by omega, rfl, ⟨by simp [rowsT], Or.inr ⟨gs, 5, _, rfl, hgw2, Hbs.out, by omega, by unfold maxLen; omega, rfl, by simp [rowsT]⟩⟩, Hz.out⟩
  case round =>
    obtain ⟨k, v, rfl, hk, hg, rfl, hown, hf⟩ := hrel
    have Hg := Lib.hid hg
    have Hf := Lib.hid hf
    have Hown := Lib.hid hown
    have hsz := hf.size
    clear hg hf hown
    by_cases hlt : k < n
    · obtain ⟨⟨v0', v1', v2', v3'⟩, b0, b1, b2, b3⟩ := Hv.out k hlt
      have hhr := Hh.out.low Hf.out
      have y0 : wr.cell? ⟨hb, ho + k * 4, none⟩ = some (.int .u32 (oa k)) := hhr.cell (k * 4) _ v0'
      have y1 : wr.cell? ⟨hb, ho + k * 4 + 1, none⟩ = some (.int .u16 (op k)) := hhr.cell (k * 4 + 1) _ v1'
      have y2 : wr.cell? ⟨hb, ho + k * 4 + 2, none⟩ = some (.int .u32 (ia k)) := hhr.cell (k * 4 + 2) _ v2'
      have y3 : wr.cell? ⟨hb, ho + k * 4 + 3, none⟩ = some (.int .u16 (ip k)) := hhr.cell (k * 4 + 3) _ v3'
      have hkk : decide ((k : Int) < (n : Int)) = true := by simp; omega
      clear v0' v1' v2' v3' hhr
      have Q1 := Lib.hid (fun W (hW : Tb W) => point_text (oa k) b0 (op k) b1 W hW)
      have Q2 := Lib.hid (fun W (hW : Tb W) => point_text (ia k) b2 (ip k) b3 W hW)
      have l1 := withT_len (oa k) (op k) b0 b1
      have l2 := withT_len (ia k) (ip k) b2 b3
      have hadd1 : ∀ W, (Op.stringOp .add ⟨(withT 58 (oa k) (op k)).toArray⟩ ⟨#[61]⟩).run Tryd.prog W = .ok (str (withT 58 (oa k) (op k) ++ [61])) W := fun W => run_string_add_lists W (withT 58 (oa k) (op k)) [61] (by omega) (by simp)
      have hadd2 : ∀ W, (Op.stringOp .add ⟨(withT 58 (oa k) (op k) ++ [61]).toArray⟩ ⟨(withT 58 (ia k) (ip k)).toArray⟩).run Tryd.prog W = .ok (str (withT 58 (oa k) (op k) ++ 61 :: withT 58 (ia k) (ip k))) W := fun W => by
        have e : withT 58 (oa k) (op k) ++ 61 :: withT 58 (ia k) (ip k) = withT 58 (oa k) (op k) ++ [61] ++ withT 58 (ia k) (ip k) := by simp
        rw [e]; exact run_string_add_lists W (withT 58 (oa k) (op k) ++ [61]) (withT 58 (ia k) (ip k)) (by simp; omega) (by omega)
      clear b0 b1 b2 b3 l1 l2
      go_wp2_with fail
      have hq : NoW wr (wr.alloc (.cells #[.int .u32 (oa k), .int .u16 (op k), .int .u32 (ia k), .int .u16 (ip k)] 74)) := (Fp.refl _ _).alloc _
      have hbq := heap_alloc_new wr (.cells #[.int .u32 (oa k), .int .u16 (op k), .int .u32 (ia k), .int .u16 (ip k)] 74)
      have hfq := Hf.out.trans hq (fun _ _ h => h)
      have hownq := ownsRow_of_block Hown.out fun x e => hq.block x (World.ownsRow.lt Hown.out x e).2 id
      have hnev : ∀ x, v.ownBlock = some x → w.heap.size ≤ x ∧ x ≠ wr.heap.size := fun x e => ⟨(World.ownsRow.lt Hown.out x e).1, by have := (World.ownsRow.lt Hown.out x e).2; omega⟩
      clear hq Hown Hf
      generalize wr.alloc (.cells #[.int .u32 (oa k), .int .u16 (op k), .int .u32 (ia k), .int .u16 (ip k)] 74) = wq at *
      generalize wr.heap.size = gq at *
      have Hfq := Lib.hid hfq
      have Hba := Lib.hid (show ∀ i, i < w.heap.size → v.ownBlock = some i → False from fun i hi e => by have := (hnev i e).1; omega)
      have Hown := Lib.hid (ownsRow_of_block (w' := wq.drew) hownq fun x e => rfl)
      have hne : ¬ v.ownBlock = some gq := fun e => (hnev gq e).2 rfl
      have z0 : wq.cell? ⟨gq, 0, none⟩ = some (.int .u32 (oa k)) := by simp [World.cell?, hbq]
      have z1 : wq.cell? ⟨gq, 1, none⟩ = some (.int .u16 (op k)) := by simp [World.cell?, hbq]
      have z2 : wq.cell? ⟨gq, 2, none⟩ = some (.int .u32 (ia k)) := by simp [World.cell?, hbq]
      have z3 : wq.cell? ⟨gq, 3, none⟩ = some (.int .u16 (ip k)) := by simp [World.cell?, hbq]
      have lq : gq < wq.heap.size := cell_lt z0
      clear hfq hownq hnev hbq y0 y1 y2 y3
      refine wp_region_held_drew (S := fun wx => Fp (fun b => v.ownBlock = some b) wq wx) (by kernel_rfl) (Fp.drew (Fp.refl _ _)) (fun hHeld => ?_)
      (refine take_at 0 (some 29) rfl rfl (by kernel_rfl) (by kernel_rfl) (by kernel_rfl) (fun _ _ _ h => h) (v := ?_) (by kernel_rfl) ?_ (by assumption) ?_; rotate_left; (focus (intro wS hSw; skip; go_simp; try with_reducible rfl)); (try simp only [Act.put, List.setIfInBounds_toArray, List.set_cons_zero, List.set_cons_succ]))
      (refine take_at 1 (some 30) rfl rfl (by kernel_rfl) (by kernel_rfl) (by kernel_rfl) (fun _ _ _ h => h) (v := ?_) (by kernel_rfl) ?_ (by assumption) ?_; rotate_left; (focus (intro wS hSw; skip; go_simp; try with_reducible rfl)); (try simp only [Act.put, List.setIfInBounds_toArray, List.set_cons_zero, List.set_cons_succ]))
      (refine take_at 2 (some 31) rfl rfl (by kernel_rfl) (by kernel_rfl) (by kernel_rfl) (fun _ _ _ h => h) (v := ?_) (by kernel_rfl) ?_ (by assumption) ?_; rotate_left; (focus (intro wS hSw; (have q0 := (hSw.cell (p := ⟨gq, 0, none⟩) lq hne).trans z0); (have q1 := (hSw.cell (p := ⟨gq, 1, none⟩) lq hne).trans z1); go_simp; try with_reducible rfl)); (try simp only [Act.put, List.setIfInBounds_toArray, List.set_cons_zero, List.set_cons_succ]))
      (refine take_at 5 (some 34) rfl rfl (by kernel_rfl) (by kernel_rfl) (by kernel_rfl) (fun _ _ _ h => h) (v := ?_) (by kernel_rfl) ?_ (by assumption) ?_; rotate_left; (focus (intro wS hSw; skip; go_simp; try with_reducible rfl)); (try simp only [Act.put, List.setIfInBounds_toArray, List.set_cons_zero, List.set_cons_succ]))
      (refine take_at 6 (some 35) rfl rfl (by kernel_rfl) (by kernel_rfl) (by kernel_rfl) (fun _ _ _ h => h) (v := ?_) (by kernel_rfl) ?_ (by assumption) ?_; rotate_left; (focus (intro wS hSw; (have q2 := (hSw.cell (p := ⟨gq, 2, none⟩) lq hne).trans z2); (have q3 := (hSw.cell (p := ⟨gq, 3, none⟩) lq hne).trans z3); go_simp; try with_reducible rfl)); (try simp only [Act.put, List.setIfInBounds_toArray, List.set_cons_zero, List.set_cons_succ]))
      refine wpAnyH_ready (rs := [3]) (by kernel_rfl) (by simp) ?_
      refine AllReadyH.cons rfl (fun K hK => ?_) AllReadyH.nil
      go_simp
      go_at_call 60
      refine (Q1.out _ (Ht.out.low (Hfq.out.trans hHeld Hba.out))).mono ?_
      rintro e u ⟨rfl, hp⟩
      have hn : Fp (fun b => v.ownBlock = some b) wq u := Fp.trans hHeld hp (fun _ _ h => h.elim)
      have hown1 := ownsRow_of_block Hown.out fun x e => hp.block x (World.ownsRow.lt Hown.out x e).2 id
      clear Hown
      have Hown := Lib.hid hown1
      clear hown1 hp hHeld
      refine hK.out _ _ hn (fun hHeld => ?_)
      clear hK K hn
      try simp only [Act.put, List.setIfInBounds_toArray, List.set_cons_zero, List.set_cons_succ]
      (refine take_at 4 (some 33) rfl rfl (by kernel_rfl) (by kernel_rfl) (by kernel_rfl) (fun _ _ _ h => h) (v := ?_) (by kernel_rfl) ?_ (by assumption) ?_; rotate_left; (focus (intro wS hSw; skip; go_simp; try with_reducible rfl)); (try simp only [Act.put, List.setIfInBounds_toArray, List.set_cons_zero, List.set_cons_succ]))
      refine wpAnyH_ready (rs := [7]) (by kernel_rfl) (by simp) ?_
      refine AllReadyH.cons rfl (fun K hK => ?_) AllReadyH.nil
      go_simp
      go_at_call 60
      refine (Q2.out _ (Ht.out.low (Hfq.out.trans hHeld Hba.out))).mono ?_
      rintro e u ⟨rfl, hp⟩
      have hn : Fp (fun b => v.ownBlock = some b) wq u := Fp.trans hHeld hp (fun _ _ h => h.elim)
      have hown1 := ownsRow_of_block Hown.out fun x e => hp.block x (World.ownsRow.lt Hown.out x e).2 id
      clear Hown
      have Hown := Lib.hid hown1
      clear hown1 hp hHeld
      refine hK.out _ _ hn (fun hHeld => ?_)
      clear hK K hn
      try simp only [Act.put, List.setIfInBounds_toArray, List.set_cons_zero, List.set_cons_succ]
      (refine take_at 8 (some 37) rfl rfl (by kernel_rfl) (by kernel_rfl) (by kernel_rfl) (fun _ _ _ h => h) (v := ?_) (by kernel_rfl) ?_ (by assumption) ?_; rotate_left; (focus (intro wS hSw; skip; go_simp; try with_reducible rfl)); (try simp only [Act.put, List.setIfInBounds_toArray, List.set_cons_zero, List.set_cons_succ]))
      refine wpAnyH_ready (rs := [9]) (by kernel_rfl) (by simp) ?_
      refine AllReadyH.cons rfl (fun K hK => ?_) AllReadyH.nil
      go_simp
      have hown1 := ownsRow_of_block (w' := u.alloc (.cells #[str (withT 58 (oa k) (op k) ++ 61 :: withT 58 (ia k) (ip k))] 9)) Hown.out fun x e => ((Fp.refl (fun _ => False) u).alloc (.cells #[str (withT 58 (oa k) (op k) ++ 61 :: withT 58 (ia k) (ip k))] 9)).block x (World.ownsRow.lt Hown.out x e).2 id
      have hub := heap_alloc_new u (.cells #[str (withT 58 (oa k) (op k) ++ 61 :: withT 58 (ia k) (ip k))] 9)
      have hsu : w.heap.size ≤ u.heap.size := Nat.le_trans Hfq.out.size hHeld.size
      clear Hown
      have Hown := Lib.hid hown1
      clear hown1
      refine hK.out _ _ (hHeld.alloc _) (fun hHeld2 => ?_)
      clear hK K hHeld
      try simp only [Act.put, List.setIfInBounds_toArray, List.set_cons_zero, List.set_cons_succ]
      generalize u.alloc (.cells #[str (withT 58 (oa k) (op k) ++ 61 :: withT 58 (ia k) (ip k))] 9) = u9 at *
      generalize u.heap.size = gu at *
      refine wpAnyH_ready (rs := [10]) (by kernel_rfl) (by simp) ?_
      refine AllReadyH.cons rfl (fun K hK => ?_) AllReadyH.nil
      rw [if_pos (by kernel_rfl)]
      refine op_append1 _ _ 93 rfl w.heap.size 9 (.string ByteArray.empty) 1 Tryd.underlying93 infoStr rfl (by decide) v (5 + k) _ rfl Hown.out gu [str (withT 58 (oa k) (op k) ++ 61 :: withT 58 (ia k) (ip k))] rfl rfl hub ?_ ?_ ?_ ?_
      · intro x hx; simp at hx; rw [hx]; rfl
      · omega
      · exact Nat.le_trans Hfq.out.size hHeld2.size
      intro v2 w3 hown3 hgr3
      have hf3 : Fp (fun b => v.ownBlock = some b) wq w3 := Fp.grown hHeld2 hgr3 (fun x e => Or.inr e)
      refine hK.out _ _ hf3 (fun hHeld3 => ?_)
      clear hK K hf3 hHeld2 hgr3
      try simp only [Act.put, List.setIfInBounds_toArray, List.set_cons_zero, List.set_cons_succ]
      refine wpAnyH_ready (rs := [11]) (by kernel_rfl) (by simp) ?_
      refine AllReadyH.cons rfl (fun K hK => ?_) AllReadyH.nil
      go_simp
      refine hK.out _ _ hHeld3 (fun hHeld => ?_)
      clear hK K hHeld3
      try simp only [Act.put, List.setIfInBounds_toArray, List.set_cons_zero, List.set_cons_succ]
      refine wpAnyH_done (by kernel_rfl) ?_ _
      have Hf3 := Lib.hid (Hfq.out.trans hHeld Hba.out)
      have hrow : ((rowsT r a p b q r2 a2 p2 b2 q2 st dl oa op ia ip (k + 1)).map str) = ((rowsT r a p b q r2 a2 p2 b2 q2 st dl oa op ia ip k).map str) ++ [str (withT 58 (oa k) (op k) ++ 61 :: withT 58 (ia k) (ip k))] := by simp [rowsT, holdT, List.range_succ]
      rw [← hrow] at hown3
      have Hown3 := Lib.hid hown3
      clear hown3 hrow hHeld Hown Hfq Hba hub
      go_wp2_with fail
      go_roundg (n - k)
      case measure => have := Hg.out; omega
      case rel => exact ⟨k + 1, _, rfl, by omega, by omega, by go_num, Hown3.out, Hf3.out⟩
    · obtain rfl : k = n := by omega
      obtain ⟨gv, cap, hv, hcap, hlt2, hcell⟩ : ∃ (gv cap : Nat), v = .slice (some ⟨gv, 0, none⟩) (5 + k) cap ∧ 5 + k ≤ cap ∧ gv < wr.heap.size ∧ ∀ j x, ((rowsT r a p b q r2 a2 p2 b2 q2 st dl oa op ia ip k).map str)[j]? = some x → wr.cell? ⟨gv, j, none⟩ = some x := by
        have hc := Hown.out
        obtain ⟨_, h2⟩ := Hown.out
        rcases h2 with ⟨_, h0⟩ | ⟨g, cap, cur, rfl, hg2, hh, hcap, hcap2, hcs, htk⟩
        · omega
        · refine ⟨g, cap, rfl, hcap, (Array.getElem?_eq_some_iff.1 hh).1, fun j x hj => ?_⟩
          have := World.ownsRow.cells hc (g := g) rfl j x hj
          rwa [add_eq0] at this
      subst hv
      have Hcell := Lib.hid hcell
      clear hcell Hown
      go_wp2_with fail
      refine (join_ok gv (5 + k) cap (rowsT r a p b q r2 a2 p2 b2 q2 st dl oa op ia ip k) wr (fun j x hx => Hcell.out j _ (by rw [List.getElem?_map, hx]; rfl)) hlt2 (by simp [rowsT]; omega) hcap Hlen.out).mono ?_
      rintro e w2 ⟨rfl, hp⟩
      have Hw := Lib.hid (Hf.out.trans hp (fun _ _ h => h))
      clear hp
      go_wp2_with fail
      go_ret
      exact ⟨rfl, Hw.out⟩
end Go.Proofs.YtdmbjndhdldggaaDoor

namespace Go.Proofs.YtdmbjndhdldggaaDoor
set_option linter.unusedVariables false
set_option linter.unusedSimpArgs false
open Go.RowKit Go.Lib Go.Sort

theorem joinB_cons (x y : List UInt8) (l : List (List UInt8)) : joinB (x :: y :: l) = x ++ 32 :: joinB (y :: l) := by simp [joinB, List.intercalate]
theorem joinB_one (x : List UInt8) : joinB [x] = x := by simp [joinB, List.intercalate]
theorem pieces_joinB : ∀ (ps : List (List UInt8)), ps ≠ [] → (∀ p, p ∈ ps → (32 : UInt8) ∉ p) → pieces 32 (joinB ps) = ps
  | [], h, _ => absurd rfl h
  | [x], _, h => by rw [joinB_one]; exact pieces_no (h x (by simp))
  | x :: y :: l, _, h => by
    rw [joinB_cons, pieces_append, pieces_no (h x (by simp)), pieces_joinB (y :: l) (by simp) (fun p hp => h p (by simp at hp ⊢; exact .inr hp))]
    rfl
theorem joinB_flat : ∀ (p : List UInt8) (ps : List (List UInt8)), joinB (p :: ps) = p ++ ps.flatMap fun q => 32 :: q
  | p, [] => by simp [joinB_one]
  | p, q :: ps => by rw [joinB_cons, joinB_flat q ps]; simp
theorem joinB_pieces (l : List UInt8) : joinB (pieces 32 l) = l := by
  rcases h : pieces 32 l with _ | ⟨p, ps⟩
  · exact absurd h (pieces_ne 32 l)
  · rw [joinB_flat]; exact (pieces_join l p ps h).symm

theorem addrT_no32 (a : Nat) : (32 : UInt8) ∉ addrT a := addrT_no (by decide) (fun u => dec_no32)
theorem withT_no32 (a p : Nat) : (32 : UInt8) ∉ withT 58 a p := by
  unfold withT
  simp only [List.mem_append, List.mem_cons, not_or]
  exact ⟨addrT_no32 a, by decide, dec_no32⟩
theorem withT_no61 (a p : Nat) : (61 : UInt8) ∉ withT 58 a p := by
  have hd : ∀ u, (61 : UInt8) ∉ decDigits u := fun u hm => by have := dec_digits u 61 hm; simp at this
  unfold withT
  simp only [List.mem_append, List.mem_cons, not_or]
  exact ⟨addrT_no (by decide) hd, by decide, hd p⟩
theorem wordOf_no32 (k : Nat) : (32 : UInt8) ∉ wordOf k := by unfold wordOf; split <;> (try split) <;> (try split) <;> decide

/-- The protocol of a word. -/
def wordNo (l : List UInt8) : Option Nat := if l = wordOf 1 then some 1 else if l = wordOf 6 then some 6 else if l = wordOf 17 then some 17 else none
theorem wordNo_some {l : List UInt8} {k : Nat} : wordNo l = some k ↔ isWord k = true ∧ l = wordOf k := by
  unfold wordNo isWord
  constructor
  · intro h
    split at h
    · cases h; exact ⟨rfl, by assumption⟩
    · split at h
      · cases h; exact ⟨rfl, by assumption⟩
      · split at h
        · cases h; exact ⟨rfl, by assumption⟩
        · cases h
  · rintro ⟨h, rfl⟩
    have h' := of_decide_eq_true h
    rcases h' with rfl | rfl | rfl <;> rfl
theorem wordNo_of {k : Nat} (h : isWord k = true) : wordNo (wordOf k) = some k := wordNo_some.2 ⟨h, rfl⟩

/-- The tuple of a text. -/
def tupOf (l : List UInt8) : Option (Nat × Nat × Nat × Nat × Nat) :=
  match pieces 32 l with
  | [w0, w1, w2] => match wordNo w0, withOf 58 65535 w1, withOf 58 65535 w2 with
    | some k, some (a, p), some (b, q) => if tupB k p q = true then some (k, a, p, b, q) else none
    | _, _, _ => none
  | _ => none
theorem tupB_word {k p q : Nat} (h : tupB k p q = true) : isWord k = true := by
  unfold tupB at h
  simp only [Bool.and_eq_true] at h
  exact h.1
theorem tupT_pieces (k a p b q : Nat) : pieces 32 (tupT k a p b q) = [wordOf k, withT 58 a p, withT 58 b q] :=
  pieces_joinB _ (by simp) (fun x hx => by
    simp only [List.mem_cons, List.not_mem_nil, or_false] at hx
    rcases hx with rfl | rfl | rfl
    · exact wordOf_no32 k
    · exact withT_no32 a p
    · exact withT_no32 b q)
theorem tupOf_some {l : List UInt8} {k a p b q : Nat} : tupOf l = some (k, a, p, b, q) ↔ l = tupT k a p b q ∧ tupB k p q = true ∧ a < 4294967296 ∧ p ≤ 65535 ∧ b < 4294967296 ∧ q ≤ 65535 := by
  have w := fun (l : List UInt8) (a n : Nat) => @withOf_some 58 (by decide) (fun u => dec_no58) 65535 l a n
  constructor
  · intro h
    unfold tupOf at h
    split at h
    · rename_i w0 w1 w2 hp
      split at h
      · rename_i k' a' p' b' q' h0 h1 h2
        split at h
        · rename_i hB
          simp only [Option.some.injEq, Prod.mk.injEq] at h
          obtain ⟨rfl, rfl, rfl, rfl, rfl⟩ := h
          obtain ⟨_, e0⟩ := wordNo_some.1 h0
          obtain ⟨e1, ha, hp'⟩ := (w _ _ _).1 h1
          obtain ⟨e2, hb, hq'⟩ := (w _ _ _).1 h2
          refine ⟨?_, hB, ha, hp', hb, hq'⟩
          rw [← joinB_pieces l, hp, e0, e1, e2]; rfl
        · cases h
      · cases h
    · cases h
  · rintro ⟨rfl, hB, ha, hp, hb, hq⟩
    unfold tupOf
    rw [tupT_pieces]
    dsimp only
    rw [wordNo_of (tupB_word hB), (w _ _ _).2 ⟨rfl, ha, hp⟩, (w _ _ _).2 ⟨rfl, hb, hq⟩]
    dsimp only
    rw [if_pos hB]

/-- The hold of a text: it is cut at the first sign '='. -/
def holdOf (l : List UInt8) : Option (Nat × Nat × Nat × Nat) :=
  match cutFirst 61 l with
  | some (x, y) => match withOf 58 65535 x, withOf 58 65535 y with
    | some (a, p), some (b, q) => some (a, p, b, q)
    | _, _ => none
  | none => none
theorem holdOf_some {l : List UInt8} {a p b q : Nat} : holdOf l = some (a, p, b, q) ↔ l = withT 58 a p ++ 61 :: withT 58 b q ∧ a < 4294967296 ∧ p ≤ 65535 ∧ b < 4294967296 ∧ q ≤ 65535 := by
  have w := fun (l : List UInt8) (a n : Nat) => @withOf_some 58 (by decide) (fun u => dec_no58) 65535 l a n
  constructor
  · intro h
    unfold holdOf at h
    split at h
    · rename_i x y hc
      split at h
      · rename_i a' p' b' q' h1 h2
        simp only [Option.some.injEq, Prod.mk.injEq] at h
        obtain ⟨rfl, rfl, rfl, rfl⟩ := h
        obtain ⟨e1, ha, hp⟩ := (w _ _ _).1 h1
        obtain ⟨e2, hb, hq⟩ := (w _ _ _).1 h2
        exact ⟨by rw [(cutFirst_some.1 hc).1, e1, e2], ha, hp, hb, hq⟩
      · cases h
    · cases h
  · rintro ⟨rfl, ha, hp, hb, hq⟩
    unfold holdOf
    rw [cutFirst_some.2 ⟨rfl, withT_no61 a p⟩]
    dsimp only
    rw [(w _ _ _).2 ⟨rfl, ha, hp⟩, (w _ _ _).2 ⟨rfl, hb, hq⟩]
/-- The words of an entry's text. -/
theorem holdT_no32 (oa op ia ip : Nat → Nat) (i : Nat) : (32 : UInt8) ∉ holdT oa op ia ip i := by
  unfold holdT
  simp only [List.mem_append, List.mem_cons, not_or]
  exact ⟨withT_no32 _ _, by decide, withT_no32 _ _⟩
theorem entT_pieces (r a p b q r2 a2 p2 b2 q2 st dl : Nat) (oa op ia ip : Nat → Nat) (n : Nat) :
    pieces 32 (entT r a p b q r2 a2 p2 b2 q2 st dl oa op ia ip n) = [wordOf r, withT 58 a p, withT 58 b q, [124], wordOf r2, withT 58 a2 p2, withT 58 b2 q2, decDigits st, decDigits dl] ++ (List.range n).map (holdT oa op ia ip) := by
  have key : entT r a p b q r2 a2 p2 b2 q2 st dl oa op ia ip n = joinB ([wordOf r, withT 58 a p, withT 58 b q, [124], wordOf r2, withT 58 a2 p2, withT 58 b2 q2, decDigits st, decDigits dl] ++ (List.range n).map (holdT oa op ia ip)) := by
    unfold entT rowsT tupT
    simp only [List.cons_append, List.nil_append, joinB_cons, joinB_one, joinB_flat]
    simp
  rw [key]
  refine pieces_joinB _ (by simp) (fun x hx => ?_)
  simp only [List.mem_append, List.mem_cons, List.not_mem_nil, or_false, List.mem_map] at hx
  rcases hx with (rfl | rfl | rfl | rfl | rfl | rfl | rfl | rfl | rfl) | ⟨i, _, rfl⟩
  · exact wordOf_no32 _
  · exact withT_no32 _ _
  · exact withT_no32 _ _
  · decide
  · exact wordOf_no32 _
  · exact withT_no32 _ _
  · exact withT_no32 _ _
  · exact dec_no32
  · exact dec_no32
  · exact holdT_no32 _ _ _ _ _
end Go.Proofs.YtdmbjndhdldggaaDoor

namespace Go.Proofs.YtdmbjndhdldggaaDoor
set_option linter.unusedVariables false
set_option linter.unusedSimpArgs false
open Go.RowKit

theorem wf_nat {k : IntKind} {x : Int} (h : (Lit.int k x).wf = true) (hs : k.signed = false) : ∃ n : Nat, x = n ∧ n < 2 ^ k.bits := by
  simp only [Lit.wf, IntKind.has, IntKind.min, IntKind.max, hs, decide_eq_true_eq] at h
  have h1 : 0 ≤ x ∧ x ≤ 2 ^ k.bits - 1 := by simpa using h
  refine ⟨x.toNat, by omega, ?_⟩
  have h2 : x < 2 ^ k.bits := by omega
  have h3 : (x.toNat : Int) = x := Int.toNat_of_nonneg h1.1
  have h4 : ((2 ^ k.bits : Nat) : Int) = (2 : Int) ^ k.bits := by simp
  omega
theorem wf_i64 {x : Int} (h : (Lit.int .i64 x).wf = true) : -9223372036854775808 ≤ x ∧ x ≤ 9223372036854775807 := by
  simpa [Lit.wf, IntKind.has, IntKind.min, IntKind.max, IntKind.signed, IntKind.bits] using h
theorem u32_sees {P : Program} {w : World} {n : Nat} {t : TypeId} {cs : List Value} (hu : P.underlying t = some (.int .u32)) (h : Sees P w n t cs) : ∃ a : Nat, cs = [.int .u32 a] ∧ a < 4294967296 := by
  obtain ⟨x, e, hw⟩ := sees_int hu h
  obtain ⟨a, rfl, ha⟩ := wf_nat hw rfl
  exact ⟨a, e, ha⟩
theorem u16_sees {P : Program} {w : World} {n : Nat} {t : TypeId} {cs : List Value} (hu : P.underlying t = some (.int .u16)) (h : Sees P w n t cs) : ∃ a : Nat, cs = [.int .u16 a] ∧ a < 65536 := by
  obtain ⟨x, e, hw⟩ := sees_int hu h
  obtain ⟨a, rfl, ha⟩ := wf_nat hw rfl
  exact ⟨a, e, ha⟩
theorem u8_sees {P : Program} {w : World} {n : Nat} {t : TypeId} {cs : List Value} (hu : P.underlying t = some (.int .u8)) (h : Sees P w n t cs) : ∃ a : Nat, cs = [.int .u8 a] ∧ a < 256 := by
  obtain ⟨x, e, hw⟩ := sees_int hu h
  obtain ⟨a, rfl, ha⟩ := wf_nat hw rfl
  exact ⟨a, e, ha⟩

set_option maxRecDepth 100000 in
theorem ep_sees {w : World} {n : Nat} {cs : List Value} (h : Sees Tryd.prog w n 26 cs) : ∃ a p : Nat, cs = [.int .u32 a, .int .u16 p] ∧ a < 4294967296 ∧ p < 65536 := by
  have c1 : Tryd.prog.cellsOf 26 = 2 := by kernel_rfl
  have c2 : Tryd.prog.cellsOf 23 = 1 := by kernel_rfl
  have c3 : Tryd.prog.cellsOf 24 = 1 := by kernel_rfl
  obtain ⟨hl, m, hs⟩ := sees_struct Tryd.underlying26 h
  rw [c1] at hl
  match cs, hl with
  | [x0, x1], _ =>
    simp only [List.forall_mem_cons, c2, c3, List.drop_zero, List.drop_succ_cons, List.take_succ_cons, List.take_zero, List.take_nil] at hs
    obtain ⟨h0, h1, _⟩ := hs
    obtain ⟨a, e0, w0⟩ := u32_sees Tryd.underlying23 h0
    obtain ⟨p, e1, w1⟩ := u16_sees Tryd.underlying24 h1
    simp at e0 e1
    exact ⟨a, p, by rw [e0, e1], w0, w1⟩
set_option maxRecDepth 100000 in
theorem tup_sees {w : World} {n : Nat} {cs : List Value} (h : Sees Tryd.prog w n 28 cs) : ∃ k a p b q : Nat, cs = [.int .u8 k, .int .u32 a, .int .u16 p, .int .u32 b, .int .u16 q] ∧ k < 256 ∧ a < 4294967296 ∧ p < 65536 ∧ b < 4294967296 ∧ q < 65536 := by
  have c1 : Tryd.prog.cellsOf 28 = 5 := by kernel_rfl
  have c2 : Tryd.prog.cellsOf 26 = 2 := by kernel_rfl
  have c3 : Tryd.prog.cellsOf 5 = 1 := by kernel_rfl
  obtain ⟨hl, m, hs⟩ := sees_struct Tryd.underlying28 h
  rw [c1] at hl
  match cs, hl with
  | [x0, x1, x2, x3, x4], _ =>
    simp only [List.forall_mem_cons, c2, c3, List.drop_zero, List.drop_succ_cons, List.take_succ_cons, List.take_zero, List.take_nil] at hs
    obtain ⟨h0, h1, h2, _⟩ := hs
    obtain ⟨k, e0, w0⟩ := u8_sees Tryd.underlying5 h0
    obtain ⟨a, p, e1, w1, w2⟩ := ep_sees h1
    obtain ⟨b, q, e2, w3, w4⟩ := ep_sees h2
    simp at e0 e1 e2
    exact ⟨k, a, p, b, q, by rw [e0, e1.1, e1.2, e2.1, e2.2], w0, w1, w2, w3, w4⟩
set_option maxRecDepth 100000 in
theorem hold_sees {w : World} {n : Nat} {cs : List Value} (h : Sees Tryd.prog w n 74 cs) : ∃ a p b q : Nat, cs = [.int .u32 a, .int .u16 p, .int .u32 b, .int .u16 q] ∧ a < 4294967296 ∧ p < 65536 ∧ b < 4294967296 ∧ q < 65536 := by
  have c1 : Tryd.prog.cellsOf 74 = 4 := by kernel_rfl
  have c2 : Tryd.prog.cellsOf 26 = 2 := by kernel_rfl
  obtain ⟨hl, m, hs⟩ := sees_struct Tryd.underlying74 h
  rw [c1] at hl
  match cs, hl with
  | [x1, x2, x3, x4], _ =>
    simp only [List.forall_mem_cons, c2, List.drop_zero, List.drop_succ_cons, List.take_succ_cons, List.take_zero, List.take_nil] at hs
    obtain ⟨h1, h2, _⟩ := hs
    obtain ⟨a, p, e1, w1, w2⟩ := ep_sees h1
    obtain ⟨b, q, e2, w3, w4⟩ := ep_sees h2
    simp at e1 e2
    exact ⟨a, p, b, q, by rw [e1.1, e1.2, e2.1, e2.2], w1, w2, w3, w4⟩

/-- A slice among cells, its elements of 'size' cells each. -/
theorem sees_rows {P : Program} {w : World} {t e : TypeId} {cs : List Value} {size k : Nat} (hu : P.underlying t = some (.slice e)) (hc : P.cellsOf e = size) (hs : 0 < size) (h : Sees P w k t cs) :
    ∃ a len cap, cs = [.slice a len cap] ∧ len ≤ cap ∧ cap ≤ maxLen ∧ ∃ (m : Nat) (rows : Nat → List Value), (∀ i, i < cap → (rows i).length = size ∧ Sees P w m e (rows i)) ∧
      (0 < cap → ∃ b o, a = some ⟨b, o, none⟩ ∧ ∀ i, i < cap → ∀ j, j < size → w.cell? ⟨b, o + i * size + j, none⟩ = (rows i)[j]?) := by
  rcases sees_slice hu h with rfl | ⟨m, a, len, cap, rfl, h1, h2, h3⟩
  · exact ⟨none, 0, 0, rfl, Nat.le_refl _, Nat.zero_le _, 0, fun _ => [], fun i hi => by omega, fun h => by omega⟩
  · rw [hc] at h3
    have key : ∀ i, ∃ ds, i < cap → w.cells? 0 (a.add (i * size)) size = some ds ∧ Sees P w m e ds := fun i => by
      by_cases hi : i < cap
      · obtain ⟨ds, hd⟩ := h3 i hi; exact ⟨ds, fun _ => hd⟩
      · exact ⟨[], fun h => absurd h hi⟩
    obtain ⟨rows, hrows⟩ : ∃ rows : Nat → List Value, ∀ i, i < cap → w.cells? 0 (a.add (i * size)) size = some (rows i) ∧ Sees P w m e (rows i) := ⟨fun i => Classical.choose (key i), fun i hi => Classical.choose_spec (key i) hi⟩
    clear key h3
    refine ⟨some a, len, cap, rfl, h1, h2, m, rows, fun i hi => ?_, fun hpos => ?_⟩
    · obtain ⟨k1, k2⟩ := hrows i hi
      refine ⟨?_, k2⟩
      unfold World.cells? at k1
      rw [if_pos (Nat.zero_le _)] at k1
      have := (mapM_get k1).1
      simpa using this
    · have hsp : a.spot = none := by
        obtain ⟨k1, _⟩ := hrows 0 hpos
        unfold World.cells? at k1
        rw [if_pos (Nat.zero_le _)] at k1
        have hk := mapM_get k1
        have h0 := hk.2 0 0 (by simp [hs])
        rw [List.getElem?_eq_getElem (by rw [hk.1]; simpa using hs)] at h0
        have e : (a.add 0).add 0 = a := by simp [Addr.add]
        have h0' := World.cell?_spot h0
        simp only [Nat.zero_mul] at h0'
        rw [e] at h0'
        exact h0'
      obtain ⟨b, o, sp⟩ := a
      obtain rfl : sp = none := hsp
      refine ⟨b, o, rfl, fun i hi j hj => ?_⟩
      obtain ⟨k1, _⟩ := hrows i hi
      unfold World.cells? at k1
      rw [if_pos (Nat.zero_le _)] at k1
      have := (mapM_get k1).2 j j (by simp [hj])
      rw [add_eq, add_eq] at this
      exact this

/-- Holds as cells. -/
def holdV (oa op ia ip : Nat → Nat) (i : Nat) : List Value := [.int .u32 (oa i), .int .u16 (op i), .int .u32 (ia i), .int .u16 (ip i)]
def holdsV (oa op ia ip : Nat → Nat) (n : Nat) : List Value := (List.range n).flatMap (holdV oa op ia ip)
theorem holdsV_succ (oa op ia ip : Nat → Nat) (n : Nat) : holdsV oa op ia ip (n + 1) = holdsV oa op ia ip n ++ holdV oa op ia ip n := by simp [holdsV, List.range_succ]
theorem holdsV_len (oa op ia ip : Nat → Nat) : ∀ n, (holdsV oa op ia ip n).length = n * 4
  | 0 => rfl
  | n + 1 => by
    rw [holdsV_succ, List.length_append, holdsV_len oa op ia ip n]
    simp [holdV]; omega
theorem holdsV_get (oa op ia ip : Nat → Nat) : ∀ n i j, i < n → j < 4 → (holdsV oa op ia ip n)[i * 4 + j]? = (holdV oa op ia ip i)[j]?
  | 0, i, j, h, _ => by omega
  | n + 1, i, j, h, hj => by
    have hl := holdsV_len oa op ia ip n
    have ih := holdsV_get oa op ia ip n i j
    have e : holdsV oa op ia ip (n + 1) = holdsV oa op ia ip n ++ holdV oa op ia ip n := by simp [holdsV, List.range_succ]
    rw [e]
    by_cases h2 : i < n
    · rw [List.getElem?_append_left (by rw [hl]; omega)]
      exact ih h2 hj
    · obtain rfl : i = n := by omega
      rw [List.getElem?_append_right (by rw [hl]; omega), hl]
      congr 1; omega
/-- The holds of an entry: at most so many, and what they are. -/
structure HoldsOk (w : World) (ad : Option Addr) (n c : Nat) (oa op ia ip : Nat → Nat) : Prop where
  nc : n ≤ c
  cm : c ≤ maxLen
  fit : ∀ i, i < n → oa i < 4294967296 ∧ op i < 65536 ∧ ia i < 4294967296 ∧ ip i < 65536
  at' : 0 < n → ∃ hb ho, ad = some ⟨hb, ho, none⟩ ∧ Holds w hb ho n (holdsV oa op ia ip n)
theorem HoldsOk.low {w w' : World} {ad : Option Addr} {n c : Nat} {oa op ia ip : Nat → Nat} (h : HoldsOk w ad n c oa op ia ip) (hf : NoW w w') : HoldsOk w' ad n c oa op ia ip :=
  ⟨h.nc, h.cm, h.fit, fun hn => by obtain ⟨hb, ho, e, hh⟩ := h.at' hn; exact ⟨hb, ho, e, hh.low hf⟩⟩

set_option maxRecDepth 100000 in
theorem ent_sees {w : World} {n : Nat} {cs : List Value} (h : Sees Tryd.prog w n 31 cs) : ∃ (r a p b q r2 a2 p2 b2 q2 : Nat) (st dl : Int) (ad : Option Addr) (m c : Nat) (oa op ia ip : Nat → Nat), cs = [.int .u8 r, .int .u32 a, .int .u16 p, .int .u32 b, .int .u16 q, .int .u8 r2, .int .u32 a2, .int .u16 p2, .int .u32 b2, .int .u16 q2, .int .i64 st, .int .i64 dl, .slice ad m c] ∧
    (r < 256 ∧ a < 4294967296 ∧ p < 65536 ∧ b < 4294967296 ∧ q < 65536) ∧ (r2 < 256 ∧ a2 < 4294967296 ∧ p2 < 65536 ∧ b2 < 4294967296 ∧ q2 < 65536) ∧ (-9223372036854775808 ≤ st ∧ st ≤ 9223372036854775807) ∧ (-9223372036854775808 ≤ dl ∧ dl ≤ 9223372036854775807) ∧ HoldsOk w ad m c oa op ia ip := by
  have c1 : Tryd.prog.cellsOf 31 = 13 := by kernel_rfl
  have c2 : Tryd.prog.cellsOf 28 = 5 := by kernel_rfl
  have c3 : Tryd.prog.cellsOf 3 = 1 := by kernel_rfl
  have c4 : Tryd.prog.cellsOf 29 = 1 := by kernel_rfl
  have c5 : Tryd.prog.cellsOf 74 = 4 := by kernel_rfl
  obtain ⟨hl, m, hs⟩ := sees_struct Tryd.underlying31 h
  rw [c1] at hl
  match cs, hl with
  | [x0, x1, x2, x3, x4, x5, x6, x7, x8, x9, x10, x11, x12], _ =>
    simp only [List.forall_mem_cons, c2, c3, c4, List.drop_zero, List.drop_succ_cons, List.take_succ_cons, List.take_zero, List.take_nil] at hs
    obtain ⟨h0, h1, h2, h3, h4, _⟩ := hs
    obtain ⟨r, a, p, b, q, e0, w0⟩ := tup_sees h0
    obtain ⟨r2, a2, p2, b2, q2, e1, w1⟩ := tup_sees h1
    obtain ⟨st, e2, w2⟩ := sees_int Tryd.underlying3 h2
    obtain ⟨dl, e3, w3⟩ := sees_int Tryd.underlying3 h3
    obtain ⟨ad, n, c, e4, hnc, hcm, m2, rows, hr, hat⟩ := sees_rows Tryd.underlying29 c5 (by omega) h4
    simp at e0 e1 e2 e3 e4
    have key : ∀ i, ∃ z : Nat × Nat × Nat × Nat, i < c → rows i = [.int .u32 z.1, .int .u16 z.2.1, .int .u32 z.2.2.1, .int .u16 z.2.2.2] ∧ z.1 < 4294967296 ∧ z.2.1 < 65536 ∧ z.2.2.1 < 4294967296 ∧ z.2.2.2 < 65536 := fun i => by
      by_cases hi : i < c
      · obtain ⟨a, p, b, q, e, r⟩ := hold_sees (hr i hi).2
        exact ⟨(a, p, b, q), fun _ => ⟨e, r⟩⟩
      · exact ⟨(0, 0, 0, 0), fun h => absurd h hi⟩
    obtain ⟨z, hz⟩ : ∃ z : Nat → Nat × Nat × Nat × Nat, ∀ i, i < c → rows i = [.int .u32 (z i).1, .int .u16 (z i).2.1, .int .u32 (z i).2.2.1, .int .u16 (z i).2.2.2] ∧ (z i).1 < 4294967296 ∧ (z i).2.1 < 65536 ∧ (z i).2.2.1 < 4294967296 ∧ (z i).2.2.2 < 65536 := ⟨fun i => Classical.choose (key i), fun i hi => Classical.choose_spec (key i) hi⟩
    refine ⟨r, a, p, b, q, r2, a2, p2, b2, q2, st, dl, ad, n, c, fun i => (z i).1, fun i => (z i).2.1, fun i => (z i).2.2.1, fun i => (z i).2.2.2, by simp [e0, e1, e2, e3, e4], w0, w1, wf_i64 w2, wf_i64 w3, hnc, hcm, fun i hi => (hz i (by omega)).2, fun hn => ?_⟩
    obtain ⟨hb, ho, e, hcell⟩ := hat (by omega)
    have hcell2 : ∀ i, i < n → ∀ j, j < 4 → w.cell? ⟨hb, ho + (i * 4 + j), none⟩ = (holdV (fun i => (z i).1) (fun i => (z i).2.1) (fun i => (z i).2.2.1) (fun i => (z i).2.2.2) i)[j]? := fun i hi j hj => by
      have := hcell i (by omega) j hj
      rw [(hz i (by omega)).1, Nat.add_assoc] at this
      exact this
    refine ⟨hb, ho, e, holdsV_len _ _ _ _ _, fun j x hj => ?_, fun x hx => ?_, ?_⟩
    · have hjl := (List.getElem?_eq_some_iff.1 hj).1
      rw [holdsV_len] at hjl
      have e : j = j / 4 * 4 + j % 4 := by omega
      rw [e] at hj ⊢
      rw [holdsV_get _ _ _ _ _ _ _ (by omega) (by omega)] at hj
      rw [hcell2 _ (by omega) _ (by omega)]
      exact hj
    · simp only [holdsV, List.mem_flatMap, holdV, List.mem_cons, List.not_mem_nil, or_false] at hx
      obtain ⟨i, _, (rfl | rfl | rfl | rfl)⟩ := hx <;> rfl
    · have := hcell2 0 (by omega) 0 (by omega)
      simp only [holdV, List.getElem?_cons_zero] at this
      exact cell_lt this
theorem ent_open {w : World} {v : Value} (h : Good Tryd.prog w 31 v) : ∃ (r a p b q r2 a2 p2 b2 q2 : Nat) (st dl : Int) (ad : Option Addr) (m c : Nat) (oa op ia ip : Nat → Nat), v = .agg #[.int .u8 r, .int .u32 a, .int .u16 p, .int .u32 b, .int .u16 q, .int .u8 r2, .int .u32 a2, .int .u16 p2, .int .u32 b2, .int .u16 q2, .int .i64 st, .int .i64 dl, .slice ad m c] ∧
    (r < 256 ∧ a < 4294967296 ∧ p < 65536 ∧ b < 4294967296 ∧ q < 65536) ∧ (r2 < 256 ∧ a2 < 4294967296 ∧ p2 < 65536 ∧ b2 < 4294967296 ∧ q2 < 65536) ∧ (-9223372036854775808 ≤ st ∧ st ≤ 9223372036854775807) ∧ (-9223372036854775808 ≤ dl ∧ dl ≤ 9223372036854775807) ∧ HoldsOk w ad m c oa op ia ip := by
  obtain ⟨cs, n, rfl, hs⟩ := good_struct Tryd.underlying31 h
  obtain ⟨r, a, p, b, q, r2, a2, p2, b2, q2, st, dl, ad, m, c, oa, op, ia, ip, e, rest⟩ := ent_sees hs
  refine ⟨r, a, p, b, q, r2, a2, p2, b2, q2, st, dl, ad, m, c, oa, op, ia, ip, ?_, rest⟩
  cases cs
  simp at e
  rw [e]
end Go.Proofs.YtdmbjndhdldggaaDoor

namespace Go.Proofs.YtdmbjndhdldggaaDoor
set_option linter.unusedVariables false
set_option linter.unusedSimpArgs false
open Go.RowKit Go.Lib Go.Sort
theorem set5 (w : World) (g : Nat) (T : TypeId) (z0 z1 z2 z3 z4 : Value) (h : w.heap[g]? = some (.cells #[z0, z1, z2, z3, z4] T (0, 0))) (x0 x1 x2 x3 x4 : Value) :
    ∃ W, W = (((((w.setCell ⟨g, 0, none⟩ x0).setCell ⟨g, 1, none⟩ x1).setCell ⟨g, 2, none⟩ x2).setCell ⟨g, 3, none⟩ x3).setCell ⟨g, 4, none⟩ x4) ∧ W.heap[g]? = some (.cells #[x0, x1, x2, x3, x4] T (0, 0)) ∧ Fp (fun k => k = g) w W := by
  refine ⟨_, rfl, ?_, ?_⟩
  · have h0 := heap_set w g 0 _ T x0 h
    have h1 := heap_set _ g 1 _ T x1 h0
    have h2 := heap_set _ g 2 _ T x2 h1
    have h3 := heap_set _ g 3 _ T x3 h2
    have h4 := heap_set _ g 4 _ T x4 h3
    rw [h4]; simp
  · exact ((((((Fp.refl (fun k => k = g) w).setCell (p := ⟨g, 0, none⟩) (Or.inr rfl) x0).setCell (p := ⟨g, 1, none⟩) (Or.inr rfl) x1).setCell (p := ⟨g, 2, none⟩) (Or.inr rfl) x2).setCell (p := ⟨g, 3, none⟩) (Or.inr rfl) x3).setCell (p := ⟨g, 4, none⟩) (Or.inr rfl) x4)

/-- What ranging over the words wants. -/
structure TbQ (w : World) : Prop where
  toP : TbP w
  rng : ∃ (bm n : Nat) (D : DataW Unit) (R : Value → Option (DataW Unit × List MemPlace)), w.cell? ⟨0, 0, none⟩ = some (.map (some bm)) ∧ w.ownsMap Tryd.prog 5 R bm n D ∧
    (∀ v y, R v = some y → ∃ s : List UInt8, v = str s ∧ y.1 = .lit (.string s)) ∧ ∀ k : Nat, k < 256 → ∀ zd, D.atKey (.int .u8 k) zd = if isWord k = true then .lit (.string (wordOf k)) else zd
theorem owns_low {w w' : World} {R : Value → Option (DataW Unit × List MemPlace)} {b n : Nat} {D : DataW Unit} (h : w.ownsMap Tryd.prog 5 R b n D) (hf : NoW w w') : w'.ownsMap Tryd.prog 5 R b n D := by
  obtain ⟨es, cl, hb, r⟩ := h
  exact ⟨es, cl, (hf.block _ (Array.getElem?_eq_some_iff.1 hb).1 id).trans hb, r⟩
theorem TbQ.low {w w' : World} (h : TbQ w) (hf : NoW w w') : TbQ w' := by
  obtain ⟨hb, bm, n, D, R, h1, h2, h3, h4⟩ := h
  exact ⟨hb.low hf, bm, n, D, R, (hf.cell (cell_lt h1) id).trans h1, owns_low h2 hf, h3, h4⟩
theorem ranges_low {w w' : World} {R : Value → Option (DataW Unit × List MemPlace)} {b r n cnt : Nat} {D : DataW Unit} {left : Lit → Bool} (h : w.ranges Tryd.prog 5 R b r n D left cnt) (hf : NoW w w') : w'.ranges Tryd.prog 5 R b r n D left cnt := by
  obtain ⟨es, cl, since, seen, c0, hb, F, hs, hD, hr, rest⟩ := h
  exact ⟨es, cl, since, seen, c0, (hf.block _ (Array.getElem?_eq_some_iff.1 hb).1 id).trans hb, F, hs, hD, (hf.block _ (Array.getElem?_eq_some_iff.1 hr).1 id).trans hr, rest⟩
theorem has_word {D : DataW Unit} (h : ∀ k : Nat, k < 256 → ∀ zd, D.atKey (.int .u8 k) zd = if isWord k = true then .lit (.string (wordOf k)) else zd) {k : Nat} (hk : isWord k = true) : Maps.has D (.int .u8 k) = true := by
  have hk' := of_decide_eq_true hk
  exact Maps.has_true_of_atKey (y := .lit (.string (wordOf k))) (fun z => by rw [h k (by omega) z, if_pos hk])

/-- What Parse answers. -/
def tupRV : Option (Nat × Nat × Nat × Nat × Nat) → Value
  | some (k, a, p, b, q) => .tuple #[.agg #[.int .u8 k, .int .u32 a, .int .u16 p, .int .u32 b, .int .u16 q], .int .i64 0]
  | none => .tuple #[.agg #[.int .u8 0, .int .u32 0, .int .u16 0, .int .u32 0, .int .u16 0], .int .i64 3]
theorem pt_val (o : Option (Nat × Nat)) : ∃ (a n : Nat) (e : Int) (z : Bool), ptV o = .tuple #[.agg #[.int .u32 a, .int .u16 n], .int .i64 e] ∧ (e == 0) = z ∧ (z = true → o = some (a, n)) ∧ (z = false → o = none) := by
  rcases o with _ | ⟨a, n⟩
  · exact ⟨0, 0, 3, false, rfl, rfl, (fun h => by cases h), fun _ => rfl⟩
  · exact ⟨a, n, 0, true, rfl, rfl, fun _ => rfl, fun h => by cases h⟩

set_option maxHeartbeats 4000000 in
set_option maxRecDepth 100000 in
theorem tup_parse (l : List UInt8) (hl : l.length ≤ 4294967000) (w : World) (ht : TbQ w) :
    Calls Tryd.prog 63 #[str l] w (Ret1 (tupRV (tupOf l)) w) := by
  obtain ⟨mm, hmx0⟩ := ht.toP.mx
  have hsz : (⟨l.toArray⟩ : ByteArray).size = l.length := by simp [ByteArray.size]
  have Ht := Lib.hid ht
  have hcnt := count_list 32 l
  clear ht
  obtain ⟨ps, hps⟩ : ∃ ps, ps = pieces 32 l := ⟨_, rfl⟩
  have hsplit := split_list 32 l
  rw [← hps] at hcnt hsplit
  have hlen : ∀ p, p ∈ ps → p.length ≤ 4294967000 := by
    intro p hp
    have : p.length ≤ l.length := by rw [hps] at hp; exact pieces_le hp
    omega
  have Hlen := Lib.hid hlen
  have Hps := Lib.hid hps
  have hwz : NoW w (w.alloc (.cells #[.int .u8 0, .int .u32 0, .int .u16 0, .int .u32 0, .int .u16 0] 28)) := (Fp.refl _ _).alloc _
  have hmx := (hwz.cell (cell_lt hmx0) id).trans hmx0
  go_enter Tryd.func63, Tryd.ntmps63
  go_wp2_with fail
  have hbR := heap_alloc_new w (.cells #[.int .u8 0, .int .u32 0, .int .u16 0, .int .u32 0, .int .u16 0] 28)
  generalize w.alloc (.cells #[.int .u8 0, .int .u32 0, .int .u16 0, .int .u32 0, .int .u16 0] 28) = w0 at *
  obtain ⟨gR, hgR⟩ : ∃ gR, gR = w.heap.size := ⟨_, rfl⟩
  rw [← hgR] at hbR ⊢
  have HgR := Lib.hid (show w.heap.size ≤ gR by omega)
  clear hgR
  refine (Tryd.strings_Split ⟨l.toArray⟩ ⟨#[32]⟩ mm w0 (by rw [hsz]; omega) hmx (by decide)).mono ?_
  rintro e w1 ⟨rfl, rfl⟩
  rw [hcnt, hsplit]
  have hcell : ∀ k (h : k < ps.length), (w0.alloc (.cells ((ps.map (fun p => (⟨p.toArray⟩ : ByteArray))).map Value.string).toArray 9)).cell? ⟨w0.heap.size, k, none⟩ = some (str ps[k]) := by
    intro k h
    have hb := heap_alloc_new w0 (.cells ((ps.map (fun p => (⟨p.toArray⟩ : ByteArray))).map Value.string).toArray 9)
    unfold World.cell?
    rw [hb]
    simp [h]
  have hn1 : NoW w0 (w0.alloc (.cells ((ps.map (fun p => (⟨p.toArray⟩ : ByteArray))).map Value.string).toArray 9)) := (Fp.refl _ _).alloc _
  generalize w0.alloc (.cells ((ps.map (fun p => (⟨p.toArray⟩ : ByteArray))).map Value.string).toArray 9) = w1 at *
  generalize w0.heap.size = gP at *
  have Hn1 := Lib.hid (hwz.trans hn1 (fun _ _ h => h))
  have hbR1 := (hn1.block _ (Array.getElem?_eq_some_iff.1 hbR).1 id).trans hbR
  have BR := Lib.hid hbR1
  have Hcell := Lib.hid hcell
  clear hn1 hcell hcnt hsplit hlen hmx hmx0 hps hwz hbR hbR1 hsz
  by_cases h3 : ps.length = 3
  · obtain ⟨p0, p1, p2, rfl⟩ : ∃ p0 p1 p2, ps = [p0, p1, p2] := by
      rcases ps with _ | ⟨a, _ | ⟨b, _ | ⟨c, _ | ⟨d, r⟩⟩⟩⟩ <;> simp at h3
      exact ⟨a, b, c, rfl⟩
    have x0 : w1.cell? ⟨gP, 0, none⟩ = some (str p0) := Hcell.out 0 (by simp)
    have x1 : w1.cell? ⟨gP, 1, none⟩ = some (str p1) := Hcell.out 1 (by simp)
    have x2 : w1.cell? ⟨gP, 2, none⟩ = some (str p2) := Hcell.out 2 (by simp)
    have lP : gP < w1.heap.size := cell_lt x0
    have Hx := Lib.hid (show ∀ W, NoW w1 W → W.cell? ⟨gP, 0, none⟩ = some (str p0) ∧ W.cell? ⟨gP, 1, none⟩ = some (str p1) ∧ W.cell? ⟨gP, 2, none⟩ = some (str p2) from fun W h => ⟨(h.cell (p := ⟨gP, 0, none⟩) lP id).trans x0, (h.cell (p := ⟨gP, 1, none⟩) lP id).trans x1, (h.cell (p := ⟨gP, 2, none⟩) lP id).trans x2⟩)
    obtain ⟨a, p, e1, z1, hv1, hz1, hs1, hn1⟩ := pt_val (withOf 58 65535 p1)
    obtain ⟨b, q, e2, z2, hv2, hz2, hs2, hn2⟩ := pt_val (withOf 58 65535 p2)
    have k1 := fun W hW => ad_point p1 (Hlen.out p1 (by simp)) W hW
    have k2 := fun W hW => ad_point p2 (Hlen.out p2 (by simp)) W hW
    rw [hv1] at k1
    rw [hv2] at k2
    have K1 := Lib.hid k1
    have K2 := Lib.hid k2
    have Hs1 := Lib.hid (And.intro hs1 hn1)
    have Hs2 := Lib.hid (And.intro hs2 hn2)
    have Hq := Lib.hid (show ∀ W, NoW w1 W → TbQ W from fun W h => Ht.out.low (Hn1.out.trans h (fun _ _ h => h)))
    have HzR := Lib.hid (show ∀ W, NoW w1 W → W.heap[gR]? = some (.cells #[.int .u8 0, .int .u32 0, .int .u16 0, .int .u32 0, .int .u16 0] 28) from fun W h => (h.block _ (Array.getElem?_eq_some_iff.1 BR.out).1 id).trans BR.out)
    clear h3 k1 k2 hv1 hv2 hs1 hn1 hs2 hn2 Hcell
    go_wp2_with fail
    clear x0 x1 x2
    refine (K1.out _ (Hq.out w1 (Fp.refl _ _)).toP).mono ?_
    rintro e v1 ⟨rfl, hp⟩
    obtain ⟨x0, x1, x2⟩ := Hx.out v1 hp
    have lP1 : gP < v1.heap.size := cell_lt x0
    have M1 := Lib.hid hp
    clear hp
    go_wp2_with fail
    clear x0 x1 x2 lP1
    have hq5 : NoW v1 (v1.alloc (.cells #[.int .u32 a, .int .u16 p] 26)) := (Fp.refl _ _).alloc _
    have B5 := Lib.hid (heap_alloc_new v1 (.cells #[.int .u32 a, .int .u16 p] 26))
    have M2 := Lib.hid (M1.out.trans hq5 (fun _ _ h => h))
    clear hq5 M1
    generalize v1.alloc (.cells #[.int .u32 a, .int .u16 p] 26) = v2 at *
    generalize v1.heap.size = g5 at *
    refine (K2.out _ (Hq.out v2 M2.out).toP).mono ?_
    rintro e v3 ⟨rfl, hp⟩
    have B5b := Lib.hid ((hp.block _ (Array.getElem?_eq_some_iff.1 B5.out).1 id).trans B5.out)
    have M3 := Lib.hid (M2.out.trans hp (fun _ _ h => h))
    clear hp M2 B5
    obtain ⟨bm, n, D, R, hwd, hown, hinv, hat⟩ := (Hq.out v3 M3.out).rng
    have lwd := cell_lt hwd
    have Hinv := Lib.hid hinv
    have Hat := Lib.hid hat
    have Hown := Lib.hid hown
    clear hinv hat hown
    go_wp2_with (at_range; refine wpList_range_own _ rfl _ 107 rfl 5 9 (Go.Maps.int_keyed Tryd.underlying5) Tryd.underlying107 R bm n D rfl (owns_low Hown.out ((Fp.refl _ _).alloc _)) ?_; intro w6 hrg hg6 hs6)
    go_frame
    have hq7 : NoW v3 (v3.alloc (.cells #[.int .u32 b, .int .u16 q] 26)) := (Fp.refl _ _).alloc _
    have hb7 := heap_alloc_new v3 (.cells #[.int .u32 b, .int .u16 q] 26)
    have hb5 := (hq7.block _ (Array.getElem?_eq_some_iff.1 B5b.out).1 id).trans B5b.out
    have hm4 := M3.out.trans hq7 (fun _ _ h => h)
    clear hq7 M3 B5b hwd lwd Hown
    generalize v3.alloc (.cells #[.int .u32 b, .int .u16 q] 26) = v4 at *
    generalize v3.heap.size = g7 at *
    have h6n : NoW v4 w6 := (Fp.refl _ _).grown hg6 (fun k e => by cases e)
    obtain ⟨gI, hgI⟩ : ∃ gI, gI = v4.heap.size := ⟨_, rfl⟩
    rw [← hgI] at hrg ⊢
    have HgI := Lib.hid hgI
    have B5 := Lib.hid hb5
    have B7 := Lib.hid hb7
    have M4 := Lib.hid hm4
    have Hrg := Lib.hid hrg
    have H6n := Lib.hid h6n
    clear hgI hb5 hb7 hm4 hg6 hs6 hrg h6n
    go_loopg [9] (Maps.size D) (fun gg v9 wx => ∃ (left : Lit → Bool) (cnt : Nat), gg = cnt ∧ wx.ranges Tryd.prog 5 R bm gI n D left cnt ∧ NoW v4 wx ∧ ∀ k : Nat, isWord k = true → left (.int .u8 k) = false → ¬ (wordOf k = p0 ∧ z1 = true ∧ z2 = true ∧ tupB k p q = true))
    case atStart => exact ⟨Maps.has D, Maps.size D, rfl, Hrg.out, H6n.out, fun k hk h => by rw [has_word Hat.out hk] at h; cases h⟩
    case round =>
      obtain ⟨left, cnt, rfl, hrg, hf, hno⟩ := hrel
      have Hf := Lib.hid hf
      have Hno := Lib.hid hno
      clear hf hno
      have hwf' : NoW w1 wr := M4.out.trans Hf.out (fun _ _ h => h)
      go_wp2_with (at_next; go_loud (refine wpList_next_ranges _ rfl _ rfl 5 (Go.Maps.int_keyed Tryd.underlying5) R (Value.int .u8) (fun s : List UInt8 => str s) (fun key kl hkey => by obtain ⟨x, rfl, _⟩ := Maps.keyOf_int_inv Tryd.underlying5 hkey; exact ⟨x, rfl⟩) (fun v y hv => by obtain ⟨s, rfl, _⟩ := Hinv.out v y hv; exact ⟨s, rfl⟩) bm gI n D _ _ rfl hrg ?_ ?_))
      · intro hc0 hl0
        have hn0 : NoW w wr := Hn1.out.trans hwf' (fun _ _ h => h)
        have HE : tupOf l = none := by
          unfold tupOf
          rw [← Hps.out]
          dsimp only
          rcases h0 : wordNo p0 with _ | k
          · rfl
          · obtain ⟨hk, hp0⟩ := wordNo_some.1 h0
            have hk' := Hno.out k hk (hl0 _)
            rcases z1 with _ | _
            · rw [Hs1.out.2 rfl]
            · rcases z2 with _ | _
              · rw [Hs1.out.1 rfl, Hs2.out.2 rfl]
              · rw [Hs1.out.1 (by first | rfl | trivial), Hs2.out.1 (by first | rfl | trivial)]
                dsimp only
                rw [if_neg (fun h => hk' ⟨hp0.symm, rfl, rfl, h⟩)]
        have hy := HzR.out wr hwf'
        have y0 : wr.cell? ⟨gR, 0, none⟩ = some (.int .u8 0) := by simp [World.cell?, hy]
        have zy0 : wr.frozen? ⟨gR, 0, none⟩ = false := by simp [World.frozen?, hy]
        have y1 : wr.cell? ⟨gR, 1, none⟩ = some (.int .u32 0) := by simp [World.cell?, hy]
        have zy1 : wr.frozen? ⟨gR, 1, none⟩ = false := by simp [World.frozen?, hy]
        have y2 : wr.cell? ⟨gR, 2, none⟩ = some (.int .u16 0) := by simp [World.cell?, hy]
        have zy2 : wr.frozen? ⟨gR, 2, none⟩ = false := by simp [World.frozen?, hy]
        have y3 : wr.cell? ⟨gR, 3, none⟩ = some (.int .u32 0) := by simp [World.cell?, hy]
        have zy3 : wr.frozen? ⟨gR, 3, none⟩ = false := by simp [World.frozen?, hy]
        have y4 : wr.cell? ⟨gR, 4, none⟩ = some (.int .u16 0) := by simp [World.cell?, hy]
        have zy4 : wr.frozen? ⟨gR, 4, none⟩ = false := by simp [World.frozen?, hy]
        go_wp2_with fail
        obtain ⟨W, hW, hb2, hf2⟩ := set5 wr gR 28 (.int .u8 0) (.int .u32 0) (.int .u16 0) (.int .u32 0) (.int .u16 0) (HzR.out wr hwf') (.int .u8 0) (.int .u32 0) (.int .u16 0) (.int .u32 0) (.int .u16 0)
        rw [← hW]
        clear hW y0 zy0 y1 zy1 y2 zy2 y3 zy3 y4 zy4 hy
        have y0 : W.cell? ⟨gR, 0, none⟩ = some (.int .u8 0) := by simp [World.cell?, hb2]
        have y1 : W.cell? ⟨gR, 1, none⟩ = some (.int .u32 0) := by simp [World.cell?, hb2]
        have y2 : W.cell? ⟨gR, 2, none⟩ = some (.int .u16 0) := by simp [World.cell?, hb2]
        have y3 : W.cell? ⟨gR, 3, none⟩ = some (.int .u32 0) := by simp [World.cell?, hb2]
        have y4 : W.cell? ⟨gR, 4, none⟩ = some (.int .u16 0) := by simp [World.cell?, hb2]
        have HF := Lib.hid (hn0.trans hf2 (fun i hi e => by have h1 : i = gR := e; have h2 := HgR.out; omega))
        have HE2 := Lib.hid HE
        clear hf2 hb2 HE
        refine bodyPost_ret (v := .tuple #[.agg #[.int .u8 0, .int .u32 0, .int .u16 0, .int .u32 0, .int .u16 0], .int .i64 3]) (by simp only [results, Tryd.results63]; go_simp) rfl ⟨by rw [HE2.out]; rfl, HF.out⟩

      · intro x c kl yd yp w5 cnt5 hkey hlk hRy hat5 hrg5 hlt5 hg5 hs5 hen
        obtain ⟨x', ex, rfl, hwf⟩ := Maps.keyOf_int_inv Tryd.underlying5 hkey
        cases ex
        obtain ⟨k, rfl, hk256⟩ := wf_nat hwf rfl
        obtain ⟨s, hs, hy⟩ := Hinv.out _ _ hRy
        have hcs : c = s := by simpa using hs
        subst hcs
        have hkey2 := Hat.out k hk256 .nil
        rw [hat5] at hkey2
        have hisw : isWord k = true := by
          rcases hi : isWord k with _ | _
          · rw [hi] at hkey2; simp only [Bool.false_eq_true, if_false] at hkey2; rw [show yd = _ from hy] at hkey2; cases hkey2
          · rfl
        rw [hisw, if_pos rfl, show yd = _ from hy] at hkey2
        have hcw : c = wordOf k := by simpa using hkey2
        subst hcw
        have n5 : NoW v4 w5 := Fp.grown Hf.out hg5 (fun i e => Or.inl (by have h1 : gI = i := by simpa using e
                                                                          have := HgI.out; omega))
        have N5 := Lib.hid n5
        have Hrg5 := Lib.hid hrg5
        have hb5 := (n5.block _ (Array.getElem?_eq_some_iff.1 B5.out).1 id).trans B5.out
        have hb7 := (n5.block _ (Array.getElem?_eq_some_iff.1 B7.out).1 id).trans B7.out
        have f0 : w5.cell? ⟨g5, 0, none⟩ = some (.int .u32 a) := by simp [World.cell?, hb5]
        have f1 : w5.cell? ⟨g5, 1, none⟩ = some (.int .u16 p) := by simp [World.cell?, hb5]
        have d0 : w5.cell? ⟨g7, 0, none⟩ = some (.int .u32 b) := by simp [World.cell?, hb7]
        have d1 : w5.cell? ⟨g7, 1, none⟩ = some (.int .u16 q) := by simp [World.cell?, hb7]
        obtain ⟨x0, _, _⟩ := Hx.out w5 (M4.out.trans n5 (fun _ _ h => h))
        have l5 := cell_lt f0
        have l7 := cell_lt d0
        have lP5 := cell_lt x0
        have km := fun W hW => tup_ok k a p b q hk256 W hW
        clear hwf' hkey hlk hRy hat5 hs hy hkey2 n5 hb5 hb7 hg5 hs5 hrg5
        rcases hw : (wordOf k == p0) with _ | _
        · have hb : (wordOf k == p0) = false := hw
          go_wp2_with fail
          go_roundg cnt5
          case measure => exact hlt5
          case rel => exact ⟨_, cnt5, rfl, (ranges_low Hrg5.out ((Fp.refl _ _).alloc _ : NoW w5 (w5.alloc (.cells #[.int .u8 k, .int .u32 a, .int .u16 p, .int .u32 b, .int .u16 q] 28)))), (N5.out.trans ((Fp.refl _ _).alloc _ : NoW w5 (w5.alloc (.cells #[.int .u8 k, .int .u32 a, .int .u16 p, .int .u32 b, .int .u16 q] 28))) (fun _ _ h => h)), fun k' hk' hl' => by
              simp only [Bool.and_eq_false_iff] at hl'
              rcases hl' with h | h
              · exact Hno.out k' hk' h
              · have hkk : k' = k := by
                  by_cases e : k' = k
                  · exact e
                  · exfalso
                    have : (Lit.int .u8 (k' : Int)).sameKey (.int .u8 (k : Int)) = false := by simp [Lit.sameKey]; omega
                    rw [this] at h; cases h
                subst hkk
                exact fun h => by rw [h.1] at hw; simp at hw⟩
        · have hwp : wordOf k = p0 := by simpa using hw
          rcases hz : z1 with _ | _
          · subst hz
            go_wp2_with fail
            go_roundg cnt5
            case measure => exact hlt5
            case rel => exact ⟨_, cnt5, rfl, (ranges_low Hrg5.out ((Fp.refl _ _).alloc _ : NoW w5 (w5.alloc (.cells #[.int .u8 k, .int .u32 a, .int .u16 p, .int .u32 b, .int .u16 q] 28)))), (N5.out.trans ((Fp.refl _ _).alloc _ : NoW w5 (w5.alloc (.cells #[.int .u8 k, .int .u32 a, .int .u16 p, .int .u32 b, .int .u16 q] 28))) (fun _ _ h => h)), fun k' hk' hl' => by
                simp only [Bool.and_eq_false_iff] at hl'
                rcases hl' with h | h
                · exact Hno.out k' hk' h
                · have hkk : k' = k := by
                    by_cases e : k' = k
                    · exact e
                    · exfalso
                      have : (Lit.int .u8 (k' : Int)).sameKey (.int .u8 (k : Int)) = false := by simp [Lit.sameKey]; omega
                      rw [this] at h; cases h
                  subst hkk
                  exact fun h => by cases h.2.1⟩
          · rcases hz' : z2 with _ | _
            · subst hz'
              go_wp2_with fail
              go_roundg cnt5
              case measure => exact hlt5
              case rel => exact ⟨_, cnt5, rfl, (ranges_low Hrg5.out ((Fp.refl _ _).alloc _ : NoW w5 (w5.alloc (.cells #[.int .u8 k, .int .u32 a, .int .u16 p, .int .u32 b, .int .u16 q] 28)))), (N5.out.trans ((Fp.refl _ _).alloc _ : NoW w5 (w5.alloc (.cells #[.int .u8 k, .int .u32 a, .int .u16 p, .int .u32 b, .int .u16 q] 28))) (fun _ _ h => h)), fun k' hk' hl' => by
                  simp only [Bool.and_eq_false_iff] at hl'
                  rcases hl' with h | h
                  · exact Hno.out k' hk' h
                  · have hkk : k' = k := by
                      by_cases e : k' = k
                      · exact e
                      · exfalso
                        have : (Lit.int .u8 (k' : Int)).sameKey (.int .u8 (k : Int)) = false := by simp [Lit.sameKey]; omega
                        rw [this] at h; cases h
                    subst hkk
                    exact fun h => by cases h.2.2.1⟩
            · subst hz
              subst hz'
              rcases hB : tupB k p q with _ | _
              · rw [hB] at km
                have KM := Lib.hid km
                clear km
                go_wp2_with fail
                have hqb : NoW w5 (w5.alloc (.cells #[.int .u8 k, .int .u32 a, .int .u16 p, .int .u32 b, .int .u16 q] 28)) := (Fp.refl _ _).alloc _
                have B11 := heap_alloc_new w5 (.cells #[.int .u8 k, .int .u32 a, .int .u16 p, .int .u32 b, .int .u16 q] 28)
                have hNb := N5.out.trans hqb (fun _ _ h => h)
                have hRb := ranges_low Hrg5.out hqb
                clear hqb
                generalize w5.alloc (.cells #[.int .u8 k, .int .u32 a, .int .u16 p, .int .u32 b, .int .u16 q] 28) = w7 at *
                generalize w5.heap.size = g11 at *
                refine (KM.out _ (Hq.out w7 (M4.out.trans hNb (fun _ _ h => h))).toP.base).mono ?_
                rintro e w8 ⟨rfl, hp⟩
                have N8 := hNb.trans hp (fun _ _ h => h)
                have R8 := ranges_low hRb hp
                have hb11 := (hp.block _ (Array.getElem?_eq_some_iff.1 B11).1 id).trans B11
                clear hp hNb hRb B11
                go_wp2_with fail
                go_roundg cnt5
                case measure => exact hlt5
                case rel => exact ⟨_, cnt5, rfl, R8, N8, fun k' hk' hl' => by
                    simp only [Bool.and_eq_false_iff] at hl'
                    rcases hl' with h | h
                    · exact Hno.out k' hk' h
                    · have hkk : k' = k := by
                        by_cases e : k' = k
                        · exact e
                        · exfalso
                          have : (Lit.int .u8 (k' : Int)).sameKey (.int .u8 (k : Int)) = false := by simp [Lit.sameKey]; omega
                          rw [this] at h; cases h
                      subst hkk
                      exact fun h => by rw [hB] at h; cases h.2.2.2⟩
              · rw [hB] at km
                have KM := Lib.hid km
                clear km
                go_wp2_with fail
                have hqb : NoW w5 (w5.alloc (.cells #[.int .u8 k, .int .u32 a, .int .u16 p, .int .u32 b, .int .u16 q] 28)) := (Fp.refl _ _).alloc _
                have B11 := heap_alloc_new w5 (.cells #[.int .u8 k, .int .u32 a, .int .u16 p, .int .u32 b, .int .u16 q] 28)
                have hNb := N5.out.trans hqb (fun _ _ h => h)
                have hRb := ranges_low Hrg5.out hqb
                clear hqb
                generalize w5.alloc (.cells #[.int .u8 k, .int .u32 a, .int .u16 p, .int .u32 b, .int .u16 q] 28) = w7 at *
                generalize w5.heap.size = g11 at *
                refine (KM.out _ (Hq.out w7 (M4.out.trans hNb (fun _ _ h => h))).toP.base).mono ?_
                rintro e w8 ⟨rfl, hp⟩
                have N8 := hNb.trans hp (fun _ _ h => h)
                have R8 := ranges_low hRb hp
                have hb11 := (hp.block _ (Array.getElem?_eq_some_iff.1 B11).1 id).trans B11
                clear hp hNb hRb B11
                have t0 : w8.cell? ⟨g11, 0, none⟩ = some (.int .u8 k) := by simp [World.cell?, hb11]
                have t1 : w8.cell? ⟨g11, 1, none⟩ = some (.int .u32 a) := by simp [World.cell?, hb11]
                have t2 : w8.cell? ⟨g11, 2, none⟩ = some (.int .u16 p) := by simp [World.cell?, hb11]
                have t3 : w8.cell? ⟨g11, 3, none⟩ = some (.int .u32 b) := by simp [World.cell?, hb11]
                have t4 : w8.cell? ⟨g11, 4, none⟩ = some (.int .u16 q) := by simp [World.cell?, hb11]
                have hN8 : NoW w1 w8 := M4.out.trans N8 (fun _ _ h => h)
                have hn0 : NoW w w8 := Hn1.out.trans hN8 (fun _ _ h => h)
                have HE : tupOf l = some (k, a, p, b, q) := by
                  unfold tupOf
                  rw [← Hps.out]
                  dsimp only
                  rw [← hwp, wordNo_of hisw, Hs1.out.1 (by first | rfl | trivial), Hs2.out.1 (by first | rfl | trivial)]
                  dsimp only
                  rw [if_pos hB]
                have lg11 := cell_lt t0
                have hy := HzR.out w8 hN8
                have y0 : w8.cell? ⟨gR, 0, none⟩ = some (.int .u8 0) := by simp [World.cell?, hy]
                have zy0 : w8.frozen? ⟨gR, 0, none⟩ = false := by simp [World.frozen?, hy]
                have y1 : w8.cell? ⟨gR, 1, none⟩ = some (.int .u32 0) := by simp [World.cell?, hy]
                have zy1 : w8.frozen? ⟨gR, 1, none⟩ = false := by simp [World.frozen?, hy]
                have y2 : w8.cell? ⟨gR, 2, none⟩ = some (.int .u16 0) := by simp [World.cell?, hy]
                have zy2 : w8.frozen? ⟨gR, 2, none⟩ = false := by simp [World.frozen?, hy]
                have y3 : w8.cell? ⟨gR, 3, none⟩ = some (.int .u32 0) := by simp [World.cell?, hy]
                have zy3 : w8.frozen? ⟨gR, 3, none⟩ = false := by simp [World.frozen?, hy]
                have y4 : w8.cell? ⟨gR, 4, none⟩ = some (.int .u16 0) := by simp [World.cell?, hy]
                have zy4 : w8.frozen? ⟨gR, 4, none⟩ = false := by simp [World.frozen?, hy]
                go_wp2_with fail
                obtain ⟨W, hW, hb2, hf2⟩ := set5 w8 gR 28 (.int .u8 0) (.int .u32 0) (.int .u16 0) (.int .u32 0) (.int .u16 0) (HzR.out w8 hN8) (.int .u8 k) (.int .u32 a) (.int .u16 p) (.int .u32 b) (.int .u16 q)
                rw [← hW]
                clear hW y0 zy0 y1 zy1 y2 zy2 y3 zy3 y4 zy4 hy
                have y0 : W.cell? ⟨gR, 0, none⟩ = some (.int .u8 k) := by simp [World.cell?, hb2]
                have y1 : W.cell? ⟨gR, 1, none⟩ = some (.int .u32 a) := by simp [World.cell?, hb2]
                have y2 : W.cell? ⟨gR, 2, none⟩ = some (.int .u16 p) := by simp [World.cell?, hb2]
                have y3 : W.cell? ⟨gR, 3, none⟩ = some (.int .u32 b) := by simp [World.cell?, hb2]
                have y4 : W.cell? ⟨gR, 4, none⟩ = some (.int .u16 q) := by simp [World.cell?, hb2]
                have HF := Lib.hid (hn0.trans hf2 (fun i hi e => by have h1 : i = gR := e; have h2 := HgR.out; omega))
                have HE2 := Lib.hid HE
                clear hf2 hb2 HE
                refine bodyPost_ret (v := .tuple #[.agg #[.int .u8 k, .int .u32 a, .int .u16 p, .int .u32 b, .int .u16 q], .int .i64 0]) (by simp only [results, Tryd.results63]; go_simp) rfl ⟨by rw [HE2.out]; rfl, HF.out⟩
  · have HE : tupOf l = none := by
      unfold tupOf
      rw [← Hps.out]
      rcases ps with _ | ⟨a, _ | ⟨b, _ | ⟨c, _ | ⟨d, r⟩⟩⟩⟩ <;> first | rfl | (simp at h3)
    have hne : (((ps.length : Nat) : Int) != 3) = true := by simp; omega
    clear h3
    have hy := BR.out
    have y0 : w1.cell? ⟨gR, 0, none⟩ = some (.int .u8 0) := by simp [World.cell?, hy]
    have zy0 : w1.frozen? ⟨gR, 0, none⟩ = false := by simp [World.frozen?, hy]
    have y1 : w1.cell? ⟨gR, 1, none⟩ = some (.int .u32 0) := by simp [World.cell?, hy]
    have zy1 : w1.frozen? ⟨gR, 1, none⟩ = false := by simp [World.frozen?, hy]
    have y2 : w1.cell? ⟨gR, 2, none⟩ = some (.int .u16 0) := by simp [World.cell?, hy]
    have zy2 : w1.frozen? ⟨gR, 2, none⟩ = false := by simp [World.frozen?, hy]
    have y3 : w1.cell? ⟨gR, 3, none⟩ = some (.int .u32 0) := by simp [World.cell?, hy]
    have zy3 : w1.frozen? ⟨gR, 3, none⟩ = false := by simp [World.frozen?, hy]
    have y4 : w1.cell? ⟨gR, 4, none⟩ = some (.int .u16 0) := by simp [World.cell?, hy]
    have zy4 : w1.frozen? ⟨gR, 4, none⟩ = false := by simp [World.frozen?, hy]
    go_wp2_with fail
    obtain ⟨W, hW, hb2, hf2⟩ := set5 w1 gR 28 (.int .u8 0) (.int .u32 0) (.int .u16 0) (.int .u32 0) (.int .u16 0) BR.out (.int .u8 0) (.int .u32 0) (.int .u16 0) (.int .u32 0) (.int .u16 0)
    rw [← hW]
    clear hW y0 zy0 y1 zy1 y2 zy2 y3 zy3 y4 zy4 hy
    have y0 : W.cell? ⟨gR, 0, none⟩ = some (.int .u8 0) := by simp [World.cell?, hb2]
    have y1 : W.cell? ⟨gR, 1, none⟩ = some (.int .u32 0) := by simp [World.cell?, hb2]
    have y2 : W.cell? ⟨gR, 2, none⟩ = some (.int .u16 0) := by simp [World.cell?, hb2]
    have y3 : W.cell? ⟨gR, 3, none⟩ = some (.int .u32 0) := by simp [World.cell?, hb2]
    have y4 : W.cell? ⟨gR, 4, none⟩ = some (.int .u16 0) := by simp [World.cell?, hb2]
    have HF := Lib.hid (Hn1.out.trans hf2 (fun i hi e => by have h1 : i = gR := e; have h2 := HgR.out; omega))
    have HE2 := Lib.hid HE
    clear hf2 hb2 HE
    refine bodyPost_ret (v := .tuple #[.agg #[.int .u8 0, .int .u32 0, .int .u16 0, .int .u32 0, .int .u16 0], .int .i64 3]) (by simp only [results, Tryd.results63]; go_simp) rfl ⟨by rw [HE2.out]; rfl, HF.out⟩

end Go.Proofs.YtdmbjndhdldggaaDoor

namespace Go.Proofs.YtdmbjndhdldggaaDoor
set_option linter.unusedVariables false
set_option linter.unusedSimpArgs false
open Go.RowKit Go.Lib Go.Sort
set_option maxHeartbeats 4000000 in
set_option maxRecDepth 100000 in
theorem hold_ok (l : List UInt8) (hl : l.length ≤ 4294967000) : ∃ (a p b q : Nat) (ok : Bool), (ok = true → holdOf l = some (a, p, b, q)) ∧ (ok = false → holdOf l = none) ∧
    ∀ w : World, TbP w → Calls Tryd.prog 65 #[str l] w (Ret1 (.tuple #[.agg #[.int .u32 a, .int .u16 p, .int .u32 b, .int .u16 q], .bool ok]) w) := by
  obtain ⟨x, y, t, hcut, hx, hy, hxy⟩ : ∃ x y t, Lib.cut l [61] = (x, y, t) ∧ x.length ≤ l.length ∧ y.length ≤ l.length ∧ holdOf l = (if t = true then (match withOf 58 65535 x, withOf 58 65535 y with | some (a, p), some (b, q) => some (a, p, b, q) | _, _ => none) else none) := by
    rw [lib_cut]
    rcases h : cutFirst 61 l with _ | ⟨x, y⟩
    · exact ⟨l, [], false, rfl, Nat.le_refl _, by simp, by unfold holdOf; rw [h]; rfl⟩
    · have := (cutFirst_some.1 h).1
      exact ⟨x, y, true, rfl, by rw [this]; simp, by rw [this]; simp; omega, by unfold holdOf; rw [h]; rfl⟩
  obtain ⟨a, p, e1, z1, hv1, hz1, hs1, hn1⟩ := pt_val (withOf 58 65535 x)
  obtain ⟨b, q, e2, z2, hv2, hz2, hs2, hn2⟩ := pt_val (withOf 58 65535 y)
  refine ⟨a, p, b, q, t && z1 && z2, ?_, ?_, fun w ht => ?_⟩
  · intro h
    simp only [Bool.and_eq_true] at h
    rw [hxy, if_pos h.1.1, hs1 h.1.2, hs2 h.2]
  · intro h
    rw [hxy]
    rcases t with _ | _
    · rfl
    · rw [if_pos rfl]
      rcases z1 with _ | _
      · rw [hn1 rfl]
      · rcases z2 with _ | _
        · rw [hn2 rfl]; rcases withOf 58 65535 x with _ | ⟨_, _⟩ <;> rfl
        · cases h
  · have kc := fun W hW => cut_any 61 l hl W hW hcut
    have k1 := fun W hW => ad_point x (by omega) W hW
    have k2 := fun W hW => ad_point y (by omega) W hW
    rw [hv1] at k1
    rw [hv2] at k2
    have KC := Lib.hid kc
    have K1 := Lib.hid k1
    have K2 := Lib.hid k2
    have Ht := Lib.hid ht
    clear kc k1 k2 ht hv1 hv2 hs1 hn1 hs2 hn2 hxy hcut hx hy hl
    go_enter Tryd.func65, Tryd.ntmps65
    go_wp2_with fail
    have hwz : NoW w (w.alloc (.cells #[.int .u32 0, .int .u16 0, .int .u32 0, .int .u16 0] 74)) := (Fp.refl _ _).alloc _
    have hbR := heap_alloc_new w (.cells #[.int .u32 0, .int .u16 0, .int .u32 0, .int .u16 0] 74)
    generalize w.alloc (.cells #[.int .u32 0, .int .u16 0, .int .u32 0, .int .u16 0] 74) = w0 at *
    obtain ⟨gR, hgR⟩ : ∃ gR, gR = w.heap.size := ⟨_, rfl⟩
    rw [← hgR] at hbR ⊢
    have HgR := Lib.hid (show w.heap.size ≤ gR by omega)
    clear hgR
    refine (KC.out w0 (Ht.out.low hwz)).mono ?_
    rintro e v0 ⟨rfl, hp⟩
    have hbR1 := (hp.block _ (Array.getElem?_eq_some_iff.1 hbR).1 id).trans hbR
    have M0 := Lib.hid (hwz.trans hp (fun _ _ h => h))
    clear hp hwz hbR
    go_wp2_with fail
    refine (K1.out v0 (Ht.out.low M0.out)).mono ?_
    rintro e v1 ⟨rfl, hp⟩
    have hbR2 := (hp.block _ (Array.getElem?_eq_some_iff.1 hbR1).1 id).trans hbR1
    have M1 := Lib.hid (M0.out.trans hp (fun _ _ h => h))
    clear hp M0 hbR1
    go_wp2_with fail
    have hq5 : NoW v1 (v1.alloc (.cells #[.int .u32 a, .int .u16 p] 26)) := (Fp.refl _ _).alloc _
    have B5 := heap_alloc_new v1 (.cells #[.int .u32 a, .int .u16 p] 26)
    have hbR3 := (hq5.block _ (Array.getElem?_eq_some_iff.1 hbR2).1 id).trans hbR2
    have M2 := Lib.hid (M1.out.trans hq5 (fun _ _ h => h))
    clear hq5 M1 hbR2
    generalize v1.alloc (.cells #[.int .u32 a, .int .u16 p] 26) = v2 at *
    generalize v1.heap.size = g5 at *
    refine (K2.out v2 (Ht.out.low M2.out)).mono ?_
    rintro e v3 ⟨rfl, hp⟩
    have hb5 := (hp.block _ (Array.getElem?_eq_some_iff.1 B5).1 id).trans B5
    have hbR3b := (hp.block _ (Array.getElem?_eq_some_iff.1 hbR3).1 id).trans hbR3
    have M5 := Lib.hid (M2.out.trans hp (fun _ _ h => h))
    have f0 : v3.cell? ⟨g5, 0, none⟩ = some (.int .u32 a) := by simp [World.cell?, hb5]
    have f1 : v3.cell? ⟨g5, 1, none⟩ = some (.int .u16 p) := by simp [World.cell?, hb5]
    have y0 : v3.cell? ⟨gR, 0, none⟩ = some (.int .u32 0) := by simp [World.cell?, hbR3b]
    have zy0 : v3.frozen? ⟨gR, 0, none⟩ = false := by simp [World.frozen?, hbR3b]
    have y1 : v3.cell? ⟨gR, 1, none⟩ = some (.int .u16 0) := by simp [World.cell?, hbR3b]
    have zy1 : v3.frozen? ⟨gR, 1, none⟩ = false := by simp [World.frozen?, hbR3b]
    have y2 : v3.cell? ⟨gR, 2, none⟩ = some (.int .u32 0) := by simp [World.cell?, hbR3b]
    have zy2 : v3.frozen? ⟨gR, 2, none⟩ = false := by simp [World.frozen?, hbR3b]
    have y3 : v3.cell? ⟨gR, 3, none⟩ = some (.int .u16 0) := by simp [World.cell?, hbR3b]
    have zy3 : v3.frozen? ⟨gR, 3, none⟩ = false := by simp [World.frozen?, hbR3b]
    have l5 := cell_lt f0
    have lR := cell_lt y0
    clear hp M2 hb5 hbR3 B5
    rcases t with _ | _ <;> rcases z1 with _ | _ <;> rcases z2 with _ | _
    · go_wp2_with fail
      obtain ⟨W, hW, hb2, hf2⟩ := set4 v3 gR 74 (.int .u32 0) (.int .u16 0) (.int .u32 0) (.int .u16 0) hbR3b (.int .u32 a) (.int .u16 p) (.int .u32 b) (.int .u16 q)
      rw [← hW]
      clear hW y0 zy0 y1 zy1 y2 zy2 y3 zy3 hbR3b f0 f1
      have y0 : W.cell? ⟨gR, 0, none⟩ = some (.int .u32 a) := by simp [World.cell?, hb2]
      have y1 : W.cell? ⟨gR, 1, none⟩ = some (.int .u16 p) := by simp [World.cell?, hb2]
      have y2 : W.cell? ⟨gR, 2, none⟩ = some (.int .u32 b) := by simp [World.cell?, hb2]
      have y3 : W.cell? ⟨gR, 3, none⟩ = some (.int .u16 q) := by simp [World.cell?, hb2]
      have lRW : gR < W.heap.size := cell_lt y0
      have HF := Lib.hid (M5.out.trans hf2 (fun i hi e => by have h1 : i = gR := e; have h2 := HgR.out; omega))
      clear hf2 hb2
      refine bodyPost_ret (v := .tuple #[.agg #[.int .u32 a, .int .u16 p, .int .u32 b, .int .u16 q], .bool false]) (by simp only [results, Tryd.results65]; go_simp) rfl ⟨rfl, HF.out.alloc _⟩

    · go_wp2_with fail
      obtain ⟨W, hW, hb2, hf2⟩ := set4 v3 gR 74 (.int .u32 0) (.int .u16 0) (.int .u32 0) (.int .u16 0) hbR3b (.int .u32 a) (.int .u16 p) (.int .u32 b) (.int .u16 q)
      rw [← hW]
      clear hW y0 zy0 y1 zy1 y2 zy2 y3 zy3 hbR3b f0 f1
      have y0 : W.cell? ⟨gR, 0, none⟩ = some (.int .u32 a) := by simp [World.cell?, hb2]
      have y1 : W.cell? ⟨gR, 1, none⟩ = some (.int .u16 p) := by simp [World.cell?, hb2]
      have y2 : W.cell? ⟨gR, 2, none⟩ = some (.int .u32 b) := by simp [World.cell?, hb2]
      have y3 : W.cell? ⟨gR, 3, none⟩ = some (.int .u16 q) := by simp [World.cell?, hb2]
      have lRW : gR < W.heap.size := cell_lt y0
      have HF := Lib.hid (M5.out.trans hf2 (fun i hi e => by have h1 : i = gR := e; have h2 := HgR.out; omega))
      clear hf2 hb2
      refine bodyPost_ret (v := .tuple #[.agg #[.int .u32 a, .int .u16 p, .int .u32 b, .int .u16 q], .bool false]) (by simp only [results, Tryd.results65]; go_simp) rfl ⟨rfl, HF.out.alloc _⟩

    · go_wp2_with fail
      obtain ⟨W, hW, hb2, hf2⟩ := set4 v3 gR 74 (.int .u32 0) (.int .u16 0) (.int .u32 0) (.int .u16 0) hbR3b (.int .u32 a) (.int .u16 p) (.int .u32 b) (.int .u16 q)
      rw [← hW]
      clear hW y0 zy0 y1 zy1 y2 zy2 y3 zy3 hbR3b f0 f1
      have y0 : W.cell? ⟨gR, 0, none⟩ = some (.int .u32 a) := by simp [World.cell?, hb2]
      have y1 : W.cell? ⟨gR, 1, none⟩ = some (.int .u16 p) := by simp [World.cell?, hb2]
      have y2 : W.cell? ⟨gR, 2, none⟩ = some (.int .u32 b) := by simp [World.cell?, hb2]
      have y3 : W.cell? ⟨gR, 3, none⟩ = some (.int .u16 q) := by simp [World.cell?, hb2]
      have lRW : gR < W.heap.size := cell_lt y0
      have HF := Lib.hid (M5.out.trans hf2 (fun i hi e => by have h1 : i = gR := e; have h2 := HgR.out; omega))
      clear hf2 hb2
      refine bodyPost_ret (v := .tuple #[.agg #[.int .u32 a, .int .u16 p, .int .u32 b, .int .u16 q], .bool false]) (by simp only [results, Tryd.results65]; go_simp) rfl ⟨rfl, HF.out.alloc _⟩

    · go_wp2_with fail
      obtain ⟨W, hW, hb2, hf2⟩ := set4 v3 gR 74 (.int .u32 0) (.int .u16 0) (.int .u32 0) (.int .u16 0) hbR3b (.int .u32 a) (.int .u16 p) (.int .u32 b) (.int .u16 q)
      rw [← hW]
      clear hW y0 zy0 y1 zy1 y2 zy2 y3 zy3 hbR3b f0 f1
      have y0 : W.cell? ⟨gR, 0, none⟩ = some (.int .u32 a) := by simp [World.cell?, hb2]
      have y1 : W.cell? ⟨gR, 1, none⟩ = some (.int .u16 p) := by simp [World.cell?, hb2]
      have y2 : W.cell? ⟨gR, 2, none⟩ = some (.int .u32 b) := by simp [World.cell?, hb2]
      have y3 : W.cell? ⟨gR, 3, none⟩ = some (.int .u16 q) := by simp [World.cell?, hb2]
      have lRW : gR < W.heap.size := cell_lt y0
      have HF := Lib.hid (M5.out.trans hf2 (fun i hi e => by have h1 : i = gR := e; have h2 := HgR.out; omega))
      clear hf2 hb2
      refine bodyPost_ret (v := .tuple #[.agg #[.int .u32 a, .int .u16 p, .int .u32 b, .int .u16 q], .bool false]) (by simp only [results, Tryd.results65]; go_simp) rfl ⟨rfl, HF.out.alloc _⟩

    · go_wp2_with fail
      obtain ⟨W, hW, hb2, hf2⟩ := set4 v3 gR 74 (.int .u32 0) (.int .u16 0) (.int .u32 0) (.int .u16 0) hbR3b (.int .u32 a) (.int .u16 p) (.int .u32 b) (.int .u16 q)
      rw [← hW]
      clear hW y0 zy0 y1 zy1 y2 zy2 y3 zy3 hbR3b f0 f1
      have y0 : W.cell? ⟨gR, 0, none⟩ = some (.int .u32 a) := by simp [World.cell?, hb2]
      have y1 : W.cell? ⟨gR, 1, none⟩ = some (.int .u16 p) := by simp [World.cell?, hb2]
      have y2 : W.cell? ⟨gR, 2, none⟩ = some (.int .u32 b) := by simp [World.cell?, hb2]
      have y3 : W.cell? ⟨gR, 3, none⟩ = some (.int .u16 q) := by simp [World.cell?, hb2]
      have lRW : gR < W.heap.size := cell_lt y0
      have HF := Lib.hid (M5.out.trans hf2 (fun i hi e => by have h1 : i = gR := e; have h2 := HgR.out; omega))
      clear hf2 hb2
      refine bodyPost_ret (v := .tuple #[.agg #[.int .u32 a, .int .u16 p, .int .u32 b, .int .u16 q], .bool false]) (by simp only [results, Tryd.results65]; go_simp) rfl ⟨rfl, HF.out.alloc _⟩

    · go_wp2_with fail
      obtain ⟨W, hW, hb2, hf2⟩ := set4 v3 gR 74 (.int .u32 0) (.int .u16 0) (.int .u32 0) (.int .u16 0) hbR3b (.int .u32 a) (.int .u16 p) (.int .u32 b) (.int .u16 q)
      rw [← hW]
      clear hW y0 zy0 y1 zy1 y2 zy2 y3 zy3 hbR3b f0 f1
      have y0 : W.cell? ⟨gR, 0, none⟩ = some (.int .u32 a) := by simp [World.cell?, hb2]
      have y1 : W.cell? ⟨gR, 1, none⟩ = some (.int .u16 p) := by simp [World.cell?, hb2]
      have y2 : W.cell? ⟨gR, 2, none⟩ = some (.int .u32 b) := by simp [World.cell?, hb2]
      have y3 : W.cell? ⟨gR, 3, none⟩ = some (.int .u16 q) := by simp [World.cell?, hb2]
      have lRW : gR < W.heap.size := cell_lt y0
      have HF := Lib.hid (M5.out.trans hf2 (fun i hi e => by have h1 : i = gR := e; have h2 := HgR.out; omega))
      clear hf2 hb2
      refine bodyPost_ret (v := .tuple #[.agg #[.int .u32 a, .int .u16 p, .int .u32 b, .int .u16 q], .bool false]) (by simp only [results, Tryd.results65]; go_simp) rfl ⟨rfl, HF.out.alloc _⟩

    · go_wp2_with fail
      obtain ⟨W, hW, hb2, hf2⟩ := set4 v3 gR 74 (.int .u32 0) (.int .u16 0) (.int .u32 0) (.int .u16 0) hbR3b (.int .u32 a) (.int .u16 p) (.int .u32 b) (.int .u16 q)
      rw [← hW]
      clear hW y0 zy0 y1 zy1 y2 zy2 y3 zy3 hbR3b f0 f1
      have y0 : W.cell? ⟨gR, 0, none⟩ = some (.int .u32 a) := by simp [World.cell?, hb2]
      have y1 : W.cell? ⟨gR, 1, none⟩ = some (.int .u16 p) := by simp [World.cell?, hb2]
      have y2 : W.cell? ⟨gR, 2, none⟩ = some (.int .u32 b) := by simp [World.cell?, hb2]
      have y3 : W.cell? ⟨gR, 3, none⟩ = some (.int .u16 q) := by simp [World.cell?, hb2]
      have lRW : gR < W.heap.size := cell_lt y0
      have HF := Lib.hid (M5.out.trans hf2 (fun i hi e => by have h1 : i = gR := e; have h2 := HgR.out; omega))
      clear hf2 hb2
      refine bodyPost_ret (v := .tuple #[.agg #[.int .u32 a, .int .u16 p, .int .u32 b, .int .u16 q], .bool false]) (by simp only [results, Tryd.results65]; go_simp) rfl ⟨rfl, HF.out.alloc _⟩

    · go_wp2_with fail
      obtain ⟨W, hW, hb2, hf2⟩ := set4 v3 gR 74 (.int .u32 0) (.int .u16 0) (.int .u32 0) (.int .u16 0) hbR3b (.int .u32 a) (.int .u16 p) (.int .u32 b) (.int .u16 q)
      rw [← hW]
      clear hW y0 zy0 y1 zy1 y2 zy2 y3 zy3 hbR3b f0 f1
      have y0 : W.cell? ⟨gR, 0, none⟩ = some (.int .u32 a) := by simp [World.cell?, hb2]
      have y1 : W.cell? ⟨gR, 1, none⟩ = some (.int .u16 p) := by simp [World.cell?, hb2]
      have y2 : W.cell? ⟨gR, 2, none⟩ = some (.int .u32 b) := by simp [World.cell?, hb2]
      have y3 : W.cell? ⟨gR, 3, none⟩ = some (.int .u16 q) := by simp [World.cell?, hb2]
      have lRW : gR < W.heap.size := cell_lt y0
      have HF := Lib.hid (M5.out.trans hf2 (fun i hi e => by have h1 : i = gR := e; have h2 := HgR.out; omega))
      clear hf2 hb2
      refine bodyPost_ret (v := .tuple #[.agg #[.int .u32 a, .int .u16 p, .int .u32 b, .int .u16 q], .bool true]) (by simp only [results, Tryd.results65]; go_simp) rfl ⟨rfl, HF.out.alloc _⟩


set_option maxHeartbeats 1000000 in
theorem text_bad (r a p b q r2 a2 p2 b2 q2 : Nat) (st dl : Int) (ad : Option Addr) (n c : Nat) (w : World)
    (k0 : ∀ W, NoW w W → Calls Tryd.prog 19 #[.agg #[.int .u8 r, .int .u32 a, .int .u16 p, .int .u32 b, .int .u16 q, .int .u8 r2, .int .u32 a2, .int .u16 p2, .int .u32 b2, .int .u16 q2, .int .i64 st, .int .i64 dl, .slice ad n c]] W (Ret1 (.int .i64 2) W)) :
    Calls Tryd.prog 37 #[.agg #[.int .u8 r, .int .u32 a, .int .u16 p, .int .u32 b, .int .u16 q, .int .u8 r2, .int .u32 a2, .int .u16 p2, .int .u32 b2, .int .u16 q2, .int .i64 st, .int .i64 dl, .slice ad n c]] w (Ret1 (str []) w) := by
  have K0 := Lib.hid k0
  clear k0
  go_enter Tryd.func37, Tryd.ntmps37
  go_wp2_with fail
  have hw0 : NoW w (w.alloc (.cells #[.int .u8 r, .int .u32 a, .int .u16 p, .int .u32 b, .int .u16 q, .int .u8 r2, .int .u32 a2, .int .u16 p2, .int .u32 b2, .int .u16 q2, .int .i64 st, .int .i64 dl, .slice ad n c] 31)) := (Fp.refl _ _).alloc _
  refine (K0.out _ hw0).mono ?_
  rintro e v0 ⟨rfl, hp⟩
  have Hn := Lib.hid (hw0.trans hp (fun _ _ h => h))
  clear hp hw0
  go_wp2_with fail
  go_ret
  exact ⟨rfl, Hn.out⟩
end Go.Proofs.YtdmbjndhdldggaaDoor

namespace Go.Proofs.YtdmbjndhdldggaaDoor
set_option linter.unusedVariables false
set_option linter.unusedSimpArgs false
open Go.RowKit Go.Lib Go.Sort

theorem atoi_dec (n : Nat) (hn : n < 9223372036854775808) : Lib.atoiAll (decDigits n) = .ok (n : Int) := by
  have hd := dec_digits n
  have hv : (decDigits n).foldl (fun a c => a * 10 + (c.toNat - 48)) 0 = n := val_of_dec n
  have hp := parse_val 18446744073709551615 (by omega) (decDigits n) 0 hd (by rw [hv]; omega)
  rw [hv, parseUintM_64] at hp
  rcases hl : decDigits n with _ | ⟨c, r⟩
  · exact absurd hl (dec_ne n)
  · rw [hl] at hp hd
    have hc := hd c (by simp)
    rw [Lib.atoiAll_plain c r (by omega) (by omega)]
    unfold Lib.parseMag
    rw [if_neg (by simp), hp]
    simp only [Lib.signless]
    rw [if_neg (by omega)]

theorem atoi_any (l : List UInt8) (hl : l.length ≤ 281474976710656) : ∃ (v : Int) (z : Bool), (z = true → Lib.atoiAll l = .ok v) ∧ (z = false → ∀ u, Lib.atoiAll l ≠ .ok u) ∧
    ∀ w : World, TbP w → Calls Tryd.prog 64 #[str l] w fun e w' => NoW w w' ∧ ((z = true ∧ e = .returned (.tuple #[.int .i64 v, .nilIface])) ∨ (z = false ∧ ∃ N : Nat, e = .returned (.tuple #[.int .i64 v, .iface 146 (.pointer (some ⟨N, 0, none⟩))]))) := by
  have hsz : (⟨l.toArray⟩ : ByteArray).size ≤ 281474976710656 := by simpa [ByteArray.size] using hl
  rcases hp : Lib.atoiAll l with v | _ | _
  · refine ⟨v, true, fun _ => rfl, fun h => (by cases h), fun w ht => (Tryd.strconv_Atoi_ok ⟨l.toArray⟩ (by omega) v hp w).mono ?_⟩
    rintro e w' ⟨rfl, hw⟩
    refine ⟨?_, .inl ⟨rfl, rfl⟩⟩
    rcases hw with rfl | ⟨t, rfl⟩
    · exact Fp.refl _ _
    · exact noW_bytes _ _ _
  · refine ⟨0, false, fun h => (by cases h), fun _ u h => (by cases h), fun w ht => ?_⟩
    obtain ⟨ev, h1, h2⟩ := ht.es
    refine (Tryd.strconv_Atoi_syntax ⟨l.toArray⟩ hsz hp ev w h1 h2).mono ?_
    rintro e w' ⟨N, rfl, _, _, hb⟩
    exact ⟨Fp.of_below hb, .inr ⟨rfl, N, rfl⟩⟩
  · refine ⟨Lib.atoiSat l, false, fun h => (by cases h), fun _ u h => (by cases h), fun w ht => ?_⟩
    obtain ⟨ev, h1, h2⟩ := ht.er
    refine (Tryd.strconv_Atoi_range ⟨l.toArray⟩ hsz hp ev w h1 h2).mono ?_
    rintro e w' ⟨N, rfl, _, _, hb⟩
    exact ⟨Fp.of_below hb, .inr ⟨rfl, N, rfl⟩⟩

theorem join_at (g o n c : Nat) (ps : List (List UInt8)) (w : World) (hc : ∀ j x, ps[j]? = some x → w.cell? ⟨g, o + j, none⟩ = some (str x)) (hg : g < w.heap.size) (hn : ps.length = n) (hnc : n ≤ c) (hs : (joinB ps).length ≤ 140737488355327) :
    Calls Tryd.prog 61 #[.slice (some ⟨g, o, none⟩) n c, .string ⟨#[32]⟩] w (Ret1 (str (joinB ps)) w) := by
  subst hn
  have e : Lib.join ((ps.map fun p => (⟨p.toArray⟩ : ByteArray)).map (·.data.toList)) (⟨#[32]⟩ : ByteArray).data.toList = joinB ps := by
    have : ((ps.map fun p => (⟨p.toArray⟩ : ByteArray)).map (·.data.toList)) = ps := by simp [Function.comp_def]
    rw [this]; rfl
  have hj := Tryd.strings_Join g o c (ps.map fun p => (⟨p.toArray⟩ : ByteArray)) ⟨#[32]⟩ w (fun j x hx => by
    rw [List.getElem?_map] at hx
    rcases hp : ps[j]? with _ | p
    · simp [hp] at hx
    · simp only [hp, Option.map_some, Option.some.injEq] at hx
      rw [← hx]
      exact hc j p hp) hg (by simp; have := join_lenB ps; omega) (by simpa using hnc) (by rw [e]; omega)
  rw [e] at hj
  simp only [List.length_map] at hj
  refine (show Calls _ _ _ _ _ from hj).mono ?_
  rintro e w2 ⟨rfl, hb2⟩
  exact ⟨rfl, Fp.of_below hb2⟩

/-- A text that is the text of that entry, which may be. -/
structure Parsed (l : List UInt8) (r a p b q r2 a2 p2 b2 q2 st dl n : Nat) (oa op ia ip : Nat → Nat) : Prop where
  text : l = entT r a p b q r2 a2 p2 b2 q2 st dl oa op ia ip n
  chk : chkB r p q r2 p2 q2 (decide (r = r2 ∧ a = a2 ∧ p = p2 ∧ b = b2 ∧ q = q2)) (st : Int) (dl : Int) n = true
  o : a < 4294967296 ∧ p ≤ 65535 ∧ b < 4294967296 ∧ q ≤ 65535
  y : a2 < 4294967296 ∧ p2 ≤ 65535 ∧ b2 < 4294967296 ∧ q2 ≤ 65535
  h : ∀ i, i < n → oa i < 4294967296 ∧ op i ≤ 65535 ∧ ia i < 4294967296 ∧ ip i ≤ 65535
theorem chkB_parts {r p q r2 p2 q2 : Nat} {same : Bool} {st dl : Int} {n : Nat} (h : chkB r p q r2 p2 q2 same st dl n = true) :
    tupB r p q = true ∧ tupB r2 p2 q2 = true ∧ same = false ∧ r = r2 ∧ 0 < toN (flowN r) st ∧ (0 ≤ dl ∧ dl ≤ 1099511635216) ∧ (1 ≤ n ∧ n ≤ 2) := by
  unfold chkB at h
  simp only [Bool.and_eq_true, decide_eq_true_eq, Bool.not_eq_true'] at h
  obtain ⟨⟨⟨⟨⟨⟨h1, h2⟩, h3⟩, h4⟩, h5⟩, h6⟩, h7⟩ := h
  exact ⟨h1, h2, h3, h4, h5, h6, h7⟩
section
variable {l : List UInt8} {r a p b q r2 a2 p2 b2 q2 st dl n : Nat} {oa op ia ip : Nat → Nat}
theorem Parsed.pcs (h : Parsed l r a p b q r2 a2 p2 b2 q2 st dl n oa op ia ip) : pieces 32 l = [wordOf r, withT 58 a p, withT 58 b q, [124], wordOf r2, withT 58 a2 p2, withT 58 b2 q2, decDigits st, decDigits dl] ++ (List.range n).map (holdT oa op ia ip) := by
  rw [h.text]; exact entT_pieces _ _ _ _ _ _ _ _ _ _ _ _ _ _ _ _ _
theorem Parsed.len (h : Parsed l r a p b q r2 a2 p2 b2 q2 st dl n oa op ia ip) : (pieces 32 l).length = 9 + n ∧ 1 ≤ n ∧ n ≤ 2 := by
  rw [h.pcs]
  exact ⟨by simp; omega, (chkB_parts h.chk).2.2.2.2.2.2⟩
theorem Parsed.small (h : Parsed l r a p b q r2 a2 p2 b2 q2 st dl n oa op ia ip) : st < 9223372036854775808 ∧ dl < 9223372036854775808 := by
  have h5 := (chkB_parts h.chk).2.2.2.2.1
  have h6 := (chkB_parts h.chk).2.2.2.2.2.1
  have : (st : Int) ≤ 7 := by
    unfold toN at h5
    split at h5
    · rename_i hh; exact hh.2
    · omega
  omega
theorem Parsed.hold (h : Parsed l r a p b q r2 a2 p2 b2 q2 st dl n oa op ia ip) {i : Nat} (hi : i < n) : holdOf (holdT oa op ia ip i) = some (oa i, op i, ia i, ip i) :=
  holdOf_some.2 ⟨rfl, h.h i hi⟩
theorem Parsed.tup1 (h : Parsed l r a p b q r2 a2 p2 b2 q2 st dl n oa op ia ip) : tupOf (joinB [wordOf r, withT 58 a p, withT 58 b q]) = some (r, a, p, b, q) :=
  tupOf_some.2 ⟨rfl, (chkB_parts h.chk).1, h.o⟩
theorem Parsed.tup2 (h : Parsed l r a p b q r2 a2 p2 b2 q2 st dl n oa op ia ip) : tupOf (joinB [wordOf r2, withT 58 a2 p2, withT 58 b2 q2]) = some (r2, a2, p2, b2, q2) :=
  tupOf_some.2 ⟨rfl, (chkB_parts h.chk).2.1, h.y⟩
end
end Go.Proofs.YtdmbjndhdldggaaDoor

namespace Go.Proofs.YtdmbjndhdldggaaDoor
set_option linter.unusedVariables false
set_option linter.unusedSimpArgs false
open Go.RowKit Go.Lib Go.Sort

/-- May a flow make room? -/
def earlyB (f : Nat) (s : Int) : Bool := decide (0 < toN f s) && (if f = 3 then decide (s ≠ 3) else decide (s = 1))
set_option maxHeartbeats 1000000 in
theorem early_ok (f : Nat) (hf : f < 4) (s : Int) (w : World) (ht : Tb w) : Calls Tryd.prog 15 #[.int .i64 f, .int .i64 s] w fun e w' => e = .returned (.bool (earlyB f s)) ∧ w' = w := by
  have k := fun W hW => tmay_ok f hf s W hW
  have Ht := Lib.hid ht
  clear ht
  unfold earlyB
  rcases hm : decide (0 < toN f s) with _ | _
  · rw [hm] at k
    have K := Lib.hid k
    clear k hm
    rw [Bool.false_and]
    go_enter Tryd.func15, Tryd.ntmps15
    go_wp2_with fail
    refine (K.out _ Ht.out).mono ?_
    rintro e w' ⟨rfl, rfl⟩
    go_wp2_with fail
    go_ret
    exact ⟨rfl, rfl⟩
  · rw [hm] at k
    have K := Lib.hid k
    clear k hm
    rw [Bool.true_and]
    by_cases h3 : f = 3
    · rw [if_pos h3]
      have e3 : ((f : Int) == 3) = true := by rw [h3]; rfl
      have hs : (s != 3) = decide (s ≠ 3) := by by_cases h : s = 3 <;> simp [h]
      clear h3
      go_enter Tryd.func15, Tryd.ntmps15
      go_wp2_with fail
      refine (K.out _ Ht.out).mono ?_
      rintro e w' ⟨rfl, rfl⟩
      go_wp2_with fail
      go_ret
      exact ⟨by first | rfl | (simp [hs]), rfl⟩
    · rw [if_neg h3]
      have e3 : ((f : Int) == 3) = false := beq_eq_false_iff_ne.2 (by omega)
      have hs : (s == 1) = decide (s = 1) := by by_cases h : s = 1 <;> simp [h]
      clear h3
      go_enter Tryd.func15, Tryd.ntmps15
      go_wp2_with fail
      refine (K.out _ Ht.out).mono ?_
      rintro e w' ⟨rfl, rfl⟩
      go_wp2_with fail
      go_ret
      exact ⟨by first | rfl | (simp [hs]), rfl⟩

/-- A tuple as a number, by which tuples are in order. -/
def tkey (k a p b q : Nat) : Nat := (((k * 4294967296 + a) * 65536 + p) * 4294967296 + b) * 65536 + q
theorem tkey_lt {k a p b q k2 a2 p2 b2 q2 : Nat} (ha : a < 4294967296) (hp : p < 65536) (hb : b < 4294967296) (hq : q < 65536) (ha2 : a2 < 4294967296) (hp2 : p2 < 65536) (hb2 : b2 < 4294967296) (hq2 : q2 < 65536) :
    tkey k a p b q < tkey k2 a2 p2 b2 q2 ↔ (k < k2 ∨ k = k2 ∧ (if a = a2 ∧ p = p2 then b < b2 ∨ b = b2 ∧ q < q2 else a < a2 ∨ a = a2 ∧ p < p2)) := by
  unfold tkey
  split <;> omega
set_option maxHeartbeats 2000000 in
theorem tless_ok (r a p b q r2 a2 p2 b2 q2 : Nat) (ha : a < 4294967296) (hp : p < 65536) (hb : b < 4294967296) (hq : q < 65536) (ha2 : a2 < 4294967296) (hp2 : p2 < 65536) (hb2 : b2 < 4294967296) (hq2 : q2 < 65536) (w : World) :
    Calls Tryd.prog 42 #[.agg #[.int .u8 r, .int .u32 a, .int .u16 p, .int .u32 b, .int .u16 q], .agg #[.int .u8 r2, .int .u32 a2, .int .u16 p2, .int .u32 b2, .int .u16 q2]] w (Ret1 (.bool (decide (tkey r a p b q < tkey r2 a2 p2 b2 q2))) w) := by
  have hk := tkey_lt (k := r) (k2 := r2) ha hp hb hq ha2 hp2 hb2 hq2
  have e : decide (tkey r a p b q < tkey r2 a2 p2 b2 q2) = decide (r < r2 ∨ r = r2 ∧ (if a = a2 ∧ p = p2 then b < b2 ∨ b = b2 ∧ q < q2 else a < a2 ∨ a = a2 ∧ p < p2)) := by rw [decide_eq_decide]; exact hk
  rw [e]
  clear e hk ha hp hb hq ha2 hp2 hb2 hq2
  by_cases hr : r = r2
  · subst hr
    by_cases h1 : a = a2 ∧ p = p2
    · obtain ⟨rfl, rfl⟩ := h1
      have e : decide (r < r ∨ r = r ∧ (if a = a ∧ p = p then b < b2 ∨ b = b2 ∧ q < q2 else a < a ∨ a = a ∧ p < p)) = decide (b < b2 ∨ b = b2 ∧ q < q2) := by simp
      rw [e]
      clear e
      have k := fun W => less_ok b q b2 q2 W
      generalize decide (b < b2 ∨ b = b2 ∧ q < q2) = z at k ⊢
      have K := Lib.hid k
      clear k
      go_enter Tryd.func42, Tryd.ntmps42
      go_wp2_with fail
      refine (K.out _).mono ?_
      rintro e v ⟨rfl, hp⟩
      have Hn := Lib.hid (show NoW w v from (((Fp.refl _ _).alloc _).alloc _).trans hp (fun _ _ h => h))
      clear hp
      go_wp2_with fail
      go_ret
      exact ⟨rfl, Hn.out⟩
    · have e : decide (r < r ∨ r = r ∧ (if a = a2 ∧ p = p2 then b < b2 ∨ b = b2 ∧ q < q2 else a < a2 ∨ a = a2 ∧ p < p2)) = decide (a < a2 ∨ a = a2 ∧ p < p2) := by simp [h1]
      rw [e]
      clear e
      have k := fun W => less_ok a p a2 p2 W
      generalize decide (a < a2 ∨ a = a2 ∧ p < p2) = z at k ⊢
      have K := Lib.hid k
      clear k
      have e1 : ∀ W, (binOp .neq 26 (.agg #[.int .u32 a, .int .u16 p]) (.agg #[.int .u32 a2, .int .u16 p2])).run Tryd.prog W = .ok (.bool true) W := fun W => by
        by_cases h2 : a = a2
        · subst h2
          have h3 : ((p : Int) == (p2 : Int)) = false := beq_eq_false_iff_ne.2 (fun e => h1 ⟨rfl, by omega⟩)
          go_simp
        · have h3 : ((a : Int) == (a2 : Int)) = false := beq_eq_false_iff_ne.2 (fun e => h2 (by omega))
          go_simp
      clear h1
      go_enter Tryd.func42, Tryd.ntmps42
      go_wp2_with fail
      refine (K.out _).mono ?_
      rintro e v ⟨rfl, hp⟩
      have Hn := Lib.hid (show NoW w v from (((Fp.refl _ _).alloc _).alloc _).trans hp (fun _ _ h => h))
      clear hp
      go_wp2_with fail
      go_ret
      exact ⟨rfl, Hn.out⟩
  · have e : decide (r < r2 ∨ r = r2 ∧ (if a = a2 ∧ p = p2 then b < b2 ∨ b = b2 ∧ q < q2 else a < a2 ∨ a = a2 ∧ p < p2)) = decide (r < r2) := by simp [hr]
    rw [e]
    have e2 : ((r : Int) != (r2 : Int)) = true := by simp; omega
    have e3 : decide ((r : Int) < (r2 : Int)) = decide (r < r2) := by rw [decide_eq_decide]; omega
    clear e hr
    go_enter Tryd.func42, Tryd.ntmps42
    go_wp2_with fail
    go_ret
    exact ⟨by first | rfl | (simp), (((Fp.refl _ _).alloc _).alloc _)⟩

/-- Of two entries: which makes room first? -/
def elB (dl : Int) (k : Nat) (dl2 : Int) (k2 : Nat) : Bool := decide (dl < dl2 ∨ dl = dl2 ∧ k < k2)

set_option maxHeartbeats 2000000 in
theorem eless_ok (r a p b q r2 a2 p2 b2 q2 : Nat) (r' a' p' b' q' r2' a2' p2' b2' q2' st st2 dl dl2 : Int) (h h2 : Value) (ha : a < 4294967296) (hp : p < 65536) (hb : b < 4294967296) (hq : q < 65536) (ha2 : a2 < 4294967296) (hp2 : p2 < 65536) (hb2 : b2 < 4294967296) (hq2 : q2 < 65536) (w : World) :
    Calls Tryd.prog 17 #[.agg #[.int .u8 r, .int .u32 a, .int .u16 p, .int .u32 b, .int .u16 q, .int .u8 r', .int .u32 a', .int .u16 p', .int .u32 b', .int .u16 q', .int .i64 st, .int .i64 dl, h], .agg #[.int .u8 r2, .int .u32 a2, .int .u16 p2, .int .u32 b2, .int .u16 q2, .int .u8 r2', .int .u32 a2', .int .u16 p2', .int .u32 b2', .int .u16 q2', .int .i64 st2, .int .i64 dl2, h2]] w (Ret1 (.bool (elB dl (tkey r a p b q) dl2 (tkey r2 a2 p2 b2 q2))) w) := by
  by_cases hd : dl = dl2
  · subst hd
    have k := fun W => tless_ok r a p b q r2 a2 p2 b2 q2 ha hp hb hq ha2 hp2 hb2 hq2 W
    have e : elB dl (tkey r a p b q) dl (tkey r2 a2 p2 b2 q2) = decide (tkey r a p b q < tkey r2 a2 p2 b2 q2) := by simp [elB]
    rw [e]
    generalize decide (tkey r a p b q < tkey r2 a2 p2 b2 q2) = z at k ⊢
    clear e ha hp hb hq ha2 hp2 hb2 hq2
    have K := Lib.hid k
    clear k
    go_enter Tryd.func17, Tryd.ntmps17
    go_wp2_with fail
    refine (K.out _).mono ?_
    rintro e v ⟨rfl, hp⟩
    have Hn := Lib.hid (show NoW w v from (((Fp.refl _ _).alloc _).alloc _).trans hp (fun _ _ h => h))
    clear hp
    go_wp2_with fail
    go_ret
    exact ⟨rfl, Hn.out⟩
  · have e : elB dl (tkey r a p b q) dl2 (tkey r2 a2 p2 b2 q2) = decide (dl < dl2) := by simp [elB, hd]
    rw [e]
    have e2 : (dl != dl2) = true := by simpa using hd
    clear e hd ha hp hb hq ha2 hp2 hb2 hq2
    go_enter Tryd.func17, Tryd.ntmps17
    go_wp2_with fail
    go_ret
    exact ⟨rfl, (((Fp.refl _ _).alloc _).alloc _)⟩
end Go.Proofs.YtdmbjndhdldggaaDoor

namespace Go.Proofs.YtdmbjndhdldggaaDoor
set_option linter.unusedVariables false
set_option linter.unusedSimpArgs false
open Go.RowKit Go.Lib Go.Sort

set_option maxHeartbeats 2000000 in
theorem rtimeout_ok (f : Nat) (hf : f < 4) (s : Int) (w : World) : Calls Tryd.prog 49 #[.int .i64 f, .int .i64 s] w fun e w' => e = .returned (.int .i64 (toN f s)) ∧ w' = w := by
  have hf' : f = 0 ∨ f = 1 ∨ f = 2 ∨ f = 3 := by omega
  by_cases hs : 1 ≤ s ∧ s ≤ 7
  · have hs' : s = 1 ∨ s = 2 ∨ s = 3 ∨ s = 4 ∨ s = 5 ∨ s = 6 ∨ s = 7 := by omega
    rcases hf' with rfl | rfl | rfl | rfl <;> rcases hs' with rfl | rfl | rfl | rfl | rfl | rfl | rfl
    · rw [show toN 0 1 = 0 by decide +kernel]
      go_enter Tryd.func49, Tryd.ntmps49
      go_wp2_with fail
      go_ret
      exact ⟨rfl, rfl⟩
    · rw [show toN 0 2 = 0 by decide +kernel]
      go_enter Tryd.func49, Tryd.ntmps49
      go_wp2_with fail
      go_ret
      exact ⟨rfl, rfl⟩
    · rw [show toN 0 3 = 0 by decide +kernel]
      go_enter Tryd.func49, Tryd.ntmps49
      go_wp2_with fail
      go_ret
      exact ⟨rfl, rfl⟩
    · rw [show toN 0 4 = 0 by decide +kernel]
      go_enter Tryd.func49, Tryd.ntmps49
      go_wp2_with fail
      go_ret
      exact ⟨rfl, rfl⟩
    · rw [show toN 0 5 = 0 by decide +kernel]
      go_enter Tryd.func49, Tryd.ntmps49
      go_wp2_with fail
      go_ret
      exact ⟨rfl, rfl⟩
    · rw [show toN 0 6 = 0 by decide +kernel]
      go_enter Tryd.func49, Tryd.ntmps49
      go_wp2_with fail
      go_ret
      exact ⟨rfl, rfl⟩
    · rw [show toN 0 7 = 0 by decide +kernel]
      go_enter Tryd.func49, Tryd.ntmps49
      go_wp2_with fail
      go_ret
      exact ⟨rfl, rfl⟩
    · rw [show toN 1 1 = 120 by decide +kernel]
      go_enter Tryd.func49, Tryd.ntmps49
      go_wp2_with fail
      go_ret
      exact ⟨rfl, rfl⟩
    · rw [show toN 1 2 = 300 by decide +kernel]
      go_enter Tryd.func49, Tryd.ntmps49
      go_wp2_with fail
      go_ret
      exact ⟨rfl, rfl⟩
    · rw [show toN 1 3 = 0 by decide +kernel]
      go_enter Tryd.func49, Tryd.ntmps49
      go_wp2_with fail
      go_ret
      exact ⟨rfl, rfl⟩
    · rw [show toN 1 4 = 0 by decide +kernel]
      go_enter Tryd.func49, Tryd.ntmps49
      go_wp2_with fail
      go_ret
      exact ⟨rfl, rfl⟩
    · rw [show toN 1 5 = 0 by decide +kernel]
      go_enter Tryd.func49, Tryd.ntmps49
      go_wp2_with fail
      go_ret
      exact ⟨rfl, rfl⟩
    · rw [show toN 1 6 = 0 by decide +kernel]
      go_enter Tryd.func49, Tryd.ntmps49
      go_wp2_with fail
      go_ret
      exact ⟨rfl, rfl⟩
    · rw [show toN 1 7 = 0 by decide +kernel]
      go_enter Tryd.func49, Tryd.ntmps49
      go_wp2_with fail
      go_ret
      exact ⟨rfl, rfl⟩
    · rw [show toN 2 1 = 60 by decide +kernel]
      go_enter Tryd.func49, Tryd.ntmps49
      go_wp2_with fail
      go_ret
      exact ⟨rfl, rfl⟩
    · rw [show toN 2 2 = 60 by decide +kernel]
      go_enter Tryd.func49, Tryd.ntmps49
      go_wp2_with fail
      go_ret
      exact ⟨rfl, rfl⟩
    · rw [show toN 2 3 = 0 by decide +kernel]
      go_enter Tryd.func49, Tryd.ntmps49
      go_wp2_with fail
      go_ret
      exact ⟨rfl, rfl⟩
    · rw [show toN 2 4 = 0 by decide +kernel]
      go_enter Tryd.func49, Tryd.ntmps49
      go_wp2_with fail
      go_ret
      exact ⟨rfl, rfl⟩
    · rw [show toN 2 5 = 0 by decide +kernel]
      go_enter Tryd.func49, Tryd.ntmps49
      go_wp2_with fail
      go_ret
      exact ⟨rfl, rfl⟩
    · rw [show toN 2 6 = 0 by decide +kernel]
      go_enter Tryd.func49, Tryd.ntmps49
      go_wp2_with fail
      go_ret
      exact ⟨rfl, rfl⟩
    · rw [show toN 2 7 = 0 by decide +kernel]
      go_enter Tryd.func49, Tryd.ntmps49
      go_wp2_with fail
      go_ret
      exact ⟨rfl, rfl⟩
    · rw [show toN 3 1 = 240 by decide +kernel]
      go_enter Tryd.func49, Tryd.ntmps49
      go_wp2_with fail
      go_ret
      exact ⟨rfl, rfl⟩
    · rw [show toN 3 2 = 240 by decide +kernel]
      go_enter Tryd.func49, Tryd.ntmps49
      go_wp2_with fail
      go_ret
      exact ⟨rfl, rfl⟩
    · rw [show toN 3 3 = 7440 by decide +kernel]
      go_enter Tryd.func49, Tryd.ntmps49
      go_wp2_with fail
      go_ret
      exact ⟨rfl, rfl⟩
    · rw [show toN 3 4 = 240 by decide +kernel]
      go_enter Tryd.func49, Tryd.ntmps49
      go_wp2_with fail
      go_ret
      exact ⟨rfl, rfl⟩
    · rw [show toN 3 5 = 240 by decide +kernel]
      go_enter Tryd.func49, Tryd.ntmps49
      go_wp2_with fail
      go_ret
      exact ⟨rfl, rfl⟩
    · rw [show toN 3 6 = 240 by decide +kernel]
      go_enter Tryd.func49, Tryd.ntmps49
      go_wp2_with fail
      go_ret
      exact ⟨rfl, rfl⟩
    · rw [show toN 3 7 = 240 by decide +kernel]
      go_enter Tryd.func49, Tryd.ntmps49
      go_wp2_with fail
      go_ret
      exact ⟨rfl, rfl⟩
  · have h0 : toN f s = 0 := by
      unfold toN
      split
      · obtain rfl : s = 0 := by omega
        rcases hf' with rfl | rfl | rfl | rfl <;> rfl
      · rfl
    rw [h0]
    have e1 : (s == 1) = false := beq_eq_false_iff_ne.2 (by omega)
    have e2 : (s == 2) = false := beq_eq_false_iff_ne.2 (by omega)
    by_cases h1 : s < 1
    · have d1 : decide (s < 1) = true := decide_eq_true h1
      clear hs h0
      rcases hf' with rfl | rfl | rfl | rfl
      · go_enter Tryd.func49, Tryd.ntmps49
        go_wp2_with fail
        go_ret
        exact ⟨rfl, rfl⟩
      · go_enter Tryd.func49, Tryd.ntmps49
        go_wp2_with fail
        go_ret
        exact ⟨rfl, rfl⟩
      · go_enter Tryd.func49, Tryd.ntmps49
        go_wp2_with fail
        go_ret
        exact ⟨rfl, rfl⟩
      · go_enter Tryd.func49, Tryd.ntmps49
        go_wp2_with fail
        go_ret
        exact ⟨rfl, rfl⟩
    · have d1 : decide (s < 1) = false := decide_eq_false h1
      have d2 : decide (7 < s) = true := decide_eq_true (by omega)
      clear hs h0
      rcases hf' with rfl | rfl | rfl | rfl
      · go_enter Tryd.func49, Tryd.ntmps49
        go_wp2_with fail
        go_ret
        exact ⟨rfl, rfl⟩
      · go_enter Tryd.func49, Tryd.ntmps49
        go_wp2_with fail
        go_ret
        exact ⟨rfl, rfl⟩
      · go_enter Tryd.func49, Tryd.ntmps49
        go_wp2_with fail
        go_ret
        exact ⟨rfl, rfl⟩
      · go_enter Tryd.func49, Tryd.ntmps49
        go_wp2_with fail
        go_ret
        exact ⟨rfl, rfl⟩

theorem rflow_ok (k : Nat) (w : World) : Calls Tryd.prog 47 #[.int .u8 k] w fun e w' => e = .returned (.int .i64 (flowN k : Nat)) ∧ w' = w := by
  by_cases h1 : k = 1
  · subst h1
    go_enter Tryd.func47, Tryd.ntmps47
    go_wp2_with fail
    go_ret
    exact ⟨rfl, rfl⟩
  · have e1 : ((k : Int) == 1) = false := beq_eq_false_iff_ne.2 (by omega)
    by_cases h6 : k = 6
    · subst h6
      go_enter Tryd.func47, Tryd.ntmps47
      go_wp2_with fail
      go_ret
      exact ⟨rfl, rfl⟩
    · have e6 : ((k : Int) == 6) = false := beq_eq_false_iff_ne.2 (by omega)
      by_cases h17 : k = 17
      · subst h17
        go_enter Tryd.func47, Tryd.ntmps47
        go_wp2_with fail
        go_ret
        exact ⟨rfl, rfl⟩
      · have e17 : ((k : Int) == 17) = false := beq_eq_false_iff_ne.2 (by omega)
        rw [show flowN k = 0 by simp [flowN, wordOf, h1, h6, h17]]
        go_enter Tryd.func47, Tryd.ntmps47
        go_wp2_with fail
        go_ret
        exact ⟨rfl, rfl⟩

theorem word_ok (k : Nat) (w : World) : Calls Tryd.prog 70 #[.int .u8 k] w fun e w' => e = .returned (str (wordOf k)) ∧ w' = w := by
  by_cases h1 : k = 1
  · subst h1
    go_enter Tryd.func70, Tryd.ntmps70
    go_wp2_with fail
    go_ret
    exact ⟨rfl, rfl⟩
  · have e1 : ((k : Int) == 1) = false := beq_eq_false_iff_ne.2 (by omega)
    by_cases h6 : k = 6
    · subst h6
      go_enter Tryd.func70, Tryd.ntmps70
      go_wp2_with fail
      go_ret
      exact ⟨rfl, rfl⟩
    · have e6 : ((k : Int) == 6) = false := beq_eq_false_iff_ne.2 (by omega)
      by_cases h17 : k = 17
      · subst h17
        go_enter Tryd.func70, Tryd.ntmps70
        go_wp2_with fail
        go_ret
        exact ⟨rfl, rfl⟩
      · have e17 : ((k : Int) == 17) = false := beq_eq_false_iff_ne.2 (by omega)
        rw [show wordOf k = [] by simp [flowN, wordOf, h1, h6, h17]]
        go_enter Tryd.func70, Tryd.ntmps70
        go_wp2_with fail
        go_ret
        exact ⟨rfl, rfl⟩

theorem word_pos (k : Nat) (h : isWord k = true) : ∃ x l, wordOf k = x :: l := by
  simp only [isWord, decide_eq_true_eq] at h
  rcases h with rfl | rfl | rfl
  · exact ⟨_, _, rfl⟩
  · exact ⟨_, _, rfl⟩
  · exact ⟨_, _, rfl⟩
theorem word_nil (k : Nat) (h : isWord k = false) : wordOf k = [] := by
  simp only [isWord, decide_eq_false_iff_not, not_or] at h
  simp [wordOf, h.1, h.2.1, h.2.2]
set_option maxHeartbeats 2000000 in
theorem rmay8_ok (k a p b q : Nat) (w : World) : Calls Tryd.prog 50 #[.agg #[.int .u8 k, .int .u32 a, .int .u16 p, .int .u32 b, .int .u16 q]] w (Ret1 (.bool (tupB k p q)) w) := by
  have kk := fun W => word_ok k W
  rcases hb : isWord k with _ | _
  · have e : tupB k p q = false := by simp [tupB, hb]
    rw [e]
    rw [word_nil k hb] at kk
    have K := Lib.hid kk
    clear kk e hb
    go_enter Tryd.func50, Tryd.ntmps50
    go_wp2_with fail
    have hn : NoW w (w.alloc (.cells #[.int .u8 k, .int .u32 a, .int .u16 p, .int .u32 b, .int .u16 q] 28)) := (Fp.refl _ _).alloc _
    refine (K.out _).mono ?_
    rintro e v ⟨rfl, rfl⟩
    go_wp2_with fail
    go_ret
    exact ⟨rfl, hn⟩
  · obtain ⟨x, wl, hwd⟩ := word_pos k hb
    rw [hwd] at kk
    by_cases k1 : k = 1
    · have ek2 : ((k : Int) != 1) = false := by rw [k1]; rfl
      by_cases p0 : p = 0
      · have ep : ((p : Int) == 0) = true := by rw [p0]; rfl
        rw [show tupB k p q = true by simp [tupB, hb, p0]]
        have K := Lib.hid kk
        clear kk k1 p0 hb hwd
        go_enter Tryd.func50, Tryd.ntmps50
        go_wp2_with fail
        have hn : NoW w (w.alloc (.cells #[.int .u8 k, .int .u32 a, .int .u16 p, .int .u32 b, .int .u16 q] 28)) := (Fp.refl _ _).alloc _
        refine (K.out _).mono ?_
        rintro e v ⟨rfl, rfl⟩
        go_wp2_with fail
        go_ret
        exact ⟨rfl, hn⟩
      · have ep : ((p : Int) == 0) = false := beq_eq_false_iff_ne.2 (by omega)
        rw [show tupB k p q = decide (q = 0) by have := hb; rw [k1] at this; simp [tupB, this, p0, k1]]
        have K := Lib.hid kk
        clear kk k1 p0 hb hwd
        by_cases q0 : q = 0
        · have eq : ((q : Int) == 0) = true := by rw [q0]; rfl
          rw [decide_eq_true q0]
          clear q0
          go_enter Tryd.func50, Tryd.ntmps50
          go_wp2_with fail
          have hn : NoW w (w.alloc (.cells #[.int .u8 k, .int .u32 a, .int .u16 p, .int .u32 b, .int .u16 q] 28)) := (Fp.refl _ _).alloc _
          refine (K.out _).mono ?_
          rintro e v ⟨rfl, rfl⟩
          go_wp2_with fail
          go_ret
          exact ⟨rfl, hn⟩
        · have eq : ((q : Int) == 0) = false := beq_eq_false_iff_ne.2 (by omega)
          rw [decide_eq_false q0]
          clear q0
          go_enter Tryd.func50, Tryd.ntmps50
          go_wp2_with fail
          have hn : NoW w (w.alloc (.cells #[.int .u8 k, .int .u32 a, .int .u16 p, .int .u32 b, .int .u16 q] 28)) := (Fp.refl _ _).alloc _
          refine (K.out _).mono ?_
          rintro e v ⟨rfl, rfl⟩
          go_wp2_with fail
          go_ret
          exact ⟨rfl, hn⟩
    · have ek2 : ((k : Int) != 1) = true := by simp; omega
      rw [show tupB k p q = true by simp [tupB, hb, k1]]
      have K := Lib.hid kk
      clear kk k1 hb hwd
      go_enter Tryd.func50, Tryd.ntmps50
      go_wp2_with fail
      have hn : NoW w (w.alloc (.cells #[.int .u8 k, .int .u32 a, .int .u16 p, .int .u32 b, .int .u16 q] 28)) := (Fp.refl _ _).alloc _
      refine (K.out _).mono ?_
      rintro e v ⟨rfl, rfl⟩
      go_wp2_with fail
      go_ret
      exact ⟨rfl, hn⟩

/-- Has a number of flags that one? -/
def tflag (fl one : Nat) : Bool := decide (fl / one % 2 = 1)
set_option maxRecDepth 100000 in
theorem bits_flag : ∀ fl : Fin 256, (bits .and .u8 ((fl.val : Nat) : Int) 1 != 0) = tflag fl.val 1 ∧ (bits .and .u8 ((fl.val : Nat) : Int) 2 != 0) = tflag fl.val 2 ∧ (bits .and .u8 ((fl.val : Nat) : Int) 4 != 0) = tflag fl.val 4 ∧ (bits .and .u8 ((fl.val : Nat) : Int) 16 != 0) = tflag fl.val 16 := by decide +kernel
theorem has_ok (bk : Bool) (fl : Nat) (one : Int) (z : Bool) (hz : (bits .and .u8 (fl : Int) one != 0) = z) (w : World) : Calls Tryd.prog 85 #[.agg #[.bool bk, .int .u8 fl], .int .u8 one] w (Ret1 (.bool z) w) := by
  go_enter Tryd.func85, Tryd.ntmps85
  go_wp2_with fail
  go_ret
  exact ⟨by first | rfl | (simp [hz]), (Fp.refl _ _).alloc _⟩
theorem flag_ok (fl one : Nat) (hf : fl < 256) (ho : one = 1 ∨ one = 2 ∨ one = 4 ∨ one = 16) (w : World) : Calls Tryd.prog 69 #[.int .u8 fl, .int .u8 one] w fun e w' => e = .returned (.bool (tflag fl one)) ∧ w' = w := by
  have h0 : ((one : Int) == 0) = false := beq_eq_false_iff_ne.2 (by omega)
  obtain ⟨m, hm⟩ : ∃ m, m = fl / one := ⟨_, rfl⟩
  obtain ⟨d, hd⟩ : ∃ d, d = m % 2 := ⟨_, rfl⟩
  have h1 : (fl : Int).tdiv (one : Int) = (m : Int) := by rw [Int.tdiv_eq_ediv_of_nonneg (by omega), hm]; rfl
  have h2 : (m : Int).tmod 2 = (d : Int) := by rw [Int.tmod_eq_emod_of_nonneg (by omega), hd]; rfl
  have hle : m ≤ fl := by rw [hm]; exact Nat.div_le_self _ _
  have h3 : IntKind.u8.wrap (m : Int) = (m : Int) := IntWalk.u8_in _ (by omega)
  have h4 : IntKind.u8.wrap (d : Int) = (d : Int) := IntWalk.u8_in _ (by omega)
  have h5 : ((d : Int) == 1) = tflag fl one := by
    unfold tflag
    rw [← hm, ← hd]
    by_cases h : d = 1
    · rw [h]; rfl
    · rw [decide_eq_false h]; exact beq_eq_false_iff_ne.2 (by omega)
  have h0n : ¬ one = 0 := by omega
  clear hm hd hle hf ho
  go_enter Tryd.func69, Tryd.ntmps69
  go_wp2_with fail
  go_ret
  exact ⟨by first | rfl | (simp only [← h5]; first | rfl | simp), rfl⟩
end Go.Proofs.YtdmbjndhdldggaaDoor

namespace Go.Proofs.YtdmbjndhdldggaaDoor
set_option linter.unusedVariables false
set_option linter.unusedSimpArgs false
open Go.RowKit Go.Lib Go.Sort

theorem tup_eq2 (r a p b q r2 a2 p2 b2 q2 : Nat) (W : World) : (binOp .eql 28 (.agg #[.int .u8 r, .int .u32 a, .int .u16 p, .int .u32 b, .int .u16 q]) (.agg #[.int .u8 r2, .int .u32 a2, .int .u16 p2, .int .u32 b2, .int .u16 q2])).run Tryd.prog W = .ok (.bool (decide (r = r2 ∧ a = a2 ∧ p = p2 ∧ b = b2 ∧ q = q2))) W := by
  exact tup_eql r2 a2 p2 b2 q2 r a p b q W
set_option maxHeartbeats 2000000 in
set_option maxRecDepth 100000 in
theorem match_ok (r a p b q r2 a2 p2 b2 q2 r3 a3 p3 b3 q3 : Nat) (st dl : Int) (ad : Option Addr) (n c : Nat) (w : World) :
    Calls Tryd.prog 11 #[.agg #[.int .u8 r, .int .u32 a, .int .u16 p, .int .u32 b, .int .u16 q, .int .u8 r2, .int .u32 a2, .int .u16 p2, .int .u32 b2, .int .u16 q2, .int .i64 st, .int .i64 dl, (.slice ad n c)], .agg #[.int .u8 r3, .int .u32 a3, .int .u16 p3, .int .u32 b3, .int .u16 q3]] w (Ret1 (.tuple #[.bool (!decide (r3 = r ∧ a3 = a ∧ p3 = p ∧ b3 = b ∧ q3 = q) && decide (r3 = r2 ∧ a3 = a2 ∧ p3 = p2 ∧ b3 = b2 ∧ q3 = q2)), .bool (decide (r3 = r ∧ a3 = a ∧ p3 = p ∧ b3 = b ∧ q3 = q) || decide (r3 = r2 ∧ a3 = a2 ∧ p3 = p2 ∧ b3 = b2 ∧ q3 = q2))]) w) := by
  have e1 := fun W => tup_eq2 r3 a3 p3 b3 q3 r a p b q W
  have e2 := fun W => tup_eq2 r3 a3 p3 b3 q3 r2 a2 p2 b2 q2 W
  have hn : NoW w ((w.alloc (.cells #[.int .u8 r, .int .u32 a, .int .u16 p, .int .u32 b, .int .u16 q, .int .u8 r2, .int .u32 a2, .int .u16 p2, .int .u32 b2, .int .u16 q2, .int .i64 st, .int .i64 dl, (.slice ad n c)] 31)).alloc (.cells #[.int .u8 r3, .int .u32 a3, .int .u16 p3, .int .u32 b3, .int .u16 q3] 28)) := ((Fp.refl _ _).alloc _).alloc _
  rcases h1 : decide (r3 = r ∧ a3 = a ∧ p3 = p ∧ b3 = b ∧ q3 = q) with _ | _ <;> rcases h2 : decide (r3 = r2 ∧ a3 = a2 ∧ p3 = p2 ∧ b3 = b2 ∧ q3 = q2) with _ | _ <;> rw [h1] at e1 <;> rw [h2] at e2 <;> clear h1 h2
  · show Calls _ _ _ _ (Ret1 (.tuple #[.bool false, .bool false]) w)
    go_enter Tryd.func11, Tryd.ntmps11
    go_wp2_with fail
    refine bodyPost_ret (v := .tuple #[.bool false, .bool false]) (by simp only [results, Tryd.results11]; go_simp) rfl ⟨rfl, by first | exact hn | exact ((Fp.refl _ _).alloc _).alloc _ | exact (Fp.refl _ _).alloc _⟩
  · show Calls _ _ _ _ (Ret1 (.tuple #[.bool true, .bool true]) w)
    go_enter Tryd.func11, Tryd.ntmps11
    go_wp2_with fail
    refine bodyPost_ret (v := .tuple #[.bool true, .bool true]) (by simp only [results, Tryd.results11]; go_simp) rfl ⟨rfl, by first | exact hn | exact ((Fp.refl _ _).alloc _).alloc _ | exact (Fp.refl _ _).alloc _⟩
  · show Calls _ _ _ _ (Ret1 (.tuple #[.bool false, .bool true]) w)
    go_enter Tryd.func11, Tryd.ntmps11
    go_wp2_with fail
    refine bodyPost_ret (v := .tuple #[.bool false, .bool true]) (by simp only [results, Tryd.results11]; go_simp) rfl ⟨rfl, by first | exact hn | exact ((Fp.refl _ _).alloc _).alloc _ | exact (Fp.refl _ _).alloc _⟩
  · show Calls _ _ _ _ (Ret1 (.tuple #[.bool false, .bool true]) w)
    go_enter Tryd.func11, Tryd.ntmps11
    go_wp2_with fail
    refine bodyPost_ret (v := .tuple #[.bool false, .bool true]) (by simp only [results, Tryd.results11]; go_simp) rfl ⟨rfl, by first | exact hn | exact ((Fp.refl _ _).alloc _).alloc _ | exact (Fp.refl _ _).alloc _⟩
end Go.Proofs.YtdmbjndhdldggaaDoor

namespace Go.Proofs.YtdmbjndhdldggaaDoor
set_option linter.unusedVariables false
set_option linter.unusedSimpArgs false
open Go.RowKit Go.Lib Go.Sort

theorem rlive_ok (r a p b q r2 a2 p2 b2 q2 : Nat) (st dl : Int) (h : Value) (now : Int) (w : World) : Calls Tryd.prog 24 #[.agg #[.int .u8 r, .int .u32 a, .int .u16 p, .int .u32 b, .int .u16 q, .int .u8 r2, .int .u32 a2, .int .u16 p2, .int .u32 b2, .int .u16 q2, .int .i64 st, .int .i64 dl, h], .int .i64 now] w (Ret1 (.bool (decide (now < dl))) w) := by
  go_enter Tryd.func24, Tryd.ntmps24
  go_wp2_with fail
  go_ret
  exact ⟨rfl, (Fp.refl _ _).alloc _⟩

theorem rturn_t (r a p b q r2 a2 p2 b2 q2 : Nat) (st dl : Int) (h : Value) (w : World) : Calls Tryd.prog 27 #[.agg #[.int .u8 r, .int .u32 a, .int .u16 p, .int .u32 b, .int .u16 q, .int .u8 r2, .int .u32 a2, .int .u16 p2, .int .u32 b2, .int .u16 q2, .int .i64 st, .int .i64 dl, h], .bool true] w (Ret1 (.agg #[.int .u32 b, .int .u16 q, .int .u32 a, .int .u16 p]) w) := by
  go_enter Tryd.func27, Tryd.ntmps27
  go_wp2_with fail
  refine bodyPost_ret (v := .agg #[.int .u32 b, .int .u16 q, .int .u32 a, .int .u16 p]) (by simp only [results, Tryd.results27]; go_simp) rfl ⟨rfl, ?_⟩
  repeat (first | exact Fp.refl _ _ | refine Fp.alloc ?_ _ | (refine Fp.setCell ?_ (Or.inl (by simp)) _))

theorem rturn_f (r a p b q r2 a2 p2 b2 q2 : Nat) (st dl : Int) (h : Value) (w : World) : Calls Tryd.prog 27 #[.agg #[.int .u8 r, .int .u32 a, .int .u16 p, .int .u32 b, .int .u16 q, .int .u8 r2, .int .u32 a2, .int .u16 p2, .int .u32 b2, .int .u16 q2, .int .i64 st, .int .i64 dl, h], .bool false] w (Ret1 (.agg #[.int .u32 b2, .int .u16 q2, .int .u32 a2, .int .u16 p2]) w) := by
  go_enter Tryd.func27, Tryd.ntmps27
  go_wp2_with fail
  refine bodyPost_ret (v := .agg #[.int .u32 b2, .int .u16 q2, .int .u32 a2, .int .u16 p2]) (by simp only [results, Tryd.results27]; go_simp) rfl ⟨rfl, ?_⟩
  repeat (first | exact Fp.refl _ _ | refine Fp.alloc ?_ _ | (refine Fp.setCell ?_ (Or.inl (by simp)) _))

theorem rinside_t (r a p b q r2 a2 p2 b2 q2 : Nat) (st dl : Int) (h : Value) (w : World) : Calls Tryd.prog 28 #[.agg #[.int .u8 r, .int .u32 a, .int .u16 p, .int .u32 b, .int .u16 q, .int .u8 r2, .int .u32 a2, .int .u16 p2, .int .u32 b2, .int .u16 q2, .int .i64 st, .int .i64 dl, h], .bool true] w (Ret1 (.agg #[.int .u32 a, .int .u16 p, .int .u32 b, .int .u16 q]) w) := by
  go_enter Tryd.func28, Tryd.ntmps28
  go_wp2_with fail
  refine bodyPost_ret (v := .agg #[.int .u32 a, .int .u16 p, .int .u32 b, .int .u16 q]) (by simp only [results, Tryd.results28]; go_simp) rfl ⟨rfl, ?_⟩
  repeat (first | exact Fp.refl _ _ | refine Fp.alloc ?_ _ | (refine Fp.setCell ?_ (Or.inl (by simp)) _))

theorem rinside_f (r a p b q r2 a2 p2 b2 q2 : Nat) (st dl : Int) (h : Value) (w : World) : Calls Tryd.prog 28 #[.agg #[.int .u8 r, .int .u32 a, .int .u16 p, .int .u32 b, .int .u16 q, .int .u8 r2, .int .u32 a2, .int .u16 p2, .int .u32 b2, .int .u16 q2, .int .i64 st, .int .i64 dl, h], .bool false] w (Ret1 (.agg #[.int .u32 a2, .int .u16 p2, .int .u32 b2, .int .u16 q2]) w) := by
  go_enter Tryd.func28, Tryd.ntmps28
  go_wp2_with fail
  refine bodyPost_ret (v := .agg #[.int .u32 a2, .int .u16 p2, .int .u32 b2, .int .u16 q2]) (by simp only [results, Tryd.results28]; go_simp) rfl ⟨rfl, ?_⟩
  repeat (first | exact Fp.refl _ _ | refine Fp.alloc ?_ _ | (refine Fp.setCell ?_ (Or.inl (by simp)) _))

theorem change_ok (a p b q : Int) (w : World) : Calls Tryd.prog 26 #[.agg #[.int .u32 a, .int .u16 p, .int .u32 b, .int .u16 q], .agg #[.int .u32 a, .int .u16 p, .int .u32 b, .int .u16 q]] w (Ret1 (.bool true) w) := by
  go_enter Tryd.func26, Tryd.ntmps26
  go_wp2_with fail
  go_ret
  exact ⟨rfl, ((Fp.refl _ _).alloc _).alloc _⟩

set_option maxHeartbeats 2000000 in
set_option maxRecDepth 100000 in
theorem rmatch_ok (r a p b q r2 a2 p2 b2 q2 r3 a3 p3 b3 q3 : Nat) (st dl : Int) (h : Value) (w : World) :
    Calls Tryd.prog 20 #[.agg #[.int .u8 r, .int .u32 a, .int .u16 p, .int .u32 b, .int .u16 q, .int .u8 r2, .int .u32 a2, .int .u16 p2, .int .u32 b2, .int .u16 q2, .int .i64 st, .int .i64 dl, h], .agg #[.int .u8 r3, .int .u32 a3, .int .u16 p3, .int .u32 b3, .int .u16 q3]] w (Ret1 (.tuple #[.bool (!decide (r3 = r ∧ a3 = a ∧ p3 = p ∧ b3 = b ∧ q3 = q) && decide (r3 = r2 ∧ a3 = a2 ∧ p3 = p2 ∧ b3 = b2 ∧ q3 = q2)), .bool (decide (r3 = r ∧ a3 = a ∧ p3 = p ∧ b3 = b ∧ q3 = q) || decide (r3 = r2 ∧ a3 = a2 ∧ p3 = p2 ∧ b3 = b2 ∧ q3 = q2))]) w) := by
  have e1 := fun W => tup_eq2 r3 a3 p3 b3 q3 r a p b q W
  have e2 := fun W => tup_eq2 r3 a3 p3 b3 q3 r2 a2 p2 b2 q2 W
  have hn : NoW w ((w.alloc (.cells #[.int .u8 r, .int .u32 a, .int .u16 p, .int .u32 b, .int .u16 q, .int .u8 r2, .int .u32 a2, .int .u16 p2, .int .u32 b2, .int .u16 q2, .int .i64 st, .int .i64 dl, h] 50)).alloc (.cells #[.int .u8 r3, .int .u32 a3, .int .u16 p3, .int .u32 b3, .int .u16 q3] 28)) := ((Fp.refl _ _).alloc _).alloc _
  rcases h1 : decide (r3 = r ∧ a3 = a ∧ p3 = p ∧ b3 = b ∧ q3 = q) with _ | _ <;> rcases h2 : decide (r3 = r2 ∧ a3 = a2 ∧ p3 = p2 ∧ b3 = b2 ∧ q3 = q2) with _ | _ <;> rw [h1] at e1 <;> rw [h2] at e2 <;> clear h1 h2
  · show Calls _ _ _ _ (Ret1 (.tuple #[.bool false, .bool false]) w)
    go_enter Tryd.func20, Tryd.ntmps20
    go_wp2_with fail
    go_quiet (fail)
    go_wp2_with fail
    refine bodyPost_ret (v := .tuple #[.bool false, .bool false]) (by simp only [results, Tryd.results20]; go_simp) rfl ⟨rfl, by first | exact hn | exact hn.drewN _ | exact hn.drew | exact ((Fp.refl _ _).alloc _).alloc _⟩
  · show Calls _ _ _ _ (Ret1 (.tuple #[.bool true, .bool true]) w)
    go_enter Tryd.func20, Tryd.ntmps20
    go_wp2_with fail
    go_quiet (fail)
    go_wp2_with fail
    refine bodyPost_ret (v := .tuple #[.bool true, .bool true]) (by simp only [results, Tryd.results20]; go_simp) rfl ⟨rfl, by first | exact hn | exact hn.drewN _ | exact hn.drew | exact ((Fp.refl _ _).alloc _).alloc _⟩
  · show Calls _ _ _ _ (Ret1 (.tuple #[.bool false, .bool true]) w)
    go_enter Tryd.func20, Tryd.ntmps20
    go_wp2_with fail
    refine bodyPost_ret (v := .tuple #[.bool false, .bool true]) (by simp only [results, Tryd.results20]; go_simp) rfl ⟨rfl, by first | exact hn | exact hn.drewN _ | exact hn.drew | exact ((Fp.refl _ _).alloc _).alloc _⟩
  · show Calls _ _ _ _ (Ret1 (.tuple #[.bool false, .bool true]) w)
    go_enter Tryd.func20, Tryd.ntmps20
    go_wp2_with fail
    refine bodyPost_ret (v := .tuple #[.bool false, .bool true]) (by simp only [results, Tryd.results20]; go_simp) rfl ⟨rfl, by first | exact hn | exact hn.drewN _ | exact hn.drew | exact ((Fp.refl _ _).alloc _).alloc _⟩

theorem rless3_ok (a p b q : Nat) (w : World) :
    Calls Tryd.prog 72 #[.agg #[.int .u32 a, .int .u16 p], .agg #[.int .u32 b, .int .u16 q]] w (Ret1 (.bool (decide (a < b ∨ a = b ∧ p < q))) w) := by
  by_cases h : a = b
  · subst h
    have e : decide (a < a ∨ a = a ∧ p < q) = decide (p < q) := by simp
    rw [e]
    have e0 : decide ((p : Int) < (q : Int)) = decide (p < q) := by rw [decide_eq_decide]; omega
    clear e
    go_enter Tryd.func72, Tryd.ntmps72
    go_wp2_with fail
    go_ret
    exact ⟨by first | rfl | simp, ((Fp.refl _ _).alloc _).alloc _⟩
  · have e2 : ((a : Int) == (b : Int)) = false := beq_eq_false_iff_ne.2 (by omega)
    by_cases hl : a < b
    · rw [show decide (a < b ∨ a = b ∧ p < q) = true by simp [hl]]
      have e0 : decide ((a : Int) < (b : Int)) = true := decide_eq_true (by omega)
      clear h
      go_enter Tryd.func72, Tryd.ntmps72
      go_wp2_with fail
      go_ret
      exact ⟨rfl, ((Fp.refl _ _).alloc _).alloc _⟩
    · rw [show decide (a < b ∨ a = b ∧ p < q) = false by simp [hl, h]]
      have e0 : decide ((a : Int) < (b : Int)) = false := decide_eq_false (by omega)
      clear h
      go_enter Tryd.func72, Tryd.ntmps72
      go_wp2_with fail
      go_ret
      exact ⟨rfl, ((Fp.refl _ _).alloc _).alloc _⟩

set_option maxHeartbeats 2000000 in
theorem rless8_ok (r a p b q r2 a2 p2 b2 q2 : Nat) (ha : a < 4294967296) (hp : p < 65536) (hb : b < 4294967296) (hq : q < 65536) (ha2 : a2 < 4294967296) (hp2 : p2 < 65536) (hb2 : b2 < 4294967296) (hq2 : q2 < 65536) (w : World) :
    Calls Tryd.prog 54 #[.agg #[.int .u8 r, .int .u32 a, .int .u16 p, .int .u32 b, .int .u16 q], .agg #[.int .u8 r2, .int .u32 a2, .int .u16 p2, .int .u32 b2, .int .u16 q2]] w (Ret1 (.bool (decide (tkey r a p b q < tkey r2 a2 p2 b2 q2))) w) := by
  have hk := tkey_lt (k := r) (k2 := r2) ha hp hb hq ha2 hp2 hb2 hq2
  have e : decide (tkey r a p b q < tkey r2 a2 p2 b2 q2) = decide (r < r2 ∨ r = r2 ∧ (if a = a2 ∧ p = p2 then b < b2 ∨ b = b2 ∧ q < q2 else a < a2 ∨ a = a2 ∧ p < p2)) := by rw [decide_eq_decide]; exact hk
  rw [e]
  clear e hk ha hp hb hq ha2 hp2 hb2 hq2
  by_cases hr : r = r2
  · subst hr
    by_cases h1 : a = a2 ∧ p = p2
    · obtain ⟨rfl, rfl⟩ := h1
      have e : decide (r < r ∨ r = r ∧ (if a = a ∧ p = p then b < b2 ∨ b = b2 ∧ q < q2 else a < a ∨ a = a ∧ p < p)) = decide (b < b2 ∨ b = b2 ∧ q < q2) := by simp
      rw [e]
      clear e
      have k := fun W => rless3_ok b q b2 q2 W
      generalize decide (b < b2 ∨ b = b2 ∧ q < q2) = z at k ⊢
      have K := Lib.hid k
      clear k
      go_enter Tryd.func54, Tryd.ntmps54
      go_wp2_with fail
      refine (K.out _).mono ?_
      rintro e v ⟨rfl, hp⟩
      have Hn := Lib.hid (show NoW w v from (((Fp.refl _ _).alloc _).alloc _).trans hp (fun _ _ h => h))
      clear hp
      go_wp2_with fail
      go_ret
      exact ⟨rfl, Hn.out⟩
    · have e : decide (r < r ∨ r = r ∧ (if a = a2 ∧ p = p2 then b < b2 ∨ b = b2 ∧ q < q2 else a < a2 ∨ a = a2 ∧ p < p2)) = decide (a < a2 ∨ a = a2 ∧ p < p2) := by simp [h1]
      rw [e]
      clear e
      have k := fun W => rless3_ok a p a2 p2 W
      generalize decide (a < a2 ∨ a = a2 ∧ p < p2) = z at k ⊢
      have K := Lib.hid k
      clear k
      have e1 : ∀ W, (binOp .neq 26 (.agg #[.int .u32 a, .int .u16 p]) (.agg #[.int .u32 a2, .int .u16 p2])).run Tryd.prog W = .ok (.bool true) W := fun W => by
        by_cases h2 : a = a2
        · subst h2
          have h3 : ((p : Int) == (p2 : Int)) = false := beq_eq_false_iff_ne.2 (fun e => h1 ⟨rfl, by omega⟩)
          go_simp
        · have h3 : ((a : Int) == (a2 : Int)) = false := beq_eq_false_iff_ne.2 (fun e => h2 (by omega))
          go_simp
      clear h1
      go_enter Tryd.func54, Tryd.ntmps54
      go_wp2_with fail
      refine (K.out _).mono ?_
      rintro e v ⟨rfl, hp⟩
      have Hn := Lib.hid (show NoW w v from (((Fp.refl _ _).alloc _).alloc _).trans hp (fun _ _ h => h))
      clear hp
      go_wp2_with fail
      go_ret
      exact ⟨rfl, Hn.out⟩
  · have e : decide (r < r2 ∨ r = r2 ∧ (if a = a2 ∧ p = p2 then b < b2 ∨ b = b2 ∧ q < q2 else a < a2 ∨ a = a2 ∧ p < p2)) = decide (r < r2) := by simp [hr]
    rw [e]
    have e2 : ((r : Int) != (r2 : Int)) = true := by simp; omega
    have e3 : decide ((r : Int) < (r2 : Int)) = decide (r < r2) := by rw [decide_eq_decide]; omega
    clear e hr
    go_enter Tryd.func54, Tryd.ntmps54
    go_wp2_with fail
    go_ret
    exact ⟨by first | rfl | (simp), (((Fp.refl _ _).alloc _).alloc _)⟩


set_option maxHeartbeats 2000000 in
theorem rless18_ok (r a p b q r2 a2 p2 b2 q2 : Nat) (r' a' p' b' q' r2' a2' p2' b2' q2' st st2 dl dl2 : Int) (h h2 : Value) (ha : a < 4294967296) (hp : p < 65536) (hb : b < 4294967296) (hq : q < 65536) (ha2 : a2 < 4294967296) (hp2 : p2 < 65536) (hb2 : b2 < 4294967296) (hq2 : q2 < 65536) (w : World) :
    Calls Tryd.prog 30 #[.agg #[.int .u8 r, .int .u32 a, .int .u16 p, .int .u32 b, .int .u16 q, .int .u8 r', .int .u32 a', .int .u16 p', .int .u32 b', .int .u16 q', .int .i64 st, .int .i64 dl, h], .agg #[.int .u8 r2, .int .u32 a2, .int .u16 p2, .int .u32 b2, .int .u16 q2, .int .u8 r2', .int .u32 a2', .int .u16 p2', .int .u32 b2', .int .u16 q2', .int .i64 st2, .int .i64 dl2, h2]] w (Ret1 (.bool (elB dl (tkey r a p b q) dl2 (tkey r2 a2 p2 b2 q2))) w) := by
  by_cases hd : dl = dl2
  · subst hd
    have k := fun W => rless8_ok r a p b q r2 a2 p2 b2 q2 ha hp hb hq ha2 hp2 hb2 hq2 W
    have e : elB dl (tkey r a p b q) dl (tkey r2 a2 p2 b2 q2) = decide (tkey r a p b q < tkey r2 a2 p2 b2 q2) := by simp [elB]
    rw [e]
    generalize decide (tkey r a p b q < tkey r2 a2 p2 b2 q2) = z at k ⊢
    clear e ha hp hb hq ha2 hp2 hb2 hq2
    have K := Lib.hid k
    clear k
    go_enter Tryd.func30, Tryd.ntmps30
    go_wp2_with fail
    refine (K.out _).mono ?_
    rintro e v ⟨rfl, hp⟩
    have Hn := Lib.hid (show NoW w v from (((Fp.refl _ _).alloc _).alloc _).trans hp (fun _ _ h => h))
    clear hp
    go_wp2_with fail
    go_ret
    exact ⟨rfl, Hn.out⟩
  · have e2 : (dl == dl2) = false := beq_eq_false_iff_ne.2 hd
    by_cases hl : dl < dl2
    · rw [show elB dl (tkey r a p b q) dl2 (tkey r2 a2 p2 b2 q2) = true by simp [elB, hl]]
      have e0 : decide (dl < dl2) = true := decide_eq_true hl
      clear hd hl ha hp hb hq ha2 hp2 hb2 hq2
      go_enter Tryd.func30, Tryd.ntmps30
      go_wp2_with fail
      go_ret
      exact ⟨rfl, (((Fp.refl _ _).alloc _).alloc _)⟩
    · rw [show elB dl (tkey r a p b q) dl2 (tkey r2 a2 p2 b2 q2) = false by simp [elB, hd, hl]]
      have e0 : decide (dl < dl2) = false := decide_eq_false hl
      clear hd hl ha hp hb hq ha2 hp2 hb2 hq2
      go_enter Tryd.func30, Tryd.ntmps30
      go_wp2_with fail
      go_ret
      exact ⟨rfl, (((Fp.refl _ _).alloc _).alloc _)⟩

end Go.Proofs.YtdmbjndhdldggaaDoor
