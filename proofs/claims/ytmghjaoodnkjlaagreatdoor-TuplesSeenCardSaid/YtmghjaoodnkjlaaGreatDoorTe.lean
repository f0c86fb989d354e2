/- Chapter 08: sums. -/
import Derived.RangeFuncNested
import Derived.RangeFuncBound
import Derived.RangeFuncCalls
import Derived.RangeFuncLeaves
import Derived.RangeFuncBox
import Derived.Shelf.Abstract
import Derived.Shelf.RegionOpen
import Derived.OwnWalkIn
import Derived.TacticsInMore
import Derived.LoopNIn
import Derived.LoopIn
import Derived.LoopN
import Derived.Test.YtmghjaoodnkjlaaGreatDoorTd
namespace Go.Proofs.YtmghjaoodnkjlaaGreatDoor
set_option linter.unusedVariables false
set_option linter.unusedSimpArgs false
open Go.RowKit Go.Lib Go.Sort Go.Shelf
attribute [local go_sem] Oper.semAt_some

theorem and65535 {n : Nat} (h : n < 4294967296) : bits .and .u32 (n : Int) 65535 = ((n % 65536 : Nat) : Int) := by
  have k := u32_and_nat n 65535 h (by omega)
  rw [show n &&& 65535 = n % 65536 from Nat.and_two_pow_sub_one_eq_mod n 16] at k
  exact k
theorem add_ok (a b : Nat) (ha : a < 65536) (hb : b < 65536) (w : World) : Calls Tryz.prog 118 #[.int .u16 a, .int .u16 b] w fun e w' => e = .returned (.int .u16 (addC a b : Nat)) ∧ w' = w := by
  have c0 : IntKind.u32.wrap (a : Int) = (a : Int) := IntWalk.u32_in _ (by omega)
  have c1 : IntKind.u32.wrap (b : Int) = (b : Int) := IntWalk.u32_in _ (by omega)
  obtain ⟨n, hn⟩ : ∃ n, n = a + b := ⟨_, rfl⟩
  have c2 : IntKind.u32.wrap ((a : Int) + (b : Int)) = (n : Int) := (IntWalk.u32_in _ (by omega)).trans (by omega)
  have c3 := and65535 (n := n) (by omega)
  have c4 : (n : Int) / 65536 = ((n / 65536 : Nat) : Int) := by omega
  have c5 : IntKind.u32.wrap (((n % 65536 : Nat) : Int) + ((n / 65536 : Nat) : Int)) = ((addC a b : Nat) : Int) := (IntWalk.u32_in _ (by omega)).trans (by unfold addC; split <;> omega)
  have c6 : IntKind.u16.wrap ((addC a b : Nat) : Int) = ((addC a b : Nat) : Int) := IntWalk.u16_in _ (by have := addC_lt ha hb; omega)
  generalize addC a b = r at *
  obtain ⟨x, hx⟩ : ∃ x, x = n % 65536 := ⟨_, rfl⟩
  obtain ⟨y, hy⟩ : ∃ y, y = n / 65536 := ⟨_, rfl⟩
  rw [← hx] at c3 c5
  rw [← hy] at c4 c5
  clear hx hy hn
  go_enter Tryz.func118, Tryz.ntmps118
  go_wp2_with fail
  go_ret
  exact ⟨rfl, rfl⟩

/-- The words of a text of evenly many bytes. -/
def wat (l : List UInt8) (k : Nat) : Nat := g16 l (2 * k)
abbrev W16 := { n : Nat // n < 65536 }
def wlist (l : List UInt8) (k : Nat) : List W16 := (List.range k).map fun j => ⟨wat l j, g16_lt _ _⟩
theorem wlist_succ (l : List UInt8) (k : Nat) : wlist l (k + 1) = wlist l k ++ [⟨wat l k, g16_lt _ _⟩] := by simp [wlist, List.range_succ]
theorem wlist_len (l : List UInt8) (k : Nat) : (wlist l k).length = k := by simp [wlist]
def addAll (s : Nat) (l : List W16) : Nat := l.foldl (fun s n => addC s n.1) s
theorem addAll_snoc (s : Nat) (l : List W16) (x : W16) : addAll s (l ++ [x]) = addC (addAll s l) x.1 := by simp [addAll]
theorem addAll_lt (s : Nat) (hs : s < 65536) : ∀ l : List W16, addAll s l < 65536 := by
  intro l
  induction l generalizing s with
  | nil => exact hs
  | cons x t ih => exact ih _ (addC_lt hs x.2)
theorem addAll_wlist (l : List UInt8) : ∀ k, 2 * k ≤ l.length → sumW (addAll 0 (wlist l k)) (l.drop (2 * k)) = sumW 0 l
  | 0, _ => by simp [wlist, addAll]
  | k + 1, h => by
    rw [wlist_succ, addAll_snoc, ← addAll_wlist l k (by omega), sumW_step (i := 2 * k) (by omega)]
    rfl
theorem addAll_end (l : List UInt8) (h : l.length % 2 = 0) : addAll 0 (wlist l (l.length / 2)) = sumW 0 l := by
  rw [← addAll_wlist l (l.length / 2) (by omega), sumW_end (by omega)]

/-- What a round keeps: the iterator's box. -/
def KB (b : Nat) (A B : World) : Prop := A.heap.size ≤ B.heap.size ∧ B.heap[b]? = A.heap[b]?
theorem KB.refl (b : Nat) (A : World) : KB b A A := ⟨Nat.le_refl _, rfl⟩
theorem KB.trans {b : Nat} {A B C : World} (h : KB b A B) (k : KB b B C) : KB b A C := ⟨Nat.le_trans h.1 k.1, k.2.trans h.2⟩
theorem KB.cell {b : Nat} {A B : World} (h : KB b A B) (j : Nat) : B.cell? ⟨b, j, none⟩ = A.cell? ⟨b, j, none⟩ := World.cell?_of_block (w := A) h.2
theorem KB.low {b : Nat} {A B : World} (h : NoW A B) (hb : b < A.heap.size) : KB b A B := ⟨h.size, h.block _ hb id⟩
theorem noW_grown {w w' : World} (h : NoW w w') : w.grownBy w' none := ⟨h.os, h.tape, h.output, h.size, fun k hk _ => h.block k hk id⟩
set_option maxRecDepth 100000 in
set_option maxHeartbeats 2000000 in
/-- The iterator's body, over a text of evenly many bytes. -/
theorem words1_in (n : Nat) (hn : 3 ≤ n) (l : Nat) (t : List UInt8) (h2 : t.length % 2 = 0) (ht : t.length ≤ 100000) (Bs : Nat)
    (J Jx : List W16 → World → Prop) (B : Nat) (hJ : AbidesFrom B J)
    (hY : ∀ pre x W, J pre W → pre.length < t.length / 2 → YieldAt Fence.wide (n - 1) Tryz.prog l #[.int .u16 (x.1 : Nat)] W fun e W' =>
      (e = .returned (.bool true) ∧ J (pre ++ [x]) W' ∧ KB Bs W W') ∨ (e = .returned (.bool false) ∧ Jx (pre ++ [x]) W'))
    (W : World) (hBs : W.cell? ⟨Bs, 0, none⟩ = some (str t)) (h0 : J [] W) :
    CallsIn Fence.wide n Tryz.prog 138 #[.func (.yield l) #[] #[], .pointer (some ⟨Bs, 0, none⟩)] W fun e W' => (∃ v, e = .returned v) ∧
      ((∃ ys, ys = wlist t (t.length / 2) ∧ J ys W') ∨ (∃ pre, True ∧ Jx pre W')) := by
  refine callsIn_of_wp Tryz.func138 rfl trivial ?_ rfl
  simp only [Tryz.ntmps138, List.size_toArray, List.length_cons, List.length_nil, Nat.reduceAdd, Nat.reduceSub, Array.replicate_succ, Array.replicate_zero, List.push_toArray, List.append_toArray, List.nil_append, List.cons_append]
  have tm : (t.length : Int) % 2 = 0 := by omega
  have tm2 : Int.tmod (t.length : Int) 2 = 0 := by rw [Int.tmod_eq_emod_of_nonneg (by omega)]; exact tm
  have h1 : 1 ≤ n := by omega
  gi_wp2
  gi_loopw [3] (fun i wr => ∃ k : Nat, k ≤ t.length / 2 ∧ i = .int .i64 ((2 * k : Nat) : Int) ∧ J (wlist t k) wr ∧ KB Bs W wr)
    (fun i _ => 1000000 - (RowKit.intOf i).toNat)
  case atStart => exact ⟨0, Nat.zero_le _, rfl, h0, KB.refl _ _⟩
  case round =>
    obtain ⟨k, hk, rfl, hJs, hnx⟩ := hrel
    have hcx : wr.cell? ⟨Bs, 0, none⟩ = some (str t) := (hnx.cell 0).trans hBs
    by_cases hlt : k < t.length / 2
    · have K := get16_ok t (2 * k) (by omega) (by omega) wr
      rw [decide_eq_true (show 2 * k + 2 ≤ t.length by omega)] at K
      have hg : g16 t (2 * k) = wat t k := rfl
      rw [hg] at K
      gi_wp2_with (refine ⟨trivial, ?_⟩; gi_at_call 94; refine (callsIn_wide.2 K).mono ?_; rintro e w1 ⟨rfl, hp⟩; have hJ1 := hJ _ _ _ none hJs (noW_grown hp) (fun r e => by cases e); obtain ⟨fn, tmps, assign, body, hy, hR⟩ := hY _ ⟨wat t k, g16_lt _ _⟩ w1 hJ1 (by rw [wlist_len]; exact hlt); have hnx1 := hnx.trans (KB.low hp (cell_lt hcx)))
      refine hR.mono ?_
      rintro e W3 (⟨rfl, hJ3, hk3⟩ | ⟨rfl, hJx3⟩)
      · gi_wp2
        go_roundw
        case rel => exact ⟨k + 1, by omega, by go_num, by rw [wlist_succ]; exact hJ3, hnx1.trans hk3⟩
        case measure => simp [RowKit.intOf]; omega
      · gi_wp2
        refine bodyPost_ret (results_none rfl _ _ _) rfl ?_
        exact ⟨⟨_, rfl⟩, .inr ⟨_, trivial, hJx3⟩⟩
    · have K := get16_ok t (2 * k) (by omega) (by omega) wr
      rw [decide_eq_false (show ¬ 2 * k + 2 ≤ t.length by omega)] at K
      obtain rfl : k = t.length / 2 := by omega
      gi_wp2_with (refine ⟨trivial, ?_⟩; gi_at_call 94; refine (callsIn_wide.2 K).mono ?_; rintro e w1 ⟨rfl, hp⟩; have hJ1 := hJ _ _ _ none hJs (noW_grown hp) (fun r e => by cases e))
      refine ⟨fun _ h => (by cases h), ?_⟩
      gi_wp2
      refine bodyPost_ret (results_none rfl _ _ _) rfl ?_
      exact ⟨⟨_, rfl⟩, .inl ⟨_, rfl, hJ1⟩⟩

theorem words_stops (n : Nat) (hn : 3 ≤ n) (t : List UInt8) (h2 : t.length % 2 = 0) (ht : t.length ≤ 100000) (Bs : Nat) (w : World) (hBs : w.cell? ⟨Bs, 0, none⟩ = some (str t)) :
    SeqStopsK Fence.wide n Tryz.prog 138 #[.pointer (some ⟨Bs, 0, none⟩)] (fun x : W16 => #[Value.int .u16 (x.1 : Nat)]) (KB Bs) (fun ys => ys = wlist t (t.length / 2)) (fun _ => True) (t.length / 2) w := fun l J Jx W hW hJ hJx hY h0 =>
  words1_in n hn l t h2 ht Bs J Jx _ hJ hY W ((hW.cell (p := ⟨Bs, 0, none⟩) (cell_lt hBs)).trans hBs) h0

theorem words_ok (t : List UInt8) (w : World) : Calls Tryz.prog 117 #[str t] w fun e w' => e = .returned (.func (.func 138) #[] #[.pointer (some ⟨w.heap.size, 0, none⟩)]) ∧ w' = w.alloc (.cells #[str t] 9) := by
  go_enter Tryz.func117, Tryz.ntmps117
  go_wp2_with fail
  have hmf : ∀ (fn : Fn) (first cap : Array Value) (w : World), (Instr.makeFunc fn first cap).run Tryz.prog w = .ok (.func fn first cap) w := fun _ _ _ _ => rfl
  go_wp2_with fail
  go_ret
  exact ⟨rfl, rfl⟩

set_option maxRecDepth 100000 in
set_option maxHeartbeats 4000000 in
theorem sum_ok (g c : Nat) (t : List UInt8) (h2 : t.length % 2 = 0) (ht : t.length ≤ 100000) (w : World) (hg : w.cell? ⟨g, 0, none⟩ = some (str t)) :
    Calls Tryz.prog 83 #[.slice (some ⟨g, 0, none⟩) 1 c] w (Ret1 (.int .u16 (csum [t] : Nat)) w) := by
  have hgl := cell_lt hg
  refine (callsIn_wide (n := 9)).1 ?_
  refine callsIn_of_wp_marks Tryz.func83 rfl trivial ?_ rfl
  simp only [Tryz.ntmps83, List.size_toArray, List.length_nil, List.length_cons, Nat.reduceAdd, Nat.reduceSub, Array.replicate_succ, Array.replicate_zero, List.push_toArray, List.append_toArray, List.nil_append, List.cons_append]
  gi_wp2
  refine wpIn_loop_rounds 2 ?_
  rw [roundsIn_succ]
  gi_wp2_with (refine ⟨trivial, ?_⟩; gi_at_call 117; refine (callsIn_wide.2 (words_ok t _)).mono ?_; rintro e w1 ⟨rfl, rfl⟩)
  refine wpIn_rangeFunc_ownF rfl (by omega) (gf := 138) (lb := #[.pointer (some ⟨w.heap.size + 1, 0, none⟩)]) rfl trivial (enters_of Tryz.func138 (by kernel_rfl) rfl)
    (words_stops 8 (by omega) t h2 ht (w.heap.size + 1) _ ?hbox) (fun h k => KB.trans h k) (fun W l o o' hl ho h1 h3 => ?kb) (Below.refl _ _) (fun _ => rfl)
    (fun pre W => (W.cell? ⟨w.heap.size, 0, none⟩ = some (.int .u16 (addAll 0 pre : Nat)) ∧ W.frozen? ⟨w.heap.size, 0, none⟩ = false) ∧ Below w.heap.size w W)
    (fun _ _ _ => False) ?own (fun _ _ _ _ _ hs _ _ => hs) ?start
    (fun x => { tmps := #[.slice (some ⟨g, 0, none⟩) 1 c, undef, .int .u16 0, .pointer (some ⟨w.heap.size, 0, none⟩), undef, str t, .int .u16 (x.1 : Nat), .slice (some ⟨g, 0, none⟩) 1 c, .int .i64 1, .int .i64 0, .bool true, .pointer (some ⟨g, 0, none⟩), str t, str t, .func (.func 138) #[] #[.pointer (some ⟨w.heap.size + 1, 0, none⟩)], .int .u16 (x.1 : Nat), undef, undef, undef, undef, undef, undef], defers := [] }) ?assign ?body ?done ?stop
  case hbox =>
    have hb := heap_alloc_new (w.alloc (.cells #[.int .u16 0] 25)) (.cells #[str t] 9)
    rw [World.size_alloc] at hb
    simp only [World.cell?]
    rw [hb]
    rfl
  case kb =>
    simp only [World.size_alloc] at hl
    exact ⟨by simp, World.putObj_heap_other (by omega)⟩
  case own => exact OwnFrom.and (Own.from (fun s A B row hs hg hr => ⟨cell_kept hs.1 hg hr, (frozen_kept hs.1 hg hr).trans hs.2⟩) _) (ownFrom_below (Nat.le_refl _) (by simp; omega))
  case start =>
    refine ⟨⟨by simp [addAll], by simp⟩, ?_⟩
    exact ((Below.refl _ w).alloc (Nat.le_refl _) _).alloc (by simp) _
  case assign =>
    intro l x W K hK
    gi_wp2
    exact hK
  case body =>
    rintro l pre x W ⟨⟨hc, hf⟩, hB⟩ hlen
    have K := fun W => add_ok (addAll 0 pre) x.1 (addAll_lt 0 (by omega) pre) x.2 W
    gi_wp2_with (refine ⟨trivial, ?_⟩; gi_at_call 118; refine (CallsIn.inRound l (callsIn_wide.2 (K _))).mono ?_; rintro e w9 ⟨rfl, rfl⟩)
    exact ⟨KeepsOthers.setCell _ _ _, ⟨(KeepsWalks.setCell _ _ _).size, Below.heap_setCell _ _ _ _ (show w.heap.size + 1 ≠ w.heap.size by omega)⟩,
      ⟨⟨by rw [addAll_snoc]; exact World.cell?_setCell_same' _ _ _ (by rw [hc]; rfl), by rw [World.frozen?_setCell]; exact hf⟩, hB.setCell (p := ⟨w.heap.size, 0, none⟩) (Nat.le_refl _) _⟩⟩
  case done =>
    rintro D xs W hD rfl ⟨⟨hc, hf⟩, hB⟩ hK
    rw [addAll_end t h2] at hc
    have hlt := sumW_lt t 0 (by omega)
    have hcs : csum [t] = 65535 - sumW 0 t := rfl
    have c0 : IntKind.u16.wrap (65535 - (sumW 0 t : Int)) = ((65535 - sumW 0 t : Nat) : Int) := (IntWalk.u16_in _ (by omega)).trans (by omega)
    generalize sumW 0 t = z at *
    gi_wp2
    rw [roundsIn_succ]
    gi_wp2
    refine ⟨by simp, .inl ⟨_, _, rfl, run_takeDeferred hK, ?_⟩⟩
    exact ⟨_, results_tmp rfl _ _ _, by rw [hcs]; rfl, Fp.of_below (hB.trans (belowK_b (w := w) (Nat.le_refl _) W D _ _ (by simp at hD; omega) hK rfl rfl))⟩
  case stop =>
    rintro D c pre W _ _ h _
    exact h.elim
end Go.Proofs.YtmghjaoodnkjlaaGreatDoor
