/- The document's chains: New, List, Next; 'same'. -/
import Derived.Test.YtmhjdjndckeepaaPlR
namespace Go.Proofs.Ytmhjdjndckeepaa
set_option linter.unusedVariables false
set_option linter.unusedSimpArgs false
open Go.RowKit

section
variable {w w' : World} {B rb gb : Nat} {L : List (List Lk)}

/-- What New leaves. -/
structure RfNew (w : World) (n rb gb : Nat) (w' : World) : Prop where
  rep : RfRep w' w.heap.size rb gb (List.replicate n [])
  lor : w.heap.size ≤ rb
  log : w.heap.size ≤ gb
  own : ∀ g, rfOwn w' rb gb g → w.heap.size ≤ g
  fp : NoW w w'

theorem heap_alloc_new2 (w : World) (o1 o2 : Obj) : ((w.alloc o1).alloc o2).heap[w.heap.size + 1]? = some o2 := by
  have h := heap_alloc_new (w.alloc o1) o2
  rwa [show (w.alloc o1).heap.size = w.heap.size + 1 by simp] at h

theorem infoRow : ∃ i, Try.prog.info? 59 = some i ∧ i.zero = some (.slice none 0 0) ∧ i.size = 1 ∧ i.bytes ≤ 64 := by
  have h : ((Try.prog.info? 59).map fun i => (i.zero, i.size, decide (i.bytes ≤ 64))) = some (some (.slice none 0 0), 1, true) := by kernel_rfl
  rcases hi : Try.prog.info? 59 with _ | i
  · simp [hi] at h
  · simp [hi] at h
    exact ⟨i, rfl, h.1, h.2.1, h.2.2⟩
def mr (n : Nat) : Array Value := madeCells #[.slice none 0 0] n
theorem mr_size (n : Nat) : (mr n).size = n := by simp [mr, madeCells]
theorem mr_get (n q : Nat) (hq : q < n) : (mr n)[q]? = some (.slice none 0 0) := by simp [mr, madeCells, hq, Nat.mod_one]

theorem run_mkr (n : Nat) (hn : n ≤ 64) (W : World) : (Instr.makeSlice 60 (.int .i64 n) (.int .i64 n)).run Try.prog W = .ok (.slice (some ⟨W.heap.size, 0, none⟩) n n) (W.alloc (.cells (mr n) 59)) := by
  obtain ⟨i, hi, hz, hs, hb⟩ := infoRow
  have hb2 : (i.bytes : Int) * (n : Int) ≤ 281474976710656 := by
    have h := Nat.mul_le_mul hb hn
    have h' : ((i.bytes * n : Nat) : Int) ≤ 4096 := by omega
    rw [Int.natCast_mul] at h'; omega
  have := run_makeSlice W 60 59 i (.slice none 0 0) Try.underlying60 hi hz .i64 .i64 n n (by omega) (by omega) (by rw [hs]; omega) hb2 (by omega)
  rw [hs] at this
  simpa [mr, Value.cells] using this

theorem rfNew_of (w : World) (n : Nat) : RfNew w n (w.heap.size + 1) w.heap.size ((w.alloc (.cells (mr n) 59)).alloc (.cells #[.slice (some ⟨w.heap.size, 0, none⟩) n n] 62)) := by
  have h1 : ((w.alloc (.cells (mr n) 59)).alloc (.cells #[.slice (some ⟨w.heap.size, 0, none⟩) n n] 62)).heap[w.heap.size]? = some (.cells (mr n) 59 (0, 0)) := by
    rw [Below.heap_alloc _ _ _ (by simp)]; exact heap_alloc_new w _
  refine ⟨⟨by omega, ?_, mr n, h1, by simp [mr_size], fun q ls hq => ?_⟩, by omega, Nat.le_refl _, fun g hg => ?_, ((Fp.refl _ _).alloc _).alloc _⟩
  · simp
  · rw [List.getElem?_replicate] at hq
    by_cases hqn : q < n
    · simp [hqn] at hq; subst hq
      exact ⟨_, mr_get n q hqn, World.ownsRow_nil _ _ _ 3, by simp [Value.ownBlock], by simp [Value.ownBlock]⟩
    · simp [hqn] at hq
  · rcases hg with rfl | rfl | ⟨arr, ty, q, v, h2, h3, h4⟩
    · omega
    · omega
    · rw [h1] at h2
      cases h2
      have hq : q < n := by
        have := (Array.getElem?_eq_some_iff.1 h3).1
        rwa [mr_size] at this
      rw [mr_get n q hq] at h3
      cases h3
      simp [Value.ownBlock] at h4

set_option maxHeartbeats 1000000 in
theorem rf_new (n : Nat) (h1 : 1 ≤ n) (h64 : n ≤ 64) (w : World) :
    Calls Try.prog 16 #[.int .i64 n] w fun e w' => ∃ rb gb, e = .returned (.tuple #[.pointer (some ⟨rb, 0, none⟩), .int .i64 0]) ∧ RfNew w n rb gb w' := by
  have hmk := run_mkr n h64
  have d1 : decide ((n : Int) < 1) = false := by simp; omega
  have d2 : decide (64 < (n : Int)) = false := by simp; omega
  go_enter Try.func16, Try.ntmps16
  go_wp2_with fail
  refine bodyPost_ret (v := .tuple #[.pointer (some ⟨w.heap.size + 1, 0, none⟩), .int .i64 0]) (by simp [results, Try.results16, go_sem]) rfl ⟨_, _, rfl, rfNew_of w n⟩

set_option maxHeartbeats 1000000 in
theorem rf_new_bad (x : Int) (hx : x < 1 ∨ 64 < x) (w : World) :
    Calls Try.prog 16 #[.int .i64 x] w fun e w' => e = .returned (.tuple #[.pointer none, .int .i64 2]) ∧ w' = w := by
  go_enter Try.func16, Try.ntmps16
  by_cases h1 : x < 1
  · go_wp2_with fail
    refine bodyPost_ret (v := .tuple #[.pointer none, .int .i64 2]) (by simp [results, Try.results16, go_sem]) rfl ⟨rfl, rfl⟩
  · have h2 : 64 < x := by omega
    clear hx
    go_wp2_with fail
    refine bodyPost_ret (v := .tuple #[.pointer none, .int .i64 2]) (by simp [results, Try.results16, go_sem]) rfl ⟨rfl, rfl⟩

set_option maxHeartbeats 1000000 in
theorem rf_list (h : RfRep w B rb gb L) (x : Int) (n : Nat) (hx : x = n) {ls : List Lk} (hn : L[n]? = some ls) (h64 : L.length ≤ 64) :
    Calls Try.prog 21 #[.pointer (some ⟨rb, 0, none⟩), .int .i64 x] w fun e w' => w' = w ∧ ∃ v, e = .returned v ∧ ERow 53 w B v ls := by
  subst hx
  have c0 := h.c0
  have hlt : n < L.length := (List.getElem?_eq_some_iff.1 hn).1
  obtain ⟨v, hv, hr⟩ := h.row hn
  have Hr := Lib.hid hr
  clear hn hr h
  go_enter Try.func21, Try.ntmps21
  go_wp2_with fail
  go_ret
  exact ⟨rfl, v, rfl, Hr.out⟩

set_option maxHeartbeats 1000000 in
theorem rf_list_out (h : RfRep w B rb gb L) (x : Int) (hx : x < 0 ∨ L.length ≤ x) (h64 : L.length ≤ 64) :
    Calls Try.prog 21 #[.pointer (some ⟨rb, 0, none⟩), .int .i64 x] w fun e w' => w' = w ∧ e = .returned (.slice none 0 0) := by
  have c0 := h.c0
  clear h
  go_enter Try.func21, Try.ntmps21
  by_cases hx0 : x < 0
  · go_wp2_with fail
    go_ret
    exact ⟨rfl, rfl⟩
  · have hx2 : (L.length : Int) ≤ x := by omega
    clear hx
    go_wp2_with fail
    go_ret
    exact ⟨rfl, rfl⟩

def rfNext (ls : List Lk) (k : Nat) : Lk × Bool := match ls[k + 1]? with | some x => (x, true) | none => (lk0, false)

set_option maxHeartbeats 1000000 in
theorem rf_next (h : RfRep w B rb gb L) (l : Lk) (h64 : L.length ≤ 64) (hlen : ∀ row, row ∈ L → row.length ≤ 100000) :
    Calls Try.prog 19 #[.pointer (some ⟨rb, 0, none⟩), lv l] w fun e w' => NoW w w' ∧
      ((∃ (n k : Nat) (row : List Lk), e = .returned (.tuple #[lv (rfNext row k).1, .bool (rfNext row k).2, .int .i64 0]) ∧ L[n]? = some row ∧ row[k]? = some l) ∨
       (e = .returned (.tuple #[lv lk0, .bool false, .int .i64 9]) ∧ ∀ row : List Lk, row ∈ L → l ∉ row)) := by
  have H := Lib.hid h
  have Hlen := Lib.hid hlen
  have c0 := h.c0
  have lr := h.ltr
  have lg := h.ltg
  clear h hlen
  obtain ⟨l0, l1, l2⟩ := l
  go_enter Try.func19, Try.ntmps19
  unfold lv
  go_wp2_with fail
  have hpre : NoW w ((w.alloc (.cells #[.int .i64 l0, .int .u32 l1, .bool l2] 53)).alloc (.cells #[.int .i64 0, .int .u32 0, .bool false] 53)) := ((Fp.refl _ _).alloc _).alloc _
  have Hpre := Lib.hid hpre
  clear hpre
  refine (rf_where (H.out.low Hpre.out) (l0, l1, l2) h64 Hlen.out).mono ?_
  rintro e w3 ⟨hf, hpost⟩
  have hw : NoW w w3 := Hpre.out.trans hf (fun _ _ h => h)
  have hb2 := (hf.block (w.heap.size + 1) (by simp) id).trans (heap_alloc_new2 w _ _)
  have k0 : w3.cell? ⟨w.heap.size + 1, 0, none⟩ = some (.int .i64 0) := by simp [World.cell?, hb2]
  have k1 : w3.cell? ⟨w.heap.size + 1, 1, none⟩ = some (.int .u32 0) := by simp [World.cell?, hb2]
  have k2 : w3.cell? ⟨w.heap.size + 1, 2, none⟩ = some (.bool false) := by simp [World.cell?, hb2]
  have z0 : w3.frozen? ⟨w.heap.size + 1, 0, none⟩ = false := by simp [World.frozen?, hb2]
  have z1 : w3.frozen? ⟨w.heap.size + 1, 1, none⟩ = false := by simp [World.frozen?, hb2]
  have z2 : w3.frozen? ⟨w.heap.size + 1, 2, none⟩ = false := by simp [World.frozen?, hb2]
  have lsz : w.heap.size + 1 < w3.heap.size := cell_lt k0
  have Hw := Lib.hid hw
  have Hf := Lib.hid hf
  clear hf hw hb2
  rcases hpost with ⟨n, k, row, rfl, hn, hk⟩ | ⟨rfl, hno⟩
  · have hnl : n < L.length := (List.getElem?_eq_some_iff.1 hn).1
    have hkl : k < row.length := (List.getElem?_eq_some_iff.1 hk).1
    have hr64 := Hlen.out row (List.mem_of_getElem? hn)
    obtain ⟨v, hv, hvr⟩ := (H.out.low Hw.out).row hn
    have d0 := (H.out.low Hw.out).c0
    obtain ⟨a, cap, rfl, hcap, hrd⟩ := hvr.read
    have Hrd := Lib.hid hrd
    have Hn := Lib.hid hn
    have Hk := Lib.hid hk
    clear hrd hn hk hvr c0
    by_cases hlast : k + 1 = row.length
    · have hlast2 : ((k : Int) + 1 == (row.length : Int)) = true := by simp; omega
      have hnx : rfNext row k = (lk0, false) := by simp [rfNext, hlast]
      have Hnx := Lib.hid hnx
      clear hnx
      go_wp2_with fail
      refine bodyPost_ret (v := .tuple #[lv lk0, .bool false, .int .i64 0]) (by simp only [results, Try.results19, lv, lk0]; go_simp) rfl ⟨?_, .inl ⟨n, k, row, by rw [Hnx.out]; rfl, Hn.out, Hk.out⟩⟩
      have := Hw.out
      (repeat (first | exact Fp.refl _ _ | refine Fp.drew ?_ | refine Fp.drewN ?_ _ | refine Fp.alloc ?_ _ | (refine Fp.setCell ?_ (Or.inl (by simp)) _) | (refine Fp.setCell ?_ (Or.inl (by simp; omega)) _) | refine Fp.trans ?_ (by assumption) (fun _ _ h => h)))
    · have hlt2 : k + 1 < row.length := by omega
      have hlast2 : ((k : Int) + 1 == (row.length : Int)) = false := by simp; omega
      obtain ⟨g, rfl, lgg, c0, c1, c2⟩ := Hrd.out (k + 1) hlt2
      have hnx : rfNext row k = (row[k + 1], true) := by simp [rfNext, hlt2]
      have Hnx := Lib.hid hnx
      clear hnx
      generalize row[k + 1] = x at *
      obtain ⟨x0, x1, x2⟩ := x
      dsimp only at c0 c1 c2
      go_wp2_with fail
      refine bodyPost_ret (v := .tuple #[lv (x0, x1, x2), .bool true, .int .i64 0]) (by simp only [results, Try.results19, lv]; go_simp) rfl ⟨?_, .inl ⟨n, k, row, by rw [Hnx.out]; rfl, Hn.out, Hk.out⟩⟩
      have := Hw.out
      (repeat (first | exact Fp.refl _ _ | refine Fp.drew ?_ | refine Fp.drewN ?_ _ | refine Fp.alloc ?_ _ | (refine Fp.setCell ?_ (Or.inl (by simp)) _) | (refine Fp.setCell ?_ (Or.inl (by simp; omega)) _) | refine Fp.trans ?_ (by assumption) (fun _ _ h => h)))
  · have Hno := Lib.hid hno
    clear hno
    go_wp2_with fail
    refine bodyPost_ret (v := .tuple #[lv lk0, .bool false, .int .i64 9]) (by simp only [results, Try.results19, lv, lk0]; go_simp) rfl ⟨?_, .inr ⟨rfl, Hno.out⟩⟩
    have := Hw.out
    (repeat (first | exact Fp.refl _ _ | refine Fp.drew ?_ | refine Fp.drewN ?_ _ | refine Fp.alloc ?_ _ | (refine Fp.setCell ?_ (Or.inl (by simp)) _) | (refine Fp.setCell ?_ (Or.inl (by simp; omega)) _) | refine Fp.trans ?_ (by assumption) (fun _ _ h => h)))
end
end Go.Proofs.Ytmhjdjndckeepaa
