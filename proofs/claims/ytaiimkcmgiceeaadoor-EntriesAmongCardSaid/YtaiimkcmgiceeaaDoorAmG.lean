/- Chapter 18, EntriesAmong: the document's Sort (written by genamg.py). -/
import Derived.Test.YtaiimkcmgiceeaaDoorAmE
import Derived.Test.YtaiimkcmgiceeaaDoorAmC
namespace Go.Proofs.YtaiimkcmgiceeaaDoor
set_option linter.unusedVariables false
set_option linter.unusedSimpArgs false
open Go.RowKit Go.Lib Go.Sort
def flatL (F : Nat → EntD) (L : List Nat) : List Value := L.flatMap fun i => (F i).cs
theorem flatL_len (F : Nat → EntD) (L : List Nat) : (flatL F L).length = L.length * 13 := by
  induction L with
  | nil => rfl
  | cons x L ih => simp only [flatL, List.flatMap_cons, List.length_append] at ih ⊢; rw [ih]; simp [EntD.cs]; omega
theorem flatL_app (F : Nat → EntD) (L M : List Nat) : flatL F (L ++ M) = flatL F L ++ flatL F M := List.flatMap_append
theorem flatL_one (F : Nat → EntD) (L : List Nat) : ∀ u ∈ flatL F L, u.oneCell' = true := by
  intro u hu
  obtain ⟨i, _, h⟩ := List.mem_flatMap.1 hu
  exact cs_one _ u h
theorem flatL_take (F : Nat → EntD) (L : List Nat) (k j : Nat) (u : Value) (h : (flatL F (L.take k))[j]? = some u) : (flatL F L)[j]? = some u := by
  rw [← List.take_append_drop k L, flatL_app, List.getElem?_append_left (List.getElem?_eq_some_iff.1 h).1]; exact h
theorem flatL_drop (F : Nat → EntD) (L : List Nat) (k j : Nat) (u : Value) (hk : k ≤ L.length) (h : (flatL F (L.drop k))[j]? = some u) : (flatL F L)[k * 13 + j]? = some u := by
  have hl : (flatL F (L.take k)).length = k * 13 := by rw [flatL_len, List.length_take]; congr 1; omega
  conv => lhs; rw [← List.take_append_drop k L]
  rw [flatL_app, List.getElem?_append_right (by omega), hl, show k * 13 + j - k * 13 = j by omega]; exact h
theorem flatL_get (F : Nat → EntD) (L : List Nat) (i j : Nat) (v : Value) (hi : i < L.length) (hj : (F L[i]!).cs[j]? = some v) : (flatL F L)[i * 13 + j]? = some v := by
  refine flatL_drop F L i j v (by omega) ?_
  rw [List.drop_eq_getElem_cons hi]
  have e : L[i]! = L[i] := by simp [getElem!_def, hi]
  rw [e] at hj
  show ((F L[i]).cs ++ flatL F (L.drop (i + 1)))[j]? = some v
  rw [List.getElem?_append_left (List.getElem?_eq_some_iff.1 hj).1]; exact hj
def keyF (F : Nat → EntD) (i : Nat) : Nat := (F i).key
/-- In order, of the first i. -/
structure Ins (F : Nat → EntD) (L : List Nat) (i : Nat) : Prop where
  perm : L.Perm (List.range i)
  sorted : ∀ p q, p < q → q < L.length → lexB (keyF F) L[q]! L[p]! = false
theorem Ins.len {F : Nat → EntD} {L : List Nat} {i : Nat} (h : Ins F L i) : L.length = i := by simpa using h.perm.length_eq
theorem Ins.lt {F : Nat → EntD} {L : List Nat} {i : Nat} (h : Ins F L i) (p : Nat) (hp : p < L.length) : L[p]! < i := by
  have e : L[p]! = L[p] := by simp [getElem!_def, hp]
  rw [e]
  have := h.perm.mem_iff.1 (List.getElem_mem hp)
  simpa using this
theorem ins_get (L : List Nat) (k x p : Nat) (hk : k ≤ L.length) (hp : p < L.length + 1) : (L.take k ++ [x] ++ L.drop k)[p]! = if p < k then L[p]! else if p = k then x else L[p - 1]! := by
  have hl : (L.take k ++ [x]).length = k + 1 := by simp; omega
  simp only [getElem!_def]
  by_cases h1 : p < k
  · rw [if_pos h1, List.getElem?_append_left (by omega), List.getElem?_append_left (by simp; omega), List.getElem?_take_of_lt h1]
  · rw [if_neg h1]
    by_cases h2 : p = k
    · rw [if_pos h2, List.getElem?_append_left (by omega), List.getElem?_append_right (by simp; omega)]
      have : p - (L.take k).length = 0 := by simp; omega
      rw [this]; simp
    · rw [if_neg h2, List.getElem?_append_right (by omega), hl, List.getElem?_drop, show k + (p - (k + 1)) = p - 1 by omega]
theorem Ins.step {F : Nat → EntD} {L : List Nat} {i k : Nat} (h : Ins F L i) (hk : k ≤ i) (h1 : ∀ j, k ≤ j → j < i → keyF F i < keyF F L[j]!) (h2 : 0 < k → keyF F L[k - 1]! ≤ keyF F i) : Ins F (L.take k ++ [i] ++ L.drop k) (i + 1) := by
  have hl := h.len
  refine ⟨?_, fun p q hpq hq => ?_⟩
  · rw [List.range_succ]
    have e : (L.take k ++ [i] ++ L.drop k).Perm (L.take k ++ L.drop k ++ [i]) := by
      rw [List.append_assoc, List.append_assoc]
      exact List.Perm.append_left _ List.perm_append_comm
    rw [List.take_append_drop] at e
    exact e.trans (List.Perm.append_right _ h.perm)
  · have hq' : q < L.length + 1 := by simp at hq; omega
    rw [ins_get L k i p (by omega) (by omega), ins_get L k i q (by omega) hq']
    have low : ∀ j, j < k → keyF F L[j]! ≤ keyF F i := fun j hj => by
      by_cases e : j = k - 1
      · rw [e]; exact h2 (by omega)
      · have := h.sorted j (k - 1) (by omega) (by omega)
        have h3 := h2 (by omega)
        simp only [lexB, decide_eq_false_iff_not] at this; omega
    by_cases c1 : q < k
    · rw [if_pos c1, if_pos (by omega)]; exact h.sorted p q hpq (by omega)
    · rw [if_neg c1]
      by_cases c2 : q = k
      · rw [if_pos c2, if_pos (by omega)]
        have a1 := low p (by omega)
        have a2 := h.lt p (by omega)
        simp only [lexB, decide_eq_false_iff_not]; omega
      · rw [if_neg c2]
        by_cases c3 : p < k
        · rw [if_pos c3]; exact h.sorted p (q - 1) (by omega) (by omega)
        · rw [if_neg c3]
          by_cases c4 : p = k
          · rw [if_pos c4]
            have a1 := h1 (q - 1) (by omega) (by omega)
            simp only [lexB, decide_eq_false_iff_not]; omega
          · rw [if_neg c4]; exact h.sorted (p - 1) (q - 1) (by omega) (by omega)
theorem op_append_none {P : Program} {w : World} {o : Oper} {a : Act} {K : Act → World → Prop} {Q : Exit → Act → World → Prop} (s x : Operand) (t : TypeId)
    (ho : o.op = .call { callee := .builtin .append, args := #[s, x], argTypes := #[t, t] })
    (base : Nat) (e : TypeId) (z : Value) (size : Nat) (ht : P.underlying t = some (.slice e)) (hi : ∃ i, P.info? e = some i ∧ i.zero = some z ∧ i.size = size ∧ i.bytes ≤ 65536)
    (v : Value) (n : Nat) (xs : List Value) (hs : a.eval s = v) (hown : w.ownsRow base e size v n xs) (hx : a.eval x = .slice none 0 0)
    (h : K (a.put o.dst v) w) : Oper.wp P o a w K Q := by
  obtain ⟨i, hi, hz, rfl, hb⟩ := hi
  have hrun := run_append_owned_none (P := P) (w := w) base t o.type e i i.size ht hi v n xs hown
  unfold Oper.wp
  simp [execOp, ho, resolve, invoke, builtin, hs, hx, hrun, Result.andThen]
  exact h
theorem ows_cast {w : World} {B : Nat} {T : TypeId} {v : Value} {n m m' : Nat} {xs : List Value} (e : m = m') (h : w.ownsRow B T 13 v (n + m) xs) : w.ownsRow B T 13 v (n + m') xs := e ▸ h
theorem row_one {w : World} {T : TypeId} {v : Value} {F : Nat → EntD} {i B : Nat} (h : w.ownsRow B T 13 v (0 + 1) ([] ++ (F i).cs)) : w.ownsRow B T 13 v ([i] : List Nat).length (flatL F [i]) := by
  have e : flatL F [i] = [] ++ (F i).cs := by simp [flatL]
  rw [e]; exact h
theorem row_ins {w : World} {T : TypeId} {v : Value} {F : Nat → EntD} {L : List Nat} {i k B : Nat} (hl : L.length = i) (hk : k ≤ i) (h : w.ownsRow B T 13 v (0 + k + 1 + (i - k)) (([] ++ flatL F (L.take k)) ++ (F i).cs ++ flatL F (L.drop k))) :
    w.ownsRow B T 13 v (L.take k ++ [i] ++ L.drop k).length (flatL F (L.take k ++ [i] ++ L.drop k)) := by
  have e9 : flatL F (L.take k ++ [i] ++ L.drop k) = ([] ++ flatL F (L.take k)) ++ (F i).cs ++ flatL F (L.drop k) := by rw [flatL_app, flatL_app]; simp [flatL]
  have e8 : (L.take k ++ [i] ++ L.drop k).length = 0 + k + 1 + (i - k) := by simp; omega
  rw [e9, e8]; exact h
set_option maxHeartbeats 16000000 in
set_option maxRecDepth 100000 in
theorem rsort_ok (sl : Option Addr) (n c : Nat) (F : Nat → EntD) (hn : n ≤ 100) (w : World) (hE : Ents w sl n F) :
    Calls Tryd.prog 8 #[.slice sl n c] w fun e w' => ∃ v L, e = .returned v ∧ Ins F L n ∧ w'.ownsRow w.heap.size 45 13 v L.length (flatL F L) ∧ NoW w w' := by
  have HE := Lib.hid hE
  clear hE
  go_enter Tryd.func8, Tryd.ntmps8
  go_wp2_with fail
  go_loopg [3, 4] (n + 1) (fun gg v3 iv wx => ∃ (i : Nat) (L : List Nat) (vv : Value), i ≤ n ∧ gg = n + 1 - i ∧ iv = .int .i64 (i : Int) ∧ vv = v3 ∧ wx.ownsRow w.heap.size 45 13 vv L.length (flatL F L) ∧ Ins F L i ∧ (i = 0 → vv = .slice none 0 0) ∧ NoW w wx)
  case atStart => exact ⟨0, [], .slice none 0 0, by omega, by omega, rfl, rfl, World.ownsRow_nil _ _ _ 13, ⟨List.Perm.refl _, fun p q h1 h2 => by simp at h2⟩, fun _ => rfl, Fp.refl _ _⟩
  case round =>
    obtain ⟨i, L, vv, hi, hg, rfl, rfl, hrow, hI, hz, hf⟩ := hrel
    obtain ⟨wo, rfl⟩ : ∃ wo, wo = wr := ⟨wr, rfl⟩
    have Hg := Lib.hid hg
    have HN := Lib.hid hf
    have HI := Lib.hid hI
    have HR0 := Lib.hid hrow
    have HZ := Lib.hid hz
    clear hg hf hI hrow hz
    by_cases hlt : i < n
    · obtain ⟨b0, o0, rfl, xc⟩ := (HE.out.low HN.out).at' i hlt
      have oki := HE.out.ok i hlt
      have hkk : decide ((i : Int) < (n : Int)) = true := decide_eq_true (by omega)
      have XC := Lib.hid xc
      have LB := Lib.hid (cell_lt (xc 0 _ rfl))
      clear xc
      by_cases hi0 : i = 0
      · skip
        have hL0 : L = [] := List.eq_nil_of_length_eq_zero (by have := HI.out.len; omega)
        obtain rfl : vv = .slice none 0 0 := HZ.out hi0
        clear HZ
        have HX := Lib.hid (Fp.refl (fun _ => False) wo)
        subst hL0
        have HI0 := Lib.hid hi0
        clear hi0
        go_wp2_with fail
        refine wp_loop_rounds 1 ?_
        rw [rounds_succ]
        go_upto_region 6 with fail
        refine wp_region_held_drew (S := fun wx => NoW wo wx) (by kernel_rfl) (Fp.drew (Fp.refl _ _)) (fun hHeld0 => ?_)
        refine any_eq hHeld0 (fun v1 hW hHeld => ?_)
        clear hHeld0
        clear hW
        (refine take_at 0 (some 14) rfl rfl (by kernel_rfl) (by kernel_rfl) (by kernel_rfl) (fun _ _ _ h => h) (v := ?_) (by kernel_rfl) ?_ (by assumption) ?_; rotate_left; (focus (intro wS hSw; skip; go_simp; try with_reducible rfl)); (try simp only [Act.put, List.setIfInBounds_toArray, List.set_cons_zero, List.set_cons_succ]))
        (refine take_at 1 (some 15) rfl rfl (by kernel_rfl) (by kernel_rfl) (by kernel_rfl) (fun _ _ _ h => h) (v := ?_) (by kernel_rfl) ?_ (by assumption) ?_; rotate_left; (focus (intro wS hSw; skip; go_simp; try with_reducible rfl)); (try simp only [Act.put, List.setIfInBounds_toArray, List.set_cons_zero, List.set_cons_succ]))
        (refine take_at 2 (some 16) rfl rfl (by kernel_rfl) (by kernel_rfl) (by kernel_rfl) (fun _ _ _ h => h) (v := ?_) (by kernel_rfl) ?_ (by assumption) ?_; rotate_left; (focus (intro wS hSw; skip; go_simp; try with_reducible rfl)); (try simp only [Act.put, List.setIfInBounds_toArray, List.set_cons_zero, List.set_cons_succ]))
        (refine drop_at 3 (some 17) rfl rfl (by kernel_rfl) (by kernel_rfl) (by kernel_rfl) (fun _ _ _ h => h) (by kernel_rfl) (by assumption) ?_; (try simp only [Act.put, List.setIfInBounds_toArray, List.set_cons_zero, List.set_cons_succ]))
        (refine drop_at 4 (some 18) rfl rfl (by kernel_rfl) (by kernel_rfl) (by kernel_rfl) (fun _ _ _ h => h) (by kernel_rfl) (by assumption) ?_; (try simp only [Act.put, List.setIfInBounds_toArray, List.set_cons_zero, List.set_cons_succ]))
        (refine drop_at 5 (some 19) rfl rfl (by kernel_rfl) (by kernel_rfl) (by kernel_rfl) (fun _ _ _ h => h) (by kernel_rfl) (by assumption) ?_; (try simp only [Act.put, List.setIfInBounds_toArray, List.set_cons_zero, List.set_cons_succ]))
        (refine drop_at 6 (some 20) rfl rfl (by kernel_rfl) (by kernel_rfl) (by kernel_rfl) (fun _ _ _ h => h) (by kernel_rfl) (by assumption) ?_; (try simp only [Act.put, List.setIfInBounds_toArray, List.set_cons_zero, List.set_cons_succ]))
        (refine drop_at 7 (some 21) rfl rfl (by kernel_rfl) (by kernel_rfl) (by kernel_rfl) (fun _ _ _ h => h) (by kernel_rfl) (by assumption) ?_; (try simp only [Act.put, List.setIfInBounds_toArray, List.set_cons_zero, List.set_cons_succ]))
        (refine drop_at 8 (some 22) rfl rfl (by kernel_rfl) (by kernel_rfl) (by kernel_rfl) (fun _ _ _ h => h) (by kernel_rfl) (by assumption) ?_; (try simp only [Act.put, List.setIfInBounds_toArray, List.set_cons_zero, List.set_cons_succ]))
        (refine drop_at 9 (some 23) rfl rfl (by kernel_rfl) (by kernel_rfl) (by kernel_rfl) (fun _ _ _ h => h) (by kernel_rfl) (by assumption) ?_; (try simp only [Act.put, List.setIfInBounds_toArray, List.set_cons_zero, List.set_cons_succ]))
        (refine drop_at 10 (some 24) rfl rfl (by kernel_rfl) (by kernel_rfl) (by kernel_rfl) (fun _ _ _ h => h) (by kernel_rfl) (by assumption) ?_; (try simp only [Act.put, List.setIfInBounds_toArray, List.set_cons_zero, List.set_cons_succ]))
        (refine drop_at 11 (some 25) rfl rfl (by kernel_rfl) (by kernel_rfl) (by kernel_rfl) (fun _ _ _ h => h) (by kernel_rfl) (by assumption) ?_; (try simp only [Act.put, List.setIfInBounds_toArray, List.set_cons_zero, List.set_cons_succ]))
        (refine drop_at 12 (some 26) rfl rfl (by kernel_rfl) (by kernel_rfl) (by kernel_rfl) (fun _ _ _ h => h) (by kernel_rfl) (by assumption) ?_; (try simp only [Act.put, List.setIfInBounds_toArray, List.set_cons_zero, List.set_cons_succ]))
        (refine drop_at 13 (some 27) rfl rfl (by kernel_rfl) (by kernel_rfl) (by kernel_rfl) (fun _ _ _ h => h) (by kernel_rfl) (by assumption) ?_; (try simp only [Act.put, List.setIfInBounds_toArray, List.set_cons_zero, List.set_cons_succ]))
        (refine drop_at 14 (some 28) rfl rfl (by kernel_rfl) (by kernel_rfl) (by kernel_rfl) (fun _ _ _ h => h) (by kernel_rfl) (by assumption) ?_; (try simp only [Act.put, List.setIfInBounds_toArray, List.set_cons_zero, List.set_cons_succ]))
        (refine take_at 15 (some 29) rfl rfl (by kernel_rfl) (by kernel_rfl) (by kernel_rfl) (fun _ _ _ h => h) (v := ?_) (by kernel_rfl) ?_ (by assumption) ?_; rotate_left; (focus (intro wS hSw; skip; go_simp; try with_reducible rfl)); (try simp only [Act.put, List.setIfInBounds_toArray, List.set_cons_zero, List.set_cons_succ]))
        refine wpAnyH_done (by kernel_rfl) ?_ _
        replace HX := Lib.hid (HX.out.trans hHeld (fun _ _ h => h))
        have hGe := hid_ge HN
        replace HN := hid_now HN hHeld
        clear hHeld hGe
        have xc := fun j v hv => (HX.out.cell (p := ⟨b0, o0 + i * 13 + j, none⟩) LB.out id).trans (XC.out j v hv)
        have x0 : v1.cell? ⟨b0, o0 + i * 13, none⟩ = some (.int .u8 (F i).r) := xc 0 _ rfl
        have x1 : v1.cell? ⟨b0, o0 + i * 13 + 1, none⟩ = some (.int .u32 (F i).a) := xc 1 _ rfl
        have x2 : v1.cell? ⟨b0, o0 + i * 13 + 2, none⟩ = some (.int .u16 (F i).p) := xc 2 _ rfl
        have x3 : v1.cell? ⟨b0, o0 + i * 13 + 3, none⟩ = some (.int .u32 (F i).b) := xc 3 _ rfl
        have x4 : v1.cell? ⟨b0, o0 + i * 13 + 4, none⟩ = some (.int .u16 (F i).q) := xc 4 _ rfl
        have x5 : v1.cell? ⟨b0, o0 + i * 13 + 5, none⟩ = some (.int .u8 (F i).r2) := xc 5 _ rfl
        have x6 : v1.cell? ⟨b0, o0 + i * 13 + 6, none⟩ = some (.int .u32 (F i).a2) := xc 6 _ rfl
        have x7 : v1.cell? ⟨b0, o0 + i * 13 + 7, none⟩ = some (.int .u16 (F i).p2) := xc 7 _ rfl
        have x8 : v1.cell? ⟨b0, o0 + i * 13 + 8, none⟩ = some (.int .u32 (F i).b2) := xc 8 _ rfl
        have x9 : v1.cell? ⟨b0, o0 + i * 13 + 9, none⟩ = some (.int .u16 (F i).q2) := xc 9 _ rfl
        have x10 : v1.cell? ⟨b0, o0 + i * 13 + 10, none⟩ = some (.int .i64 (F i).st) := xc 10 _ rfl
        have x11 : v1.cell? ⟨b0, o0 + i * 13 + 11, none⟩ = some (.int .i64 (F i).dl) := xc 11 _ rfl
        have x12 : v1.cell? ⟨b0, o0 + i * 13 + 12, none⟩ = some (.slice (F i).ad (F i).n (F i).c) := xc 12 _ rfl
        have lb : b0 < v1.heap.size := Nat.lt_of_lt_of_le LB.out (Fp.size HX.out)
        clear xc
        go_upto_region 8 with fail
        refine wp_region_held_drew (S := fun wx => NoW v1 wx) (by kernel_rfl) (Fp.drew (Fp.refl _ _)) (fun hHeld0 => ?_)
        refine any_eq hHeld0 (fun t51 hW hHeld => ?_)
        clear hHeld0
        clear hW
        (refine take_at 0 (some 32) rfl rfl (by kernel_rfl) (by kernel_rfl) (by kernel_rfl) (fun _ _ _ h => h) (v := ?_) (by kernel_rfl) ?_ (by assumption) ?_; rotate_left; (focus (intro wS hSw; skip; go_simp; try with_reducible rfl)); (try simp only [Act.put, List.setIfInBounds_toArray, List.set_cons_zero, List.set_cons_succ]))
        (refine take_at 1 (some 33) rfl rfl (by kernel_rfl) (by kernel_rfl) (by kernel_rfl) (fun _ _ _ h => h) (v := ?_) (by kernel_rfl) ?_ (by assumption) ?_; rotate_left; (focus (intro wS hSw; skip; go_simp; try with_reducible rfl)); (try simp only [Act.put, List.setIfInBounds_toArray, List.set_cons_zero, List.set_cons_succ]))
        (refine take_at 2 (some 34) rfl rfl (by kernel_rfl) (by kernel_rfl) (by kernel_rfl) (fun _ _ _ h => h) (v := ?_) (by kernel_rfl) ?_ (by assumption) ?_; rotate_left; (focus (intro wS hSw; skip; go_simp; try with_reducible rfl)); (try simp only [Act.put, List.setIfInBounds_toArray, List.set_cons_zero, List.set_cons_succ]))
        (refine take_at 4 (some 36) rfl rfl (by kernel_rfl) (by kernel_rfl) (by kernel_rfl) (fun _ _ _ h => h) (v := ?_) (by kernel_rfl) ?_ (by assumption) ?_; rotate_left; (focus (intro wS hSw; skip; go_simp; try with_reducible rfl)); (try simp only [Act.put, List.setIfInBounds_toArray, List.set_cons_zero, List.set_cons_succ]))
        (refine take_at 5 (some 37) rfl rfl (by kernel_rfl) (by kernel_rfl) (by kernel_rfl) (fun _ _ _ h => h) (v := ?_) (by kernel_rfl) ?_ (by assumption) ?_; rotate_left; (focus (intro wS hSw; skip; go_simp; try with_reducible rfl)); (try simp only [Act.put, List.setIfInBounds_toArray, List.set_cons_zero, List.set_cons_succ]))
        (refine take_at 6 (some 38) rfl rfl (by kernel_rfl) (by kernel_rfl) (by kernel_rfl) (fun _ _ _ h => h) (v := ?_) (by kernel_rfl) ?_ (by assumption) ?_; rotate_left; (focus (intro wS hSw; skip; go_simp; try with_reducible rfl)); (try simp only [Act.put, List.setIfInBounds_toArray, List.set_cons_zero, List.set_cons_succ]))
        (refine take_at 7 (some 39) rfl rfl (by kernel_rfl) (by kernel_rfl) (by kernel_rfl) (fun _ _ _ h => h) (v := ?_) (by kernel_rfl) ?_ (by assumption) ?_; rotate_left; (focus (intro wS hSw; (have q0 := (hSw.cell (p := ⟨b0, o0 + i * 13, none⟩) lb id).trans x0); (have q1 := (hSw.cell (p := ⟨b0, o0 + i * 13 + 1, none⟩) lb id).trans x1); (have q2 := (hSw.cell (p := ⟨b0, o0 + i * 13 + 2, none⟩) lb id).trans x2); (have q3 := (hSw.cell (p := ⟨b0, o0 + i * 13 + 3, none⟩) lb id).trans x3); (have q4 := (hSw.cell (p := ⟨b0, o0 + i * 13 + 4, none⟩) lb id).trans x4); (have q5 := (hSw.cell (p := ⟨b0, o0 + i * 13 + 5, none⟩) lb id).trans x5); (have q6 := (hSw.cell (p := ⟨b0, o0 + i * 13 + 6, none⟩) lb id).trans x6); (have q7 := (hSw.cell (p := ⟨b0, o0 + i * 13 + 7, none⟩) lb id).trans x7); (have q8 := (hSw.cell (p := ⟨b0, o0 + i * 13 + 8, none⟩) lb id).trans x8); (have q9 := (hSw.cell (p := ⟨b0, o0 + i * 13 + 9, none⟩) lb id).trans x9); (have q10 := (hSw.cell (p := ⟨b0, o0 + i * 13 + 10, none⟩) lb id).trans x10); (have q11 := (hSw.cell (p := ⟨b0, o0 + i * 13 + 11, none⟩) lb id).trans x11); (have q12 := (hSw.cell (p := ⟨b0, o0 + i * 13 + 12, none⟩) lb id).trans x12); go_simp; try with_reducible rfl)); (try simp only [Act.put, List.setIfInBounds_toArray, List.set_cons_zero, List.set_cons_succ]))
        (refine take_at 10 (some 42) rfl rfl (by kernel_rfl) (by kernel_rfl) (by kernel_rfl) (fun _ _ _ h => h) (v := ?_) (by kernel_rfl) ?_ (by assumption) ?_; rotate_left; (focus (intro wS hSw; skip; go_simp; try with_reducible rfl)); (try simp only [Act.put, List.setIfInBounds_toArray, List.set_cons_zero, List.set_cons_succ]))
        (refine take_at 11 (some 43) rfl rfl (by kernel_rfl) (by kernel_rfl) (by kernel_rfl) (fun _ _ _ h => h) (v := ?_) (by kernel_rfl) ?_ (by assumption) ?_; rotate_left; (focus (intro wS hSw; skip; go_simp; try with_reducible rfl)); (try simp only [Act.put, List.setIfInBounds_toArray, List.set_cons_zero, List.set_cons_succ]))
        (refine take_at 12 (some 44) rfl rfl (by kernel_rfl) (by kernel_rfl) (by kernel_rfl) (fun _ _ _ h => h) (v := ?_) (by kernel_rfl) ?_ (by assumption) ?_; rotate_left; (focus (intro wS hSw; skip; go_simp; try with_reducible rfl)); (try simp only [Act.put, List.setIfInBounds_toArray, List.set_cons_zero, List.set_cons_succ]))
        refine wpAnyH_ready (rs := [3, 8]) (by kernel_rfl) (by simp) ?_
        refine AllReadyH.cons rfl (fun K hK => ?_) (AllReadyH.cons rfl (fun K hK => ?_) AllReadyH.nil)
        · rw [if_pos (by kernel_rfl)]
          refine op_append_none _ _ 35 rfl t51.heap.size 45 entZ 13 Tryd.underlying35 infoREnt (.slice none 0 0) 0 [] rfl (World.ownsRow_nil _ _ _ 13) rfl ?_
          refine k_now hK hHeld ?_
          clear hK K
          try simp only [Act.put, List.setIfInBounds_toArray, List.set_cons_zero, List.set_cons_succ]
          have O1 := Lib.hid (show t51.ownsRow v1.heap.size 45 13 (.slice none 0 0) 0 [] from World.ownsRow_nil _ _ _ 13)
          refine wpAnyH_ready (rs := [8]) (by kernel_rfl) (by simp) ?_
          refine AllReadyH.cons rfl (fun K hK => ?_) AllReadyH.nil
          go_simp
          refine k_gen hK (fun t53 hW => ?_)
          have hp := new_now hW
          have hB := new_blk hW
          clear hW
          have hn := Fp.trans hHeld hp (fun _ _ h => h.elim)
          refine ⟨hn, ?_⟩
          have Ggb := Lib.hid (show ¬ ((.slice none 0 0) : Value).ownBlock = some t51.heap.size from fun e => by cases e)
          replace O1 := Lib.hid (ownsRow_of_block O1.out (fun x e => hp.block x (World.ownsRow.lt O1.out x e).2 id))
          clear hK K hHeld
          have hHeld := hn
          clear hn
          try simp only [Act.put, List.setIfInBounds_toArray, List.set_cons_zero, List.set_cons_succ]
          obtain ⟨gb, hgb⟩ : ∃ gb, gb = t51.heap.size := ⟨_, rfl⟩
          rw [← hgb] at hB Ggb ⊢
          have B_gb := hB
          clear hB hgb hp
          refine wpAnyH_ready (rs := [9]) (by kernel_rfl) (by simp) ?_
          refine AllReadyH.cons rfl (fun K hK => ?_) AllReadyH.nil
          rw [if_pos (by kernel_rfl)]
          refine op_append_at _ _ 35 rfl v1.heap.size 45 entZ 13 Tryd.underlying35 infoREnt rfl (by decide) (.slice none 0 0) 0 [] rfl O1.out ⟨gb, 0, none⟩ 1 1 (F i).cs rfl rfl ?_ (cs_one _) (by omega) (Fp.size hHeld) ?_
          · intro j u hj; rw [add_eq]; simp only [World.cell?, B_gb.out, Nat.zero_add]; simpa [EntD.cs] using hj
          intro u2 t54 hown hgr _
          have hn := hHeld.grown hgr (fun x e => Or.inl (World.ownsRow.lt O1.out x e).1)
          have O2 := Lib.hid hown
          refine k_now hK hn ?_
          clear hK K hgr hHeld hown
          have hHeld := hn
          clear hn
          try simp only [Act.put, List.setIfInBounds_toArray, List.set_cons_zero, List.set_cons_succ]
          refine wpAnyH_ready (rs := [13]) (by kernel_rfl) (by simp) ?_
          refine AllReadyH.cons rfl (fun K hK => ?_) AllReadyH.nil
          rw [if_pos (by kernel_rfl)]
          refine op_append_none _ _ 35 rfl v1.heap.size 45 entZ 13 Tryd.underlying35 infoREnt u2 (0 + 1) ([] ++ (F i).cs) rfl O2.out rfl ?_
          refine k_now hK hHeld ?_
          clear hK K
          try simp only [Act.put, List.setIfInBounds_toArray, List.set_cons_zero, List.set_cons_succ]
          have O3 := O2
          (refine take_at 14 (some 3) rfl rfl (by kernel_rfl) (by kernel_rfl) (by kernel_rfl) (fun _ _ _ h => h) (v := ?_) (by kernel_rfl) ?_ (by assumption) ?_; rotate_left; (focus (intro wS hSw; skip; go_simp; try with_reducible rfl)); (try simp only [Act.put, List.setIfInBounds_toArray, List.set_cons_zero, List.set_cons_succ]))
          refine wpAnyH_done (by kernel_rfl) ?_ _
          clear x0 x1 x2 x3 x4 x5 x6 x7 x8 x9 x10 x11 x12
          have HNx := Lib.hid (HN.out.trans hHeld (fun _ _ h => h))
          have HBw := Lib.hid (Fp.size HN.out)
          clear hHeld
          have HS := Lib.hid (show Ins F [i] (i + 1) from by have h := HI.out.step (k := 0) (Nat.zero_le _) (fun j _ h => by have h0 := HI0.out; omega) (fun h => by omega); simpa using h)
          have HR := Lib.hid (ownsRow_mono (B' := w.heap.size) (row_one O3.out) HBw.out)
          clear O1 O2 O3 Ggb
          go_wp2_with fail
          go_roundg (n - i)
          case measure => have := Hg.out; omega
          case rel => exact ⟨i + 1, _, _, by omega, by omega, by go_num, rfl, HR.out, HS.out, fun h => by omega, HNx.out⟩
        · go_simp
          refine k_gen hK (fun t56 hW => ?_)
          have hp := new_now hW
          have hB := new_blk hW
          clear hW
          have hn := Fp.trans hHeld hp (fun _ _ h => h.elim)
          refine ⟨hn, ?_⟩
          clear hK K hHeld
          have hHeld := hn
          clear hn
          try simp only [Act.put, List.setIfInBounds_toArray, List.set_cons_zero, List.set_cons_succ]
          obtain ⟨gb, hgb⟩ : ∃ gb, gb = t51.heap.size := ⟨_, rfl⟩
          rw [← hgb] at hB ⊢
          have B_gb := hB
          have Lgb := Lib.hid (show gb < t56.heap.size from hid_lt B_gb)
          clear hB hgb hp
          refine wpAnyH_ready (rs := [3]) (by kernel_rfl) (by simp) ?_
          refine AllReadyH.cons rfl (fun K hK => ?_) AllReadyH.nil
          rw [if_pos (by kernel_rfl)]
          refine op_append_none _ _ 35 rfl t56.heap.size 45 entZ 13 Tryd.underlying35 infoREnt (.slice none 0 0) 0 [] rfl (World.ownsRow_nil _ _ _ 13) rfl ?_
          refine k_now hK hHeld ?_
          clear hK K
          try simp only [Act.put, List.setIfInBounds_toArray, List.set_cons_zero, List.set_cons_succ]
          have O1 := Lib.hid (show t56.ownsRow v1.heap.size 45 13 (.slice none 0 0) 0 [] from World.ownsRow_nil _ _ _ 13)
          have Ggb := Lib.hid (show ¬ (Value.slice none 0 0).ownBlock = some gb from fun e => by cases e)
          refine wpAnyH_ready (rs := [9]) (by kernel_rfl) (by simp) ?_
          refine AllReadyH.cons rfl (fun K hK => ?_) AllReadyH.nil
          rw [if_pos (by kernel_rfl)]
          refine op_append_at _ _ 35 rfl v1.heap.size 45 entZ 13 Tryd.underlying35 infoREnt rfl (by decide) (.slice none 0 0) 0 [] rfl O1.out ⟨gb, 0, none⟩ 1 1 (F i).cs rfl rfl ?_ (cs_one _) (by omega) (Fp.size hHeld) ?_
          · intro j u hj; rw [add_eq]; simp only [World.cell?, B_gb.out, Nat.zero_add]; simpa [EntD.cs] using hj
          intro u2 t58 hown hgr _
          have hn := hHeld.grown hgr (fun x e => Or.inl (World.ownsRow.lt O1.out x e).1)
          have O2 := Lib.hid hown
          refine k_now hK hn ?_
          clear hK K hgr hHeld hown
          have hHeld := hn
          clear hn
          try simp only [Act.put, List.setIfInBounds_toArray, List.set_cons_zero, List.set_cons_succ]
          refine wpAnyH_ready (rs := [13]) (by kernel_rfl) (by simp) ?_
          refine AllReadyH.cons rfl (fun K hK => ?_) AllReadyH.nil
          rw [if_pos (by kernel_rfl)]
          refine op_append_none _ _ 35 rfl v1.heap.size 45 entZ 13 Tryd.underlying35 infoREnt u2 (0 + 1) ([] ++ (F i).cs) rfl O2.out rfl ?_
          refine k_now hK hHeld ?_
          clear hK K
          try simp only [Act.put, List.setIfInBounds_toArray, List.set_cons_zero, List.set_cons_succ]
          have O3 := O2
          (refine take_at 14 (some 3) rfl rfl (by kernel_rfl) (by kernel_rfl) (by kernel_rfl) (fun _ _ _ h => h) (v := ?_) (by kernel_rfl) ?_ (by assumption) ?_; rotate_left; (focus (intro wS hSw; skip; go_simp; try with_reducible rfl)); (try simp only [Act.put, List.setIfInBounds_toArray, List.set_cons_zero, List.set_cons_succ]))
          refine wpAnyH_done (by kernel_rfl) ?_ _
          clear x0 x1 x2 x3 x4 x5 x6 x7 x8 x9 x10 x11 x12
          have HNx := Lib.hid (HN.out.trans hHeld (fun _ _ h => h))
          have HBw := Lib.hid (Fp.size HN.out)
          clear hHeld
          have HS := Lib.hid (show Ins F [i] (i + 1) from by have h := HI.out.step (k := 0) (Nat.zero_le _) (fun j _ h => by have h0 := HI0.out; omega) (fun h => by omega); simpa using h)
          have HR := Lib.hid (ownsRow_mono (B' := w.heap.size) (row_one O3.out) HBw.out)
          clear O1 O2 O3 Ggb
          go_wp2_with fail
          go_roundg (n - i)
          case measure => have := Hg.out; omega
          case rel => exact ⟨i + 1, _, _, by omega, by omega, by go_num, rfl, HR.out, HS.out, fun h => by omega, HNx.out⟩
      · obtain ⟨g, cap, rfl, hcap, hCR, hLG⟩ : ∃ g cap, vv = .slice (some ⟨g, 0, none⟩) i cap ∧ i ≤ cap ∧ (∀ (j : Nat) (u : Value), (flatL F L)[j]? = some u → wo.cell? ⟨g, 0 + j, none⟩ = some u) ∧ g < wo.heap.size := by
          have hl := HI.out.len
          have hr := HR0.out
          rcases hr.2 with ⟨_, h⟩ | ⟨g, cap, cur, e, _, hh, h1, _⟩
          · omega
          · refine ⟨g, cap, by rw [e, hl], by omega, fun j u hj => ?_, (Array.getElem?_eq_some_iff.1 hh).1⟩
            have := World.ownsRow.cells hr (by rw [e]; rfl) j u hj
            rwa [add_eq] at this
        have CRo := Lib.hid hCR
        have LG := Lib.hid hLG
        clear hCR hLG HZ HR0
        have HX := Lib.hid (Fp.refl (fun _ => False) wo)
        go_wp2_with fail
        go_loopg [5] i (fun gg kv wx => ∃ (k : Nat), k ≤ i ∧ k ≤ gg ∧ kv = .int .i64 (k : Int) ∧ (∀ j, k ≤ j → j < i → keyF F i < keyF F L[j]!) ∧ NoW wo wx ∧ NoW w wx)
        case atStart => exact ⟨i, by omega, by omega, rfl, fun j h1 h2 => by omega, HX.out, HN.out⟩
        case round =>
          clear HX HN
          obtain ⟨k0, hk0, hg2, rfl, hQ, hx, hf⟩ := hrel
          have HX := Lib.hid hx
          have HN := Lib.hid hf
          have HQ0 := Lib.hid hQ
          clear hx hf hQ
          by_cases hkp : 0 < k0
          · obtain ⟨kp, rfl⟩ : ∃ kp, k0 = kp + 1 := ⟨k0 - 1, by omega⟩
            have hll := HI.out.len
            obtain ⟨lk, hlk⟩ : ∃ x, x = L[kp]! := ⟨_, rfl⟩
            have okp := HE.out.ok lk (by rw [hlk]; have := HI.out.lt kp (by omega); omega)
            have yc := fun (j : Nat) (v : Value) (hv : (F lk).cs[j]? = some v) => (HX.out.cell (p := ⟨g, 0 + (kp * 13 + j), none⟩) LG.out id).trans (CRo.out (kp * 13 + j) v (flatL_get F L kp j v (by omega) (by rw [← hlk]; exact hv)))
            have xc := fun j v hv => (HX.out.cell (p := ⟨b0, o0 + i * 13 + j, none⟩) LB.out id).trans (XC.out j v hv)
            have x0 : wr.cell? ⟨b0, o0 + i * 13, none⟩ = some (.int .u8 (F i).r) := xc 0 _ rfl
            have x1 : wr.cell? ⟨b0, o0 + i * 13 + 1, none⟩ = some (.int .u32 (F i).a) := xc 1 _ rfl
            have x2 : wr.cell? ⟨b0, o0 + i * 13 + 2, none⟩ = some (.int .u16 (F i).p) := xc 2 _ rfl
            have x3 : wr.cell? ⟨b0, o0 + i * 13 + 3, none⟩ = some (.int .u32 (F i).b) := xc 3 _ rfl
            have x4 : wr.cell? ⟨b0, o0 + i * 13 + 4, none⟩ = some (.int .u16 (F i).q) := xc 4 _ rfl
            have x5 : wr.cell? ⟨b0, o0 + i * 13 + 5, none⟩ = some (.int .u8 (F i).r2) := xc 5 _ rfl
            have x6 : wr.cell? ⟨b0, o0 + i * 13 + 6, none⟩ = some (.int .u32 (F i).a2) := xc 6 _ rfl
            have x7 : wr.cell? ⟨b0, o0 + i * 13 + 7, none⟩ = some (.int .u16 (F i).p2) := xc 7 _ rfl
            have x8 : wr.cell? ⟨b0, o0 + i * 13 + 8, none⟩ = some (.int .u32 (F i).b2) := xc 8 _ rfl
            have x9 : wr.cell? ⟨b0, o0 + i * 13 + 9, none⟩ = some (.int .u16 (F i).q2) := xc 9 _ rfl
            have x10 : wr.cell? ⟨b0, o0 + i * 13 + 10, none⟩ = some (.int .i64 (F i).st) := xc 10 _ rfl
            have x11 : wr.cell? ⟨b0, o0 + i * 13 + 11, none⟩ = some (.int .i64 (F i).dl) := xc 11 _ rfl
            have x12 : wr.cell? ⟨b0, o0 + i * 13 + 12, none⟩ = some (.slice (F i).ad (F i).n (F i).c) := xc 12 _ rfl
            have y0 : wr.cell? ⟨g, kp * 13, none⟩ = some (.int .u8 (F lk).r) := by have := yc 0 _ rfl; simpa using this
            have y1 : wr.cell? ⟨g, kp * 13 + 1, none⟩ = some (.int .u32 (F lk).a) := by have := yc 1 _ rfl; simpa using this
            have y2 : wr.cell? ⟨g, kp * 13 + 2, none⟩ = some (.int .u16 (F lk).p) := by have := yc 2 _ rfl; simpa using this
            have y3 : wr.cell? ⟨g, kp * 13 + 3, none⟩ = some (.int .u32 (F lk).b) := by have := yc 3 _ rfl; simpa using this
            have y4 : wr.cell? ⟨g, kp * 13 + 4, none⟩ = some (.int .u16 (F lk).q) := by have := yc 4 _ rfl; simpa using this
            have lb : b0 < wr.heap.size := cell_lt x0
            have lgr : g < wr.heap.size := cell_lt y0
            have rkp : IntKind.i64.wrap (kp : Int) = (kp : Int) := by rw [IntKind.wrap_i64]; omega
            have pk : decide ((0 : Int) < (kp : Int) + 1) = true := decide_eq_true (by omega)
            have bk : (kp : Int) < (i : Int) := by omega
            have HLK := Lib.hid hlk
            clear xc yc hll hlk
            rcases hless : decide (keyF F i < keyF F lk) with _ | _
            · have KL := Lib.hid (fun W => rless8_ok (F i).r (F i).a (F i).p (F i).b (F i).q (F lk).r (F lk).a (F lk).p (F lk).b (F lk).q oki.a oki.p oki.b oki.q okp.a okp.p okp.b okp.q W)
              rw [show decide (tkey (F i).r (F i).a (F i).p (F i).b (F i).q < tkey (F lk).r (F lk).a (F lk).p (F lk).b (F lk).q) = false from hless] at KL
              have HK2 := Lib.hid (show 0 < kp + 1 → keyF F L[kp + 1 - 1]! ≤ keyF F i from fun _ => by have := of_decide_eq_false hless; simp only [Nat.add_sub_cancel]; rw [← HLK.out]; exact Nat.not_lt.1 this)
              clear hless
              go_upto_region 6 with fail
              refine wp_region_held_drew (S := fun wx => NoW wr wx) (by kernel_rfl) (Fp.drew (Fp.refl _ _)) (fun hHeld0 => ?_)
              refine any_eq hHeld0 (fun v1 hW hHeld => ?_)
              clear hHeld0
              clear hW
              (refine take_at 0 (some 14) rfl rfl (by kernel_rfl) (by kernel_rfl) (by kernel_rfl) (fun _ _ _ h => h) (v := ?_) (by kernel_rfl) ?_ (by assumption) ?_; rotate_left; (focus (intro wS hSw; skip; go_simp; try with_reducible rfl)); (try simp only [Act.put, List.setIfInBounds_toArray, List.set_cons_zero, List.set_cons_succ]))
              (refine take_at 1 (some 15) rfl rfl (by kernel_rfl) (by kernel_rfl) (by kernel_rfl) (fun _ _ _ h => h) (v := ?_) (by kernel_rfl) ?_ (by assumption) ?_; rotate_left; (focus (intro wS hSw; skip; go_simp; try with_reducible rfl)); (try simp only [Act.put, List.setIfInBounds_toArray, List.set_cons_zero, List.set_cons_succ]))
              (refine take_at 2 (some 16) rfl rfl (by kernel_rfl) (by kernel_rfl) (by kernel_rfl) (fun _ _ _ h => h) (v := ?_) (by kernel_rfl) ?_ (by assumption) ?_; rotate_left; (focus (intro wS hSw; skip; go_simp; try with_reducible rfl)); (try simp only [Act.put, List.setIfInBounds_toArray, List.set_cons_zero, List.set_cons_succ]))
              (refine take_at 3 (some 17) rfl rfl (by kernel_rfl) (by kernel_rfl) (by kernel_rfl) (fun _ _ _ h => h) (v := ?_) (by kernel_rfl) ?_ (by assumption) ?_; rotate_left; (focus (intro wS hSw; skip; go_simp; try with_reducible rfl)); (try simp only [Act.put, List.setIfInBounds_toArray, List.set_cons_zero, List.set_cons_succ]))
              (refine take_at 4 (some 18) rfl rfl (by kernel_rfl) (by kernel_rfl) (by kernel_rfl) (fun _ _ _ h => h) (v := ?_) (by kernel_rfl) ?_ (by assumption) ?_; rotate_left; (focus (intro wS hSw; skip; go_simp; try with_reducible rfl)); (try simp only [Act.put, List.setIfInBounds_toArray, List.set_cons_zero, List.set_cons_succ]))
              (refine take_at 5 (some 19) rfl rfl (by kernel_rfl) (by kernel_rfl) (by kernel_rfl) (fun _ _ _ h => h) (v := ?_) (by kernel_rfl) ?_ (by assumption) ?_; rotate_left; (focus (intro wS hSw; skip; go_simp; try with_reducible rfl)); (try simp only [Act.put, List.setIfInBounds_toArray, List.set_cons_zero, List.set_cons_succ]))
              (refine take_at 6 (some 20) rfl rfl (by kernel_rfl) (by kernel_rfl) (by kernel_rfl) (fun _ _ _ h => h) (v := ?_) (by kernel_rfl) ?_ (by assumption) ?_; rotate_left; (focus (intro wS hSw; skip; go_simp; try with_reducible rfl)); (try simp only [Act.put, List.setIfInBounds_toArray, List.set_cons_zero, List.set_cons_succ]))
              (refine take_at 7 (some 21) rfl rfl (by kernel_rfl) (by kernel_rfl) (by kernel_rfl) (fun _ _ _ h => h) (v := ?_) (by kernel_rfl) ?_ (by assumption) ?_; rotate_left; (focus (intro wS hSw; (have q0 := (hSw.cell (p := ⟨b0, o0 + i * 13, none⟩) lb id).trans x0); (have q1 := (hSw.cell (p := ⟨b0, o0 + i * 13 + 1, none⟩) lb id).trans x1); (have q2 := (hSw.cell (p := ⟨b0, o0 + i * 13 + 2, none⟩) lb id).trans x2); (have q3 := (hSw.cell (p := ⟨b0, o0 + i * 13 + 3, none⟩) lb id).trans x3); (have q4 := (hSw.cell (p := ⟨b0, o0 + i * 13 + 4, none⟩) lb id).trans x4); go_simp; try with_reducible rfl)); (try simp only [Act.put, List.setIfInBounds_toArray, List.set_cons_zero, List.set_cons_succ]))
              (refine take_at 8 (some 22) rfl rfl (by kernel_rfl) (by kernel_rfl) (by kernel_rfl) (fun _ _ _ h => h) (v := ?_) (by kernel_rfl) ?_ (by assumption) ?_; rotate_left; (focus (intro wS hSw; skip; go_simp; try with_reducible rfl)); (try simp only [Act.put, List.setIfInBounds_toArray, List.set_cons_zero, List.set_cons_succ]))
              (refine take_at 9 (some 23) rfl rfl (by kernel_rfl) (by kernel_rfl) (by kernel_rfl) (fun _ _ _ h => h) (v := ?_) (by kernel_rfl) ?_ (by assumption) ?_; rotate_left; (focus (intro wS hSw; skip; go_simp; try with_reducible rfl)); (try simp only [Act.put, List.setIfInBounds_toArray, List.set_cons_zero, List.set_cons_succ]))
              (refine take_at 10 (some 24) rfl rfl (by kernel_rfl) (by kernel_rfl) (by kernel_rfl) (fun _ _ _ h => h) (v := ?_) (by kernel_rfl) ?_ (by assumption) ?_; rotate_left; (focus (intro wS hSw; skip; go_simp; try with_reducible rfl)); (try simp only [Act.put, List.setIfInBounds_toArray, List.set_cons_zero, List.set_cons_succ]))
              (refine take_at 11 (some 25) rfl rfl (by kernel_rfl) (by kernel_rfl) (by kernel_rfl) (fun _ _ _ h => h) (v := ?_) (by kernel_rfl) ?_ (by assumption) ?_; rotate_left; (focus (intro wS hSw; skip; go_simp; try with_reducible rfl)); (try simp only [Act.put, List.setIfInBounds_toArray, List.set_cons_zero, List.set_cons_succ]))
              (refine take_at 12 (some 26) rfl rfl (by kernel_rfl) (by kernel_rfl) (by kernel_rfl) (fun _ _ _ h => h) (v := ?_) (by kernel_rfl) ?_ (by assumption) ?_; rotate_left; (focus (intro wS hSw; skip; go_simp; try with_reducible rfl)); (try simp only [Act.put, List.setIfInBounds_toArray, List.set_cons_zero, List.set_cons_succ]))
              (refine take_at 13 (some 27) rfl rfl (by kernel_rfl) (by kernel_rfl) (by kernel_rfl) (fun _ _ _ h => h) (v := ?_) (by kernel_rfl) ?_ (by assumption) ?_; rotate_left; (focus (intro wS hSw; (have p0 := (hSw.cell (p := ⟨g, kp * 13, none⟩) lgr id).trans y0); (have p1 := (hSw.cell (p := ⟨g, kp * 13 + 1, none⟩) lgr id).trans y1); (have p2 := (hSw.cell (p := ⟨g, kp * 13 + 2, none⟩) lgr id).trans y2); (have p3 := (hSw.cell (p := ⟨g, kp * 13 + 3, none⟩) lgr id).trans y3); (have p4 := (hSw.cell (p := ⟨g, kp * 13 + 4, none⟩) lgr id).trans y4); go_simp; try with_reducible rfl)); (try simp only [Act.put, List.setIfInBounds_toArray, List.set_cons_zero, List.set_cons_succ]))
              refine wpAnyH_ready (rs := [14]) (by kernel_rfl) (by simp) ?_
              refine AllReadyH.cons rfl (fun K hK => ?_) AllReadyH.nil
              go_simp
              go_at_call 25
              refine (show Calls _ _ _ _ _ from KL.out _).mono ?_
              rintro e v2 ⟨rfl, hp⟩
              have hn := Fp.trans hHeld hp (fun _ _ h => h.elim)
              refine k_now hK hn ?_
              clear hK K hp hHeld
              have hHeld := hn
              clear hn
              try simp only [Act.put, List.setIfInBounds_toArray, List.set_cons_zero, List.set_cons_succ]
              (refine take_at 15 (some 29) rfl rfl (by kernel_rfl) (by kernel_rfl) (by kernel_rfl) (fun _ _ _ h => h) (v := ?_) (by kernel_rfl) ?_ (by assumption) ?_; rotate_left; (focus (intro wS hSw; skip; go_simp; try with_reducible rfl)); (try simp only [Act.put, List.setIfInBounds_toArray, List.set_cons_zero, List.set_cons_succ]))
              refine wpAnyH_done (by kernel_rfl) ?_ _
              clear y0 y1 y2 y3 y4 x0 x1 x2 x3 x4 x5 x6 x7 x8 x9 x10 x11 x12 lgr lb
              replace HX := Lib.hid (HX.out.trans hHeld (fun _ _ h => h))
              have hGe := hid_ge HN
              replace HN := hid_now HN hHeld
              clear hHeld hGe
              have HK1 := HQ0
              clear HQ0
              have hki0 : kp + 1 ≤ i := by omega
              by_cases hck : cap = kp + 1
              · have CR := Lib.hid (fun (j : Nat) (u : Value) (h : (flatL F L)[j]? = some u) => (HX.out.cell (p := ⟨g, 0 + j, none⟩) LG.out id).trans (CRo.out j u h))
                have lgr : g < v2.heap.size := Nat.lt_of_lt_of_le LG.out (Fp.size HX.out)
                have xc := fun (j : Nat) (v : Value) (hv : (F i).cs[j]? = some v) => (HX.out.cell (p := ⟨b0, o0 + i * 13 + j, none⟩) LB.out id).trans (XC.out j v hv)
                have x0 : v2.cell? ⟨b0, o0 + i * 13, none⟩ = some (.int .u8 (F i).r) := xc 0 _ rfl
                have x1 : v2.cell? ⟨b0, o0 + i * 13 + 1, none⟩ = some (.int .u32 (F i).a) := xc 1 _ rfl
                have x2 : v2.cell? ⟨b0, o0 + i * 13 + 2, none⟩ = some (.int .u16 (F i).p) := xc 2 _ rfl
                have x3 : v2.cell? ⟨b0, o0 + i * 13 + 3, none⟩ = some (.int .u32 (F i).b) := xc 3 _ rfl
                have x4 : v2.cell? ⟨b0, o0 + i * 13 + 4, none⟩ = some (.int .u16 (F i).q) := xc 4 _ rfl
                have x5 : v2.cell? ⟨b0, o0 + i * 13 + 5, none⟩ = some (.int .u8 (F i).r2) := xc 5 _ rfl
                have x6 : v2.cell? ⟨b0, o0 + i * 13 + 6, none⟩ = some (.int .u32 (F i).a2) := xc 6 _ rfl
                have x7 : v2.cell? ⟨b0, o0 + i * 13 + 7, none⟩ = some (.int .u16 (F i).p2) := xc 7 _ rfl
                have x8 : v2.cell? ⟨b0, o0 + i * 13 + 8, none⟩ = some (.int .u32 (F i).b2) := xc 8 _ rfl
                have x9 : v2.cell? ⟨b0, o0 + i * 13 + 9, none⟩ = some (.int .u16 (F i).q2) := xc 9 _ rfl
                have x10 : v2.cell? ⟨b0, o0 + i * 13 + 10, none⟩ = some (.int .i64 (F i).st) := xc 10 _ rfl
                have x11 : v2.cell? ⟨b0, o0 + i * 13 + 11, none⟩ = some (.int .i64 (F i).dl) := xc 11 _ rfl
                have x12 : v2.cell? ⟨b0, o0 + i * 13 + 12, none⟩ = some (.slice (F i).ad (F i).n (F i).c) := xc 12 _ rfl
                have lb : b0 < v2.heap.size := Nat.lt_of_lt_of_le LB.out (Fp.size HX.out)
                clear xc
                have hkc : ((kp : Int) + 1) ≤ (cap : Int) := by omega
                have hki : ((kp : Int) + 1) ≤ (i : Int) := by omega
                have hic : (i : Int) ≤ (cap : Int) := by omega
                have ek : ((kp : Int) + 1).toNat = (kp + 1) := by omega
                have pk0 : (0 : Int) ≤ (kp : Int) + 1 := by omega
                obtain rfl : cap = kp + 1 := hck
                go_upto_region 8 with fail
                refine wp_region_held_drew (S := fun wx => NoW v2 wx) (by kernel_rfl) (Fp.drew (Fp.refl _ _)) (fun hHeld0 => ?_)
                refine any_eq hHeld0 (fun t1 hW hHeld => ?_)
                clear hHeld0
                clear hW
                (refine take_at 0 (some 32) rfl rfl (by kernel_rfl) (by kernel_rfl) (by kernel_rfl) (fun _ _ _ h => h) (v := ?_) (by kernel_rfl) ?_ (by assumption) ?_; rotate_left; (focus (intro wS hSw; skip; go_simp; try with_reducible rfl)); (try simp only [Act.put, List.setIfInBounds_toArray, List.set_cons_zero, List.set_cons_succ]))
                (refine take_at 1 (some 33) rfl rfl (by kernel_rfl) (by kernel_rfl) (by kernel_rfl) (fun _ _ _ h => h) (v := ?_) (by kernel_rfl) ?_ (by assumption) ?_; rotate_left; (focus (intro wS hSw; skip; go_simp; try with_reducible rfl)); (try simp only [Act.put, List.setIfInBounds_toArray, List.set_cons_zero, List.set_cons_succ]))
                (refine take_at 2 (some 34) rfl rfl (by kernel_rfl) (by kernel_rfl) (by kernel_rfl) (fun _ _ _ h => h) (v := ?_) (by kernel_rfl) ?_ (by assumption) ?_; rotate_left; (focus (intro wS hSw; skip; go_simp; try with_reducible rfl)); (try simp only [Act.put, List.setIfInBounds_toArray, List.set_cons_zero, List.set_cons_succ]))
                (refine take_at 4 (some 36) rfl rfl (by kernel_rfl) (by kernel_rfl) (by kernel_rfl) (fun _ _ _ h => h) (v := ?_) (by kernel_rfl) ?_ (by assumption) ?_; rotate_left; (focus (intro wS hSw; skip; go_simp; try with_reducible rfl)); (try simp only [Act.put, List.setIfInBounds_toArray, List.set_cons_zero, List.set_cons_succ]))
                (refine take_at 5 (some 37) rfl rfl (by kernel_rfl) (by kernel_rfl) (by kernel_rfl) (fun _ _ _ h => h) (v := ?_) (by kernel_rfl) ?_ (by assumption) ?_; rotate_left; (focus (intro wS hSw; skip; go_simp; try with_reducible rfl)); (try simp only [Act.put, List.setIfInBounds_toArray, List.set_cons_zero, List.set_cons_succ]))
                (refine take_at 6 (some 38) rfl rfl (by kernel_rfl) (by kernel_rfl) (by kernel_rfl) (fun _ _ _ h => h) (v := ?_) (by kernel_rfl) ?_ (by assumption) ?_; rotate_left; (focus (intro wS hSw; skip; go_simp; try with_reducible rfl)); (try simp only [Act.put, List.setIfInBounds_toArray, List.set_cons_zero, List.set_cons_succ]))
                (refine take_at 7 (some 39) rfl rfl (by kernel_rfl) (by kernel_rfl) (by kernel_rfl) (fun _ _ _ h => h) (v := ?_) (by kernel_rfl) ?_ (by assumption) ?_; rotate_left; (focus (intro wS hSw; (have q0 := (hSw.cell (p := ⟨b0, o0 + i * 13, none⟩) lb id).trans x0); (have q1 := (hSw.cell (p := ⟨b0, o0 + i * 13 + 1, none⟩) lb id).trans x1); (have q2 := (hSw.cell (p := ⟨b0, o0 + i * 13 + 2, none⟩) lb id).trans x2); (have q3 := (hSw.cell (p := ⟨b0, o0 + i * 13 + 3, none⟩) lb id).trans x3); (have q4 := (hSw.cell (p := ⟨b0, o0 + i * 13 + 4, none⟩) lb id).trans x4); (have q5 := (hSw.cell (p := ⟨b0, o0 + i * 13 + 5, none⟩) lb id).trans x5); (have q6 := (hSw.cell (p := ⟨b0, o0 + i * 13 + 6, none⟩) lb id).trans x6); (have q7 := (hSw.cell (p := ⟨b0, o0 + i * 13 + 7, none⟩) lb id).trans x7); (have q8 := (hSw.cell (p := ⟨b0, o0 + i * 13 + 8, none⟩) lb id).trans x8); (have q9 := (hSw.cell (p := ⟨b0, o0 + i * 13 + 9, none⟩) lb id).trans x9); (have q10 := (hSw.cell (p := ⟨b0, o0 + i * 13 + 10, none⟩) lb id).trans x10); (have q11 := (hSw.cell (p := ⟨b0, o0 + i * 13 + 11, none⟩) lb id).trans x11); (have q12 := (hSw.cell (p := ⟨b0, o0 + i * 13 + 12, none⟩) lb id).trans x12); go_simp; try with_reducible rfl)); (try simp only [Act.put, List.setIfInBounds_toArray, List.set_cons_zero, List.set_cons_succ]))
                (refine take_at 10 (some 42) rfl rfl (by kernel_rfl) (by kernel_rfl) (by kernel_rfl) (fun _ _ _ h => h) (v := ?_) (by kernel_rfl) ?_ (by assumption) ?_; rotate_left; (focus (intro wS hSw; skip; go_simp; try with_reducible rfl)); (try simp only [Act.put, List.setIfInBounds_toArray, List.set_cons_zero, List.set_cons_succ]))
                (refine take_at 11 (some 43) rfl rfl (by kernel_rfl) (by kernel_rfl) (by kernel_rfl) (fun _ _ _ h => h) (v := ?_) (by kernel_rfl) ?_ (by assumption) ?_; rotate_left; (focus (intro wS hSw; skip; go_simp; try with_reducible rfl)); (try simp only [Act.put, List.setIfInBounds_toArray, List.set_cons_zero, List.set_cons_succ]))
                (refine take_at 12 (some 44) rfl rfl (by kernel_rfl) (by kernel_rfl) (by kernel_rfl) (fun _ _ _ h => h) (v := ?_) (by kernel_rfl) ?_ (by assumption) ?_; rotate_left; (focus (intro wS hSw; skip; go_simp; try with_reducible rfl)); (try simp only [Act.put, List.setIfInBounds_toArray, List.set_cons_zero, List.set_cons_succ]))
                refine wpAnyH_ready (rs := [3, 8]) (by kernel_rfl) (by simp) ?_
                refine AllReadyH.cons rfl (fun K hK => ?_) (AllReadyH.cons rfl (fun K hK => ?_) AllReadyH.nil)
                · rw [if_pos (by kernel_rfl)]
                  refine op_append_at _ _ 35 rfl t1.heap.size 45 entZ 13 Tryd.underlying35 infoREnt rfl (by decide) (.slice none 0 0) 0 [] rfl (World.ownsRow_nil _ _ _ 13) ⟨g, 0, none⟩ (kp + 1) (kp + 1) (flatL F (L.take (kp + 1))) rfl ?_ ?_ (flatL_one _ _) (by omega) (Nat.le_refl _) ?_
                  · rw [flatL_len, List.length_take]; first | (congr 1; have := HI.out.len; omega) | (have := HI.out.len; omega)
                  · intro j u hj; rw [add_eq]; exact (hHeld.cell (p := ⟨g, 0 + j, none⟩) lgr (fun h => h)).trans (CR.out j u (flatL_take F L (kp + 1) j u hj))
                  intro u1 t2 hown hgr _
                  have hn := hHeld.grown hgr (fun x e => by cases e)
                  have O1 := Lib.hid (ownsRow_mono hown (Fp.size hHeld))
                  refine k_now hK hn ?_
                  clear hK K hgr hHeld hown
                  have hHeld := hn
                  clear hn
                  try simp only [Act.put, List.setIfInBounds_toArray, List.set_cons_zero, List.set_cons_succ]
                  refine wpAnyH_ready (rs := [8]) (by kernel_rfl) (by simp) ?_
                  refine AllReadyH.cons rfl (fun K hK => ?_) AllReadyH.nil
                  go_simp
                  refine k_gen hK (fun t3 hW => ?_)
                  have hp := new_now hW
                  have hB := new_blk hW
                  clear hW
                  have hn := Fp.trans hHeld hp (fun _ _ h => h.elim)
                  refine ⟨hn, ?_⟩
                  have Ggb := Lib.hid (show ¬ (u1 : Value).ownBlock = some t2.heap.size from fun e => by have h1 := (World.ownsRow.lt O1.out _ e).2; omega)
                  replace O1 := Lib.hid (ownsRow_of_block O1.out (fun x e => hp.block x (World.ownsRow.lt O1.out x e).2 id))
                  clear hK K hHeld
                  have hHeld := hn
                  clear hn
                  try simp only [Act.put, List.setIfInBounds_toArray, List.set_cons_zero, List.set_cons_succ]
                  obtain ⟨gb, hgb⟩ : ∃ gb, gb = t2.heap.size := ⟨_, rfl⟩
                  rw [← hgb] at hB Ggb ⊢
                  have B_gb := hB
                  clear hB hgb hp
                  refine wpAnyH_ready (rs := [9]) (by kernel_rfl) (by simp) ?_
                  refine AllReadyH.cons rfl (fun K hK => ?_) AllReadyH.nil
                  rw [if_pos (by kernel_rfl)]
                  refine op_append_at _ _ 35 rfl v2.heap.size 45 entZ 13 Tryd.underlying35 infoREnt rfl (by decide) u1 (0 + (kp + 1)) ([] ++ (flatL F (L.take (kp + 1)))) rfl O1.out ⟨gb, 0, none⟩ 1 1 (F i).cs rfl rfl ?_ (cs_one _) (by omega) (Fp.size hHeld) ?_
                  · intro j u hj; rw [add_eq]; simp only [World.cell?, B_gb.out, Nat.zero_add]; simpa [EntD.cs] using hj
                  intro u2 t4 hown hgr _
                  have hn := hHeld.grown hgr (fun x e => Or.inl (World.ownsRow.lt O1.out x e).1)
                  have O2 := Lib.hid hown
                  refine k_now hK hn ?_
                  clear hK K hgr hHeld hown
                  have hHeld := hn
                  clear hn
                  try simp only [Act.put, List.setIfInBounds_toArray, List.set_cons_zero, List.set_cons_succ]
                  refine wpAnyH_ready (rs := [13]) (by kernel_rfl) (by simp) ?_
                  refine AllReadyH.cons rfl (fun K hK => ?_) AllReadyH.nil
                  rw [if_pos (by kernel_rfl)]
                  refine op_append_at _ _ 35 rfl v2.heap.size 45 entZ 13 Tryd.underlying35 infoREnt rfl (by decide) u2 ((0 + (kp + 1)) + 1) (([] ++ (flatL F (L.take (kp + 1)))) ++ (F i).cs) rfl O2.out ⟨g, 0, none⟩ 0 0 (flatL F (L.drop (kp + 1))) rfl ?_ ?_ (flatL_one _ _) (by omega) (Fp.size hHeld) ?_
                  · rw [flatL_len, List.length_drop]; first | (congr 1; have := HI.out.len; omega) | (have := HI.out.len; omega)
                  · intro j u hj; exfalso; have h1 := (List.getElem?_eq_some_iff.1 hj).1; rw [flatL_len, List.length_drop] at h1; have := HI.out.len; omega
                  intro u3 t5 hown hgr _
                  have hn := hHeld.grown hgr (fun x e => Or.inl (World.ownsRow.lt O2.out x e).1)
                  have O3 := Lib.hid (ows_cast (m' := i - (kp + 1)) (by have := HI.out.len; omega) hown)
                  refine k_now hK hn ?_
                  clear hK K hgr hHeld hown
                  have hHeld := hn
                  clear hn
                  try simp only [Act.put, List.setIfInBounds_toArray, List.set_cons_zero, List.set_cons_succ]
                  (refine take_at 14 (some 3) rfl rfl (by kernel_rfl) (by kernel_rfl) (by kernel_rfl) (fun _ _ _ h => h) (v := ?_) (by kernel_rfl) ?_ (by assumption) ?_; rotate_left; (focus (intro wS hSw; skip; go_simp; try with_reducible rfl)); (try simp only [Act.put, List.setIfInBounds_toArray, List.set_cons_zero, List.set_cons_succ]))
                  refine wpAnyH_done (by kernel_rfl) ?_ _
                  clear x0 x1 x2 x3 x4 x5 x6 x7 x8 x9 x10 x11 x12
                  have HNx := Lib.hid (HN.out.trans hHeld (fun _ _ h => h))
                  have HBw := Lib.hid (Fp.size HN.out)
                  clear hHeld
                  have HS := Lib.hid (HI.out.step (k := (kp + 1)) hki0 HK1.out HK2.out)
                  have HR := Lib.hid (ownsRow_mono (B' := w.heap.size) (row_ins (k := (kp + 1)) HI.out.len hki0 O3.out) HBw.out)
                  clear O1 O2 O3 Ggb
                  go_wp2_with fail
                  go_roundg (n - i)
                  case measure => have := Hg.out; omega
                  case rel => exact ⟨i + 1, _, _, by omega, by omega, by go_num, rfl, HR.out, HS.out, fun h => by omega, HNx.out⟩
                · go_simp
                  refine k_gen hK (fun t6 hW => ?_)
                  have hp := new_now hW
                  have hB := new_blk hW
                  clear hW
                  have hn := Fp.trans hHeld hp (fun _ _ h => h.elim)
                  refine ⟨hn, ?_⟩
                  clear hK K hHeld
                  have hHeld := hn
                  clear hn
                  try simp only [Act.put, List.setIfInBounds_toArray, List.set_cons_zero, List.set_cons_succ]
                  obtain ⟨gb, hgb⟩ : ∃ gb, gb = t1.heap.size := ⟨_, rfl⟩
                  rw [← hgb] at hB ⊢
                  have B_gb := hB
                  have Lgb := Lib.hid (show gb < t6.heap.size from hid_lt B_gb)
                  clear hB hgb hp
                  refine wpAnyH_ready (rs := [3]) (by kernel_rfl) (by simp) ?_
                  refine AllReadyH.cons rfl (fun K hK => ?_) AllReadyH.nil
                  rw [if_pos (by kernel_rfl)]
                  refine op_append_at _ _ 35 rfl t6.heap.size 45 entZ 13 Tryd.underlying35 infoREnt rfl (by decide) (.slice none 0 0) 0 [] rfl (World.ownsRow_nil _ _ _ 13) ⟨g, 0, none⟩ (kp + 1) (kp + 1) (flatL F (L.take (kp + 1))) rfl ?_ ?_ (flatL_one _ _) (by omega) (Nat.le_refl _) ?_
                  · rw [flatL_len, List.length_take]; first | (congr 1; have := HI.out.len; omega) | (have := HI.out.len; omega)
                  · intro j u hj; rw [add_eq]; exact (hHeld.cell (p := ⟨g, 0 + j, none⟩) lgr (fun h => h)).trans (CR.out j u (flatL_take F L (kp + 1) j u hj))
                  intro u1 t7 hown hgr _
                  have hn := hHeld.grown hgr (fun x e => by cases e)
                  replace B_gb := Lib.hid ((hgr.block gb (hid_lt B_gb) (fun e => by cases e)).trans B_gb.out)
                  have Ggb := Lib.hid (show ¬ u1.ownBlock = some gb from fun e => by have h1 := (World.ownsRow.lt hown _ e).1; have h2 := Lgb.out; omega)
                  have O1 := Lib.hid (ownsRow_mono hown (Fp.size hHeld))
                  refine k_now hK hn ?_
                  clear hK K hgr hHeld hown
                  have hHeld := hn
                  clear hn
                  try simp only [Act.put, List.setIfInBounds_toArray, List.set_cons_zero, List.set_cons_succ]
                  refine wpAnyH_ready (rs := [9]) (by kernel_rfl) (by simp) ?_
                  refine AllReadyH.cons rfl (fun K hK => ?_) AllReadyH.nil
                  rw [if_pos (by kernel_rfl)]
                  refine op_append_at _ _ 35 rfl v2.heap.size 45 entZ 13 Tryd.underlying35 infoREnt rfl (by decide) u1 (0 + (kp + 1)) ([] ++ (flatL F (L.take (kp + 1)))) rfl O1.out ⟨gb, 0, none⟩ 1 1 (F i).cs rfl rfl ?_ (cs_one _) (by omega) (Fp.size hHeld) ?_
                  · intro j u hj; rw [add_eq]; simp only [World.cell?, B_gb.out, Nat.zero_add]; simpa [EntD.cs] using hj
                  intro u2 t8 hown hgr _
                  have hn := hHeld.grown hgr (fun x e => Or.inl (World.ownsRow.lt O1.out x e).1)
                  have O2 := Lib.hid hown
                  refine k_now hK hn ?_
                  clear hK K hgr hHeld hown
                  have hHeld := hn
                  clear hn
                  try simp only [Act.put, List.setIfInBounds_toArray, List.set_cons_zero, List.set_cons_succ]
                  refine wpAnyH_ready (rs := [13]) (by kernel_rfl) (by simp) ?_
                  refine AllReadyH.cons rfl (fun K hK => ?_) AllReadyH.nil
                  rw [if_pos (by kernel_rfl)]
                  refine op_append_at _ _ 35 rfl v2.heap.size 45 entZ 13 Tryd.underlying35 infoREnt rfl (by decide) u2 ((0 + (kp + 1)) + 1) (([] ++ (flatL F (L.take (kp + 1)))) ++ (F i).cs) rfl O2.out ⟨g, 0, none⟩ 0 0 (flatL F (L.drop (kp + 1))) rfl ?_ ?_ (flatL_one _ _) (by omega) (Fp.size hHeld) ?_
                  · rw [flatL_len, List.length_drop]; first | (congr 1; have := HI.out.len; omega) | (have := HI.out.len; omega)
                  · intro j u hj; exfalso; have h1 := (List.getElem?_eq_some_iff.1 hj).1; rw [flatL_len, List.length_drop] at h1; have := HI.out.len; omega
                  intro u3 t9 hown hgr _
                  have hn := hHeld.grown hgr (fun x e => Or.inl (World.ownsRow.lt O2.out x e).1)
                  have O3 := Lib.hid (ows_cast (m' := i - (kp + 1)) (by have := HI.out.len; omega) hown)
                  refine k_now hK hn ?_
                  clear hK K hgr hHeld hown
                  have hHeld := hn
                  clear hn
                  try simp only [Act.put, List.setIfInBounds_toArray, List.set_cons_zero, List.set_cons_succ]
                  (refine take_at 14 (some 3) rfl rfl (by kernel_rfl) (by kernel_rfl) (by kernel_rfl) (fun _ _ _ h => h) (v := ?_) (by kernel_rfl) ?_ (by assumption) ?_; rotate_left; (focus (intro wS hSw; skip; go_simp; try with_reducible rfl)); (try simp only [Act.put, List.setIfInBounds_toArray, List.set_cons_zero, List.set_cons_succ]))
                  refine wpAnyH_done (by kernel_rfl) ?_ _
                  clear x0 x1 x2 x3 x4 x5 x6 x7 x8 x9 x10 x11 x12
                  have HNx := Lib.hid (HN.out.trans hHeld (fun _ _ h => h))
                  have HBw := Lib.hid (Fp.size HN.out)
                  clear hHeld
                  have HS := Lib.hid (HI.out.step (k := (kp + 1)) hki0 HK1.out HK2.out)
                  have HR := Lib.hid (ownsRow_mono (B' := w.heap.size) (row_ins (k := (kp + 1)) HI.out.len hki0 O3.out) HBw.out)
                  clear O1 O2 O3 Ggb
                  go_wp2_with fail
                  go_roundg (n - i)
                  case measure => have := Hg.out; omega
                  case rel => exact ⟨i + 1, _, _, by omega, by omega, by go_num, rfl, HR.out, HS.out, fun h => by omega, HNx.out⟩
              · have CR := Lib.hid (fun (j : Nat) (u : Value) (h : (flatL F L)[j]? = some u) => (HX.out.cell (p := ⟨g, 0 + j, none⟩) LG.out id).trans (CRo.out j u h))
                have lgr : g < v2.heap.size := Nat.lt_of_lt_of_le LG.out (Fp.size HX.out)
                have xc := fun (j : Nat) (v : Value) (hv : (F i).cs[j]? = some v) => (HX.out.cell (p := ⟨b0, o0 + i * 13 + j, none⟩) LB.out id).trans (XC.out j v hv)
                have x0 : v2.cell? ⟨b0, o0 + i * 13, none⟩ = some (.int .u8 (F i).r) := xc 0 _ rfl
                have x1 : v2.cell? ⟨b0, o0 + i * 13 + 1, none⟩ = some (.int .u32 (F i).a) := xc 1 _ rfl
                have x2 : v2.cell? ⟨b0, o0 + i * 13 + 2, none⟩ = some (.int .u16 (F i).p) := xc 2 _ rfl
                have x3 : v2.cell? ⟨b0, o0 + i * 13 + 3, none⟩ = some (.int .u32 (F i).b) := xc 3 _ rfl
                have x4 : v2.cell? ⟨b0, o0 + i * 13 + 4, none⟩ = some (.int .u16 (F i).q) := xc 4 _ rfl
                have x5 : v2.cell? ⟨b0, o0 + i * 13 + 5, none⟩ = some (.int .u8 (F i).r2) := xc 5 _ rfl
                have x6 : v2.cell? ⟨b0, o0 + i * 13 + 6, none⟩ = some (.int .u32 (F i).a2) := xc 6 _ rfl
                have x7 : v2.cell? ⟨b0, o0 + i * 13 + 7, none⟩ = some (.int .u16 (F i).p2) := xc 7 _ rfl
                have x8 : v2.cell? ⟨b0, o0 + i * 13 + 8, none⟩ = some (.int .u32 (F i).b2) := xc 8 _ rfl
                have x9 : v2.cell? ⟨b0, o0 + i * 13 + 9, none⟩ = some (.int .u16 (F i).q2) := xc 9 _ rfl
                have x10 : v2.cell? ⟨b0, o0 + i * 13 + 10, none⟩ = some (.int .i64 (F i).st) := xc 10 _ rfl
                have x11 : v2.cell? ⟨b0, o0 + i * 13 + 11, none⟩ = some (.int .i64 (F i).dl) := xc 11 _ rfl
                have x12 : v2.cell? ⟨b0, o0 + i * 13 + 12, none⟩ = some (.slice (F i).ad (F i).n (F i).c) := xc 12 _ rfl
                have lb : b0 < v2.heap.size := Nat.lt_of_lt_of_le LB.out (Fp.size HX.out)
                clear xc
                have hkc : ((kp : Int) + 1) ≤ (cap : Int) := by omega
                have hki : ((kp : Int) + 1) ≤ (i : Int) := by omega
                have hic : (i : Int) ≤ (cap : Int) := by omega
                have ek : ((kp : Int) + 1).toNat = (kp + 1) := by omega
                have pk0 : (0 : Int) ≤ (kp : Int) + 1 := by omega
                have hcke : ¬ cap = kp + 1 := by omega
                go_upto_region 8 with fail
                refine wp_region_held_drew (S := fun wx => NoW v2 wx) (by kernel_rfl) (Fp.drew (Fp.refl _ _)) (fun hHeld0 => ?_)
                refine any_eq hHeld0 (fun t1 hW hHeld => ?_)
                clear hHeld0
                clear hW
                (refine take_at 0 (some 32) rfl rfl (by kernel_rfl) (by kernel_rfl) (by kernel_rfl) (fun _ _ _ h => h) (v := ?_) (by kernel_rfl) ?_ (by assumption) ?_; rotate_left; (focus (intro wS hSw; skip; go_simp; try with_reducible rfl)); (try simp only [Act.put, List.setIfInBounds_toArray, List.set_cons_zero, List.set_cons_succ]))
                (refine take_at 1 (some 33) rfl rfl (by kernel_rfl) (by kernel_rfl) (by kernel_rfl) (fun _ _ _ h => h) (v := ?_) (by kernel_rfl) ?_ (by assumption) ?_; rotate_left; (focus (intro wS hSw; skip; go_simp; try with_reducible rfl)); (try simp only [Act.put, List.setIfInBounds_toArray, List.set_cons_zero, List.set_cons_succ]))
                (refine take_at 2 (some 34) rfl rfl (by kernel_rfl) (by kernel_rfl) (by kernel_rfl) (fun _ _ _ h => h) (v := ?_) (by kernel_rfl) ?_ (by assumption) ?_; rotate_left; (focus (intro wS hSw; skip; go_simp; try with_reducible rfl)); (try simp only [Act.put, List.setIfInBounds_toArray, List.set_cons_zero, List.set_cons_succ]))
                (refine take_at 4 (some 36) rfl rfl (by kernel_rfl) (by kernel_rfl) (by kernel_rfl) (fun _ _ _ h => h) (v := ?_) (by kernel_rfl) ?_ (by assumption) ?_; rotate_left; (focus (intro wS hSw; skip; go_simp; try with_reducible rfl)); (try simp only [Act.put, List.setIfInBounds_toArray, List.set_cons_zero, List.set_cons_succ]))
                (refine take_at 5 (some 37) rfl rfl (by kernel_rfl) (by kernel_rfl) (by kernel_rfl) (fun _ _ _ h => h) (v := ?_) (by kernel_rfl) ?_ (by assumption) ?_; rotate_left; (focus (intro wS hSw; skip; go_simp; try with_reducible rfl)); (try simp only [Act.put, List.setIfInBounds_toArray, List.set_cons_zero, List.set_cons_succ]))
                (refine take_at 6 (some 38) rfl rfl (by kernel_rfl) (by kernel_rfl) (by kernel_rfl) (fun _ _ _ h => h) (v := ?_) (by kernel_rfl) ?_ (by assumption) ?_; rotate_left; (focus (intro wS hSw; skip; go_simp; try with_reducible rfl)); (try simp only [Act.put, List.setIfInBounds_toArray, List.set_cons_zero, List.set_cons_succ]))
                (refine take_at 7 (some 39) rfl rfl (by kernel_rfl) (by kernel_rfl) (by kernel_rfl) (fun _ _ _ h => h) (v := ?_) (by kernel_rfl) ?_ (by assumption) ?_; rotate_left; (focus (intro wS hSw; (have q0 := (hSw.cell (p := ⟨b0, o0 + i * 13, none⟩) lb id).trans x0); (have q1 := (hSw.cell (p := ⟨b0, o0 + i * 13 + 1, none⟩) lb id).trans x1); (have q2 := (hSw.cell (p := ⟨b0, o0 + i * 13 + 2, none⟩) lb id).trans x2); (have q3 := (hSw.cell (p := ⟨b0, o0 + i * 13 + 3, none⟩) lb id).trans x3); (have q4 := (hSw.cell (p := ⟨b0, o0 + i * 13 + 4, none⟩) lb id).trans x4); (have q5 := (hSw.cell (p := ⟨b0, o0 + i * 13 + 5, none⟩) lb id).trans x5); (have q6 := (hSw.cell (p := ⟨b0, o0 + i * 13 + 6, none⟩) lb id).trans x6); (have q7 := (hSw.cell (p := ⟨b0, o0 + i * 13 + 7, none⟩) lb id).trans x7); (have q8 := (hSw.cell (p := ⟨b0, o0 + i * 13 + 8, none⟩) lb id).trans x8); (have q9 := (hSw.cell (p := ⟨b0, o0 + i * 13 + 9, none⟩) lb id).trans x9); (have q10 := (hSw.cell (p := ⟨b0, o0 + i * 13 + 10, none⟩) lb id).trans x10); (have q11 := (hSw.cell (p := ⟨b0, o0 + i * 13 + 11, none⟩) lb id).trans x11); (have q12 := (hSw.cell (p := ⟨b0, o0 + i * 13 + 12, none⟩) lb id).trans x12); go_simp; try with_reducible rfl)); (try simp only [Act.put, List.setIfInBounds_toArray, List.set_cons_zero, List.set_cons_succ]))
                (refine take_at 10 (some 42) rfl rfl (by kernel_rfl) (by kernel_rfl) (by kernel_rfl) (fun _ _ _ h => h) (v := ?_) (by kernel_rfl) ?_ (by assumption) ?_; rotate_left; (focus (intro wS hSw; skip; go_simp; try with_reducible rfl)); (try simp only [Act.put, List.setIfInBounds_toArray, List.set_cons_zero, List.set_cons_succ]))
                (refine take_at 11 (some 43) rfl rfl (by kernel_rfl) (by kernel_rfl) (by kernel_rfl) (fun _ _ _ h => h) (v := ?_) (by kernel_rfl) ?_ (by assumption) ?_; rotate_left; (focus (intro wS hSw; skip; go_simp; try with_reducible rfl)); (try simp only [Act.put, List.setIfInBounds_toArray, List.set_cons_zero, List.set_cons_succ]))
                (refine take_at 12 (some 44) rfl rfl (by kernel_rfl) (by kernel_rfl) (by kernel_rfl) (fun _ _ _ h => h) (v := ?_) (by kernel_rfl) ?_ (by assumption) ?_; rotate_left; (focus (intro wS hSw; skip; go_simp; try with_reducible rfl)); (try simp only [Act.put, List.setIfInBounds_toArray, List.set_cons_zero, List.set_cons_succ]))
                refine wpAnyH_ready (rs := [3, 8]) (by kernel_rfl) (by simp) ?_
                refine AllReadyH.cons rfl (fun K hK => ?_) (AllReadyH.cons rfl (fun K hK => ?_) AllReadyH.nil)
                · rw [if_pos (by kernel_rfl)]
                  refine op_append_at _ _ 35 rfl t1.heap.size 45 entZ 13 Tryd.underlying35 infoREnt rfl (by decide) (.slice none 0 0) 0 [] rfl (World.ownsRow_nil _ _ _ 13) ⟨g, 0, none⟩ (kp + 1) cap (flatL F (L.take (kp + 1))) rfl ?_ ?_ (flatL_one _ _) (by omega) (Nat.le_refl _) ?_
                  · rw [flatL_len, List.length_take]; first | (congr 1; have := HI.out.len; omega) | (have := HI.out.len; omega)
                  · intro j u hj; rw [add_eq]; exact (hHeld.cell (p := ⟨g, 0 + j, none⟩) lgr (fun h => h)).trans (CR.out j u (flatL_take F L (kp + 1) j u hj))
                  intro u1 t2 hown hgr _
                  have hn := hHeld.grown hgr (fun x e => by cases e)
                  have O1 := Lib.hid (ownsRow_mono hown (Fp.size hHeld))
                  refine k_now hK hn ?_
                  clear hK K hgr hHeld hown
                  have hHeld := hn
                  clear hn
                  try simp only [Act.put, List.setIfInBounds_toArray, List.set_cons_zero, List.set_cons_succ]
                  refine wpAnyH_ready (rs := [8]) (by kernel_rfl) (by simp) ?_
                  refine AllReadyH.cons rfl (fun K hK => ?_) AllReadyH.nil
                  go_simp
                  refine k_gen hK (fun t3 hW => ?_)
                  have hp := new_now hW
                  have hB := new_blk hW
                  clear hW
                  have hn := Fp.trans hHeld hp (fun _ _ h => h.elim)
                  refine ⟨hn, ?_⟩
                  have Ggb := Lib.hid (show ¬ (u1 : Value).ownBlock = some t2.heap.size from fun e => by have h1 := (World.ownsRow.lt O1.out _ e).2; omega)
                  replace O1 := Lib.hid (ownsRow_of_block O1.out (fun x e => hp.block x (World.ownsRow.lt O1.out x e).2 id))
                  clear hK K hHeld
                  have hHeld := hn
                  clear hn
                  try simp only [Act.put, List.setIfInBounds_toArray, List.set_cons_zero, List.set_cons_succ]
                  obtain ⟨gb, hgb⟩ : ∃ gb, gb = t2.heap.size := ⟨_, rfl⟩
                  rw [← hgb] at hB Ggb ⊢
                  have B_gb := hB
                  clear hB hgb hp
                  refine wpAnyH_ready (rs := [9]) (by kernel_rfl) (by simp) ?_
                  refine AllReadyH.cons rfl (fun K hK => ?_) AllReadyH.nil
                  rw [if_pos (by kernel_rfl)]
                  refine op_append_at _ _ 35 rfl v2.heap.size 45 entZ 13 Tryd.underlying35 infoREnt rfl (by decide) u1 (0 + (kp + 1)) ([] ++ (flatL F (L.take (kp + 1)))) rfl O1.out ⟨gb, 0, none⟩ 1 1 (F i).cs rfl rfl ?_ (cs_one _) (by omega) (Fp.size hHeld) ?_
                  · intro j u hj; rw [add_eq]; simp only [World.cell?, B_gb.out, Nat.zero_add]; simpa [EntD.cs] using hj
                  intro u2 t4 hown hgr _
                  have hn := hHeld.grown hgr (fun x e => Or.inl (World.ownsRow.lt O1.out x e).1)
                  have O2 := Lib.hid hown
                  refine k_now hK hn ?_
                  clear hK K hgr hHeld hown
                  have hHeld := hn
                  clear hn
                  try simp only [Act.put, List.setIfInBounds_toArray, List.set_cons_zero, List.set_cons_succ]
                  refine wpAnyH_ready (rs := [13]) (by kernel_rfl) (by simp) ?_
                  refine AllReadyH.cons rfl (fun K hK => ?_) AllReadyH.nil
                  rw [if_pos (by kernel_rfl)]
                  refine op_append_at _ _ 35 rfl v2.heap.size 45 entZ 13 Tryd.underlying35 infoREnt rfl (by decide) u2 ((0 + (kp + 1)) + 1) (([] ++ (flatL F (L.take (kp + 1)))) ++ (F i).cs) rfl O2.out ⟨g, (kp + 1) * 13, none⟩ (i - (kp + 1)) (cap - (kp + 1)) (flatL F (L.drop (kp + 1))) rfl ?_ ?_ (flatL_one _ _) (by omega) (Fp.size hHeld) ?_
                  · rw [flatL_len, List.length_drop]; first | (congr 1; have := HI.out.len; omega) | (have := HI.out.len; omega)
                  · intro j u hj; have e9 : (⟨g, (kp + 1) * 13, none⟩ : Addr).add j = ⟨g, 0 + ((kp + 1) * 13 + j), none⟩ := (by rw [Addr.add_mid]; congr 1; omega); rw [e9]; exact (hHeld.cell (p := ⟨g, 0 + ((kp + 1) * 13 + j), none⟩) lgr (fun h => h)).trans (CR.out _ u (flatL_drop F L (kp + 1) j u (by have := HI.out.len; omega) hj))
                  intro u3 t5 hown hgr _
                  have hn := hHeld.grown hgr (fun x e => Or.inl (World.ownsRow.lt O2.out x e).1)
                  have O3 := Lib.hid hown
                  refine k_now hK hn ?_
                  clear hK K hgr hHeld hown
                  have hHeld := hn
                  clear hn
                  try simp only [Act.put, List.setIfInBounds_toArray, List.set_cons_zero, List.set_cons_succ]
                  (refine take_at 14 (some 3) rfl rfl (by kernel_rfl) (by kernel_rfl) (by kernel_rfl) (fun _ _ _ h => h) (v := ?_) (by kernel_rfl) ?_ (by assumption) ?_; rotate_left; (focus (intro wS hSw; skip; go_simp; try with_reducible rfl)); (try simp only [Act.put, List.setIfInBounds_toArray, List.set_cons_zero, List.set_cons_succ]))
                  refine wpAnyH_done (by kernel_rfl) ?_ _
                  clear x0 x1 x2 x3 x4 x5 x6 x7 x8 x9 x10 x11 x12
                  have HNx := Lib.hid (HN.out.trans hHeld (fun _ _ h => h))
                  have HBw := Lib.hid (Fp.size HN.out)
                  clear hHeld
                  have HS := Lib.hid (HI.out.step (k := (kp + 1)) hki0 HK1.out HK2.out)
                  have HR := Lib.hid (ownsRow_mono (B' := w.heap.size) (row_ins (k := (kp + 1)) HI.out.len hki0 O3.out) HBw.out)
                  clear O1 O2 O3 Ggb
                  go_wp2_with fail
                  go_roundg (n - i)
                  case measure => have := Hg.out; omega
                  case rel => exact ⟨i + 1, _, _, by omega, by omega, by go_num, rfl, HR.out, HS.out, fun h => by omega, HNx.out⟩
                · go_simp
                  refine k_gen hK (fun t6 hW => ?_)
                  have hp := new_now hW
                  have hB := new_blk hW
                  clear hW
                  have hn := Fp.trans hHeld hp (fun _ _ h => h.elim)
                  refine ⟨hn, ?_⟩
                  clear hK K hHeld
                  have hHeld := hn
                  clear hn
                  try simp only [Act.put, List.setIfInBounds_toArray, List.set_cons_zero, List.set_cons_succ]
                  obtain ⟨gb, hgb⟩ : ∃ gb, gb = t1.heap.size := ⟨_, rfl⟩
                  rw [← hgb] at hB ⊢
                  have B_gb := hB
                  have Lgb := Lib.hid (show gb < t6.heap.size from hid_lt B_gb)
                  clear hB hgb hp
                  refine wpAnyH_ready (rs := [3]) (by kernel_rfl) (by simp) ?_
                  refine AllReadyH.cons rfl (fun K hK => ?_) AllReadyH.nil
                  rw [if_pos (by kernel_rfl)]
                  refine op_append_at _ _ 35 rfl t6.heap.size 45 entZ 13 Tryd.underlying35 infoREnt rfl (by decide) (.slice none 0 0) 0 [] rfl (World.ownsRow_nil _ _ _ 13) ⟨g, 0, none⟩ (kp + 1) cap (flatL F (L.take (kp + 1))) rfl ?_ ?_ (flatL_one _ _) (by omega) (Nat.le_refl _) ?_
                  · rw [flatL_len, List.length_take]; first | (congr 1; have := HI.out.len; omega) | (have := HI.out.len; omega)
                  · intro j u hj; rw [add_eq]; exact (hHeld.cell (p := ⟨g, 0 + j, none⟩) lgr (fun h => h)).trans (CR.out j u (flatL_take F L (kp + 1) j u hj))
                  intro u1 t7 hown hgr _
                  have hn := hHeld.grown hgr (fun x e => by cases e)
                  replace B_gb := Lib.hid ((hgr.block gb (hid_lt B_gb) (fun e => by cases e)).trans B_gb.out)
                  have Ggb := Lib.hid (show ¬ u1.ownBlock = some gb from fun e => by have h1 := (World.ownsRow.lt hown _ e).1; have h2 := Lgb.out; omega)
                  have O1 := Lib.hid (ownsRow_mono hown (Fp.size hHeld))
                  refine k_now hK hn ?_
                  clear hK K hgr hHeld hown
                  have hHeld := hn
                  clear hn
                  try simp only [Act.put, List.setIfInBounds_toArray, List.set_cons_zero, List.set_cons_succ]
                  refine wpAnyH_ready (rs := [9]) (by kernel_rfl) (by simp) ?_
                  refine AllReadyH.cons rfl (fun K hK => ?_) AllReadyH.nil
                  rw [if_pos (by kernel_rfl)]
                  refine op_append_at _ _ 35 rfl v2.heap.size 45 entZ 13 Tryd.underlying35 infoREnt rfl (by decide) u1 (0 + (kp + 1)) ([] ++ (flatL F (L.take (kp + 1)))) rfl O1.out ⟨gb, 0, none⟩ 1 1 (F i).cs rfl rfl ?_ (cs_one _) (by omega) (Fp.size hHeld) ?_
                  · intro j u hj; rw [add_eq]; simp only [World.cell?, B_gb.out, Nat.zero_add]; simpa [EntD.cs] using hj
                  intro u2 t8 hown hgr _
                  have hn := hHeld.grown hgr (fun x e => Or.inl (World.ownsRow.lt O1.out x e).1)
                  have O2 := Lib.hid hown
                  refine k_now hK hn ?_
                  clear hK K hgr hHeld hown
                  have hHeld := hn
                  clear hn
                  try simp only [Act.put, List.setIfInBounds_toArray, List.set_cons_zero, List.set_cons_succ]
                  refine wpAnyH_ready (rs := [13]) (by kernel_rfl) (by simp) ?_
                  refine AllReadyH.cons rfl (fun K hK => ?_) AllReadyH.nil
                  rw [if_pos (by kernel_rfl)]
                  refine op_append_at _ _ 35 rfl v2.heap.size 45 entZ 13 Tryd.underlying35 infoREnt rfl (by decide) u2 ((0 + (kp + 1)) + 1) (([] ++ (flatL F (L.take (kp + 1)))) ++ (F i).cs) rfl O2.out ⟨g, (kp + 1) * 13, none⟩ (i - (kp + 1)) (cap - (kp + 1)) (flatL F (L.drop (kp + 1))) rfl ?_ ?_ (flatL_one _ _) (by omega) (Fp.size hHeld) ?_
                  · rw [flatL_len, List.length_drop]; first | (congr 1; have := HI.out.len; omega) | (have := HI.out.len; omega)
                  · intro j u hj; have e9 : (⟨g, (kp + 1) * 13, none⟩ : Addr).add j = ⟨g, 0 + ((kp + 1) * 13 + j), none⟩ := (by rw [Addr.add_mid]; congr 1; omega); rw [e9]; exact (hHeld.cell (p := ⟨g, 0 + ((kp + 1) * 13 + j), none⟩) lgr (fun h => h)).trans (CR.out _ u (flatL_drop F L (kp + 1) j u (by have := HI.out.len; omega) hj))
                  intro u3 t9 hown hgr _
                  have hn := hHeld.grown hgr (fun x e => Or.inl (World.ownsRow.lt O2.out x e).1)
                  have O3 := Lib.hid hown
                  refine k_now hK hn ?_
                  clear hK K hgr hHeld hown
                  have hHeld := hn
                  clear hn
                  try simp only [Act.put, List.setIfInBounds_toArray, List.set_cons_zero, List.set_cons_succ]
                  (refine take_at 14 (some 3) rfl rfl (by kernel_rfl) (by kernel_rfl) (by kernel_rfl) (fun _ _ _ h => h) (v := ?_) (by kernel_rfl) ?_ (by assumption) ?_; rotate_left; (focus (intro wS hSw; skip; go_simp; try with_reducible rfl)); (try simp only [Act.put, List.setIfInBounds_toArray, List.set_cons_zero, List.set_cons_succ]))
                  refine wpAnyH_done (by kernel_rfl) ?_ _
                  clear x0 x1 x2 x3 x4 x5 x6 x7 x8 x9 x10 x11 x12
                  have HNx := Lib.hid (HN.out.trans hHeld (fun _ _ h => h))
                  have HBw := Lib.hid (Fp.size HN.out)
                  clear hHeld
                  have HS := Lib.hid (HI.out.step (k := (kp + 1)) hki0 HK1.out HK2.out)
                  have HR := Lib.hid (ownsRow_mono (B' := w.heap.size) (row_ins (k := (kp + 1)) HI.out.len hki0 O3.out) HBw.out)
                  clear O1 O2 O3 Ggb
                  go_wp2_with fail
                  go_roundg (n - i)
                  case measure => have := Hg.out; omega
                  case rel => exact ⟨i + 1, _, _, by omega, by omega, by go_num, rfl, HR.out, HS.out, fun h => by omega, HNx.out⟩
            · have KL := Lib.hid (fun W => rless8_ok (F i).r (F i).a (F i).p (F i).b (F i).q (F lk).r (F lk).a (F lk).p (F lk).b (F lk).q oki.a oki.p oki.b oki.q okp.a okp.p okp.b okp.q W)
              rw [show decide (tkey (F i).r (F i).a (F i).p (F i).b (F i).q < tkey (F lk).r (F lk).a (F lk).p (F lk).b (F lk).q) = true from hless] at KL
              have HQ := Lib.hid (show ∀ j, kp ≤ j → j < i → keyF F i < keyF F L[j]! from fun j h1 h2 => by by_cases e : j = kp; (rw [e, ← HLK.out]; exact of_decide_eq_true hless); exact HQ0.out j (by omega) h2)
              clear hless
              go_upto_region 6 with fail
              refine wp_region_held_drew (S := fun wx => NoW wr wx) (by kernel_rfl) (Fp.drew (Fp.refl _ _)) (fun hHeld0 => ?_)
              refine any_eq hHeld0 (fun v1 hW hHeld => ?_)
              clear hHeld0
              clear hW
              (refine take_at 0 (some 14) rfl rfl (by kernel_rfl) (by kernel_rfl) (by kernel_rfl) (fun _ _ _ h => h) (v := ?_) (by kernel_rfl) ?_ (by assumption) ?_; rotate_left; (focus (intro wS hSw; skip; go_simp; try with_reducible rfl)); (try simp only [Act.put, List.setIfInBounds_toArray, List.set_cons_zero, List.set_cons_succ]))
              (refine take_at 1 (some 15) rfl rfl (by kernel_rfl) (by kernel_rfl) (by kernel_rfl) (fun _ _ _ h => h) (v := ?_) (by kernel_rfl) ?_ (by assumption) ?_; rotate_left; (focus (intro wS hSw; skip; go_simp; try with_reducible rfl)); (try simp only [Act.put, List.setIfInBounds_toArray, List.set_cons_zero, List.set_cons_succ]))
              (refine take_at 2 (some 16) rfl rfl (by kernel_rfl) (by kernel_rfl) (by kernel_rfl) (fun _ _ _ h => h) (v := ?_) (by kernel_rfl) ?_ (by assumption) ?_; rotate_left; (focus (intro wS hSw; skip; go_simp; try with_reducible rfl)); (try simp only [Act.put, List.setIfInBounds_toArray, List.set_cons_zero, List.set_cons_succ]))
              (refine take_at 3 (some 17) rfl rfl (by kernel_rfl) (by kernel_rfl) (by kernel_rfl) (fun _ _ _ h => h) (v := ?_) (by kernel_rfl) ?_ (by assumption) ?_; rotate_left; (focus (intro wS hSw; skip; go_simp; try with_reducible rfl)); (try simp only [Act.put, List.setIfInBounds_toArray, List.set_cons_zero, List.set_cons_succ]))
              (refine take_at 4 (some 18) rfl rfl (by kernel_rfl) (by kernel_rfl) (by kernel_rfl) (fun _ _ _ h => h) (v := ?_) (by kernel_rfl) ?_ (by assumption) ?_; rotate_left; (focus (intro wS hSw; skip; go_simp; try with_reducible rfl)); (try simp only [Act.put, List.setIfInBounds_toArray, List.set_cons_zero, List.set_cons_succ]))
              (refine take_at 5 (some 19) rfl rfl (by kernel_rfl) (by kernel_rfl) (by kernel_rfl) (fun _ _ _ h => h) (v := ?_) (by kernel_rfl) ?_ (by assumption) ?_; rotate_left; (focus (intro wS hSw; skip; go_simp; try with_reducible rfl)); (try simp only [Act.put, List.setIfInBounds_toArray, List.set_cons_zero, List.set_cons_succ]))
              (refine take_at 6 (some 20) rfl rfl (by kernel_rfl) (by kernel_rfl) (by kernel_rfl) (fun _ _ _ h => h) (v := ?_) (by kernel_rfl) ?_ (by assumption) ?_; rotate_left; (focus (intro wS hSw; skip; go_simp; try with_reducible rfl)); (try simp only [Act.put, List.setIfInBounds_toArray, List.set_cons_zero, List.set_cons_succ]))
              (refine take_at 7 (some 21) rfl rfl (by kernel_rfl) (by kernel_rfl) (by kernel_rfl) (fun _ _ _ h => h) (v := ?_) (by kernel_rfl) ?_ (by assumption) ?_; rotate_left; (focus (intro wS hSw; (have q0 := (hSw.cell (p := ⟨b0, o0 + i * 13, none⟩) lb id).trans x0); (have q1 := (hSw.cell (p := ⟨b0, o0 + i * 13 + 1, none⟩) lb id).trans x1); (have q2 := (hSw.cell (p := ⟨b0, o0 + i * 13 + 2, none⟩) lb id).trans x2); (have q3 := (hSw.cell (p := ⟨b0, o0 + i * 13 + 3, none⟩) lb id).trans x3); (have q4 := (hSw.cell (p := ⟨b0, o0 + i * 13 + 4, none⟩) lb id).trans x4); go_simp; try with_reducible rfl)); (try simp only [Act.put, List.setIfInBounds_toArray, List.set_cons_zero, List.set_cons_succ]))
              (refine take_at 8 (some 22) rfl rfl (by kernel_rfl) (by kernel_rfl) (by kernel_rfl) (fun _ _ _ h => h) (v := ?_) (by kernel_rfl) ?_ (by assumption) ?_; rotate_left; (focus (intro wS hSw; skip; go_simp; try with_reducible rfl)); (try simp only [Act.put, List.setIfInBounds_toArray, List.set_cons_zero, List.set_cons_succ]))
              (refine take_at 9 (some 23) rfl rfl (by kernel_rfl) (by kernel_rfl) (by kernel_rfl) (fun _ _ _ h => h) (v := ?_) (by kernel_rfl) ?_ (by assumption) ?_; rotate_left; (focus (intro wS hSw; skip; go_simp; try with_reducible rfl)); (try simp only [Act.put, List.setIfInBounds_toArray, List.set_cons_zero, List.set_cons_succ]))
              (refine take_at 10 (some 24) rfl rfl (by kernel_rfl) (by kernel_rfl) (by kernel_rfl) (fun _ _ _ h => h) (v := ?_) (by kernel_rfl) ?_ (by assumption) ?_; rotate_left; (focus (intro wS hSw; skip; go_simp; try with_reducible rfl)); (try simp only [Act.put, List.setIfInBounds_toArray, List.set_cons_zero, List.set_cons_succ]))
              (refine take_at 11 (some 25) rfl rfl (by kernel_rfl) (by kernel_rfl) (by kernel_rfl) (fun _ _ _ h => h) (v := ?_) (by kernel_rfl) ?_ (by assumption) ?_; rotate_left; (focus (intro wS hSw; skip; go_simp; try with_reducible rfl)); (try simp only [Act.put, List.setIfInBounds_toArray, List.set_cons_zero, List.set_cons_succ]))
              (refine take_at 12 (some 26) rfl rfl (by kernel_rfl) (by kernel_rfl) (by kernel_rfl) (fun _ _ _ h => h) (v := ?_) (by kernel_rfl) ?_ (by assumption) ?_; rotate_left; (focus (intro wS hSw; skip; go_simp; try with_reducible rfl)); (try simp only [Act.put, List.setIfInBounds_toArray, List.set_cons_zero, List.set_cons_succ]))
              (refine take_at 13 (some 27) rfl rfl (by kernel_rfl) (by kernel_rfl) (by kernel_rfl) (fun _ _ _ h => h) (v := ?_) (by kernel_rfl) ?_ (by assumption) ?_; rotate_left; (focus (intro wS hSw; (have p0 := (hSw.cell (p := ⟨g, kp * 13, none⟩) lgr id).trans y0); (have p1 := (hSw.cell (p := ⟨g, kp * 13 + 1, none⟩) lgr id).trans y1); (have p2 := (hSw.cell (p := ⟨g, kp * 13 + 2, none⟩) lgr id).trans y2); (have p3 := (hSw.cell (p := ⟨g, kp * 13 + 3, none⟩) lgr id).trans y3); (have p4 := (hSw.cell (p := ⟨g, kp * 13 + 4, none⟩) lgr id).trans y4); go_simp; try with_reducible rfl)); (try simp only [Act.put, List.setIfInBounds_toArray, List.set_cons_zero, List.set_cons_succ]))
              refine wpAnyH_ready (rs := [14]) (by kernel_rfl) (by simp) ?_
              refine AllReadyH.cons rfl (fun K hK => ?_) AllReadyH.nil
              go_simp
              go_at_call 25
              refine (show Calls _ _ _ _ _ from KL.out _).mono ?_
              rintro e v2 ⟨rfl, hp⟩
              have hn := Fp.trans hHeld hp (fun _ _ h => h.elim)
              refine k_now hK hn ?_
              clear hK K hp hHeld
              have hHeld := hn
              clear hn
              try simp only [Act.put, List.setIfInBounds_toArray, List.set_cons_zero, List.set_cons_succ]
              (refine take_at 15 (some 29) rfl rfl (by kernel_rfl) (by kernel_rfl) (by kernel_rfl) (fun _ _ _ h => h) (v := ?_) (by kernel_rfl) ?_ (by assumption) ?_; rotate_left; (focus (intro wS hSw; skip; go_simp; try with_reducible rfl)); (try simp only [Act.put, List.setIfInBounds_toArray, List.set_cons_zero, List.set_cons_succ]))
              refine wpAnyH_done (by kernel_rfl) ?_ _
              clear y0 y1 y2 y3 y4 x0 x1 x2 x3 x4 x5 x6 x7 x8 x9 x10 x11 x12 lgr lb
              replace HX := Lib.hid (HX.out.trans hHeld (fun _ _ h => h))
              have hGe := hid_ge HN
              replace HN := hid_now HN hHeld
              clear hHeld hGe
              go_wp2_with fail
              go_roundg kp
              case measure => omega
              case rel => exact ⟨kp, by omega, by omega, by go_num, HQ.out, HX.out, HN.out⟩
          · obtain rfl : k0 = 0 := by omega
            go_upto_region 6 with fail
            refine wp_region_held_drew (S := fun wx => NoW wr wx) (by kernel_rfl) (Fp.drew (Fp.refl _ _)) (fun hHeld0 => ?_)
            refine any_eq hHeld0 (fun v1 hW hHeld => ?_)
            clear hHeld0
            clear hW
            (refine take_at 0 (some 14) rfl rfl (by kernel_rfl) (by kernel_rfl) (by kernel_rfl) (fun _ _ _ h => h) (v := ?_) (by kernel_rfl) ?_ (by assumption) ?_; rotate_left; (focus (intro wS hSw; skip; go_simp; try with_reducible rfl)); (try simp only [Act.put, List.setIfInBounds_toArray, List.set_cons_zero, List.set_cons_succ]))
            (refine take_at 1 (some 15) rfl rfl (by kernel_rfl) (by kernel_rfl) (by kernel_rfl) (fun _ _ _ h => h) (v := ?_) (by kernel_rfl) ?_ (by assumption) ?_; rotate_left; (focus (intro wS hSw; skip; go_simp; try with_reducible rfl)); (try simp only [Act.put, List.setIfInBounds_toArray, List.set_cons_zero, List.set_cons_succ]))
            (refine take_at 2 (some 16) rfl rfl (by kernel_rfl) (by kernel_rfl) (by kernel_rfl) (fun _ _ _ h => h) (v := ?_) (by kernel_rfl) ?_ (by assumption) ?_; rotate_left; (focus (intro wS hSw; skip; go_simp; try with_reducible rfl)); (try simp only [Act.put, List.setIfInBounds_toArray, List.set_cons_zero, List.set_cons_succ]))
            (refine drop_at 3 (some 17) rfl rfl (by kernel_rfl) (by kernel_rfl) (by kernel_rfl) (fun _ _ _ h => h) (by kernel_rfl) (by assumption) ?_; (try simp only [Act.put, List.setIfInBounds_toArray, List.set_cons_zero, List.set_cons_succ]))
            (refine drop_at 4 (some 18) rfl rfl (by kernel_rfl) (by kernel_rfl) (by kernel_rfl) (fun _ _ _ h => h) (by kernel_rfl) (by assumption) ?_; (try simp only [Act.put, List.setIfInBounds_toArray, List.set_cons_zero, List.set_cons_succ]))
            (refine drop_at 5 (some 19) rfl rfl (by kernel_rfl) (by kernel_rfl) (by kernel_rfl) (fun _ _ _ h => h) (by kernel_rfl) (by assumption) ?_; (try simp only [Act.put, List.setIfInBounds_toArray, List.set_cons_zero, List.set_cons_succ]))
            (refine drop_at 6 (some 20) rfl rfl (by kernel_rfl) (by kernel_rfl) (by kernel_rfl) (fun _ _ _ h => h) (by kernel_rfl) (by assumption) ?_; (try simp only [Act.put, List.setIfInBounds_toArray, List.set_cons_zero, List.set_cons_succ]))
            (refine drop_at 7 (some 21) rfl rfl (by kernel_rfl) (by kernel_rfl) (by kernel_rfl) (fun _ _ _ h => h) (by kernel_rfl) (by assumption) ?_; (try simp only [Act.put, List.setIfInBounds_toArray, List.set_cons_zero, List.set_cons_succ]))
            (refine drop_at 8 (some 22) rfl rfl (by kernel_rfl) (by kernel_rfl) (by kernel_rfl) (fun _ _ _ h => h) (by kernel_rfl) (by assumption) ?_; (try simp only [Act.put, List.setIfInBounds_toArray, List.set_cons_zero, List.set_cons_succ]))
            (refine drop_at 9 (some 23) rfl rfl (by kernel_rfl) (by kernel_rfl) (by kernel_rfl) (fun _ _ _ h => h) (by kernel_rfl) (by assumption) ?_; (try simp only [Act.put, List.setIfInBounds_toArray, List.set_cons_zero, List.set_cons_succ]))
            (refine drop_at 10 (some 24) rfl rfl (by kernel_rfl) (by kernel_rfl) (by kernel_rfl) (fun _ _ _ h => h) (by kernel_rfl) (by assumption) ?_; (try simp only [Act.put, List.setIfInBounds_toArray, List.set_cons_zero, List.set_cons_succ]))
            (refine drop_at 11 (some 25) rfl rfl (by kernel_rfl) (by kernel_rfl) (by kernel_rfl) (fun _ _ _ h => h) (by kernel_rfl) (by assumption) ?_; (try simp only [Act.put, List.setIfInBounds_toArray, List.set_cons_zero, List.set_cons_succ]))
            (refine drop_at 12 (some 26) rfl rfl (by kernel_rfl) (by kernel_rfl) (by kernel_rfl) (fun _ _ _ h => h) (by kernel_rfl) (by assumption) ?_; (try simp only [Act.put, List.setIfInBounds_toArray, List.set_cons_zero, List.set_cons_succ]))
            (refine drop_at 13 (some 27) rfl rfl (by kernel_rfl) (by kernel_rfl) (by kernel_rfl) (fun _ _ _ h => h) (by kernel_rfl) (by assumption) ?_; (try simp only [Act.put, List.setIfInBounds_toArray, List.set_cons_zero, List.set_cons_succ]))
            (refine drop_at 14 (some 28) rfl rfl (by kernel_rfl) (by kernel_rfl) (by kernel_rfl) (fun _ _ _ h => h) (by kernel_rfl) (by assumption) ?_; (try simp only [Act.put, List.setIfInBounds_toArray, List.set_cons_zero, List.set_cons_succ]))
            (refine take_at 15 (some 29) rfl rfl (by kernel_rfl) (by kernel_rfl) (by kernel_rfl) (fun _ _ _ h => h) (v := ?_) (by kernel_rfl) ?_ (by assumption) ?_; rotate_left; (focus (intro wS hSw; skip; go_simp; try with_reducible rfl)); (try simp only [Act.put, List.setIfInBounds_toArray, List.set_cons_zero, List.set_cons_succ]))
            refine wpAnyH_done (by kernel_rfl) ?_ _
            replace HX := Lib.hid (HX.out.trans hHeld (fun _ _ h => h))
            have hGe := hid_ge HN
            replace HN := hid_now HN hHeld
            clear hHeld hGe
            have HK1 := HQ0
            clear HQ0
            have HK2 := Lib.hid (show 0 < 0 → keyF F L[0 - 1]! ≤ keyF F i from fun h => by omega)
            have hki0 : 0 ≤ i := by omega
            have CR := Lib.hid (fun (j : Nat) (u : Value) (h : (flatL F L)[j]? = some u) => (HX.out.cell (p := ⟨g, 0 + j, none⟩) LG.out id).trans (CRo.out j u h))
            have lgr : g < v1.heap.size := Nat.lt_of_lt_of_le LG.out (Fp.size HX.out)
            have xc := fun (j : Nat) (v : Value) (hv : (F i).cs[j]? = some v) => (HX.out.cell (p := ⟨b0, o0 + i * 13 + j, none⟩) LB.out id).trans (XC.out j v hv)
            have x0 : v1.cell? ⟨b0, o0 + i * 13, none⟩ = some (.int .u8 (F i).r) := xc 0 _ rfl
            have x1 : v1.cell? ⟨b0, o0 + i * 13 + 1, none⟩ = some (.int .u32 (F i).a) := xc 1 _ rfl
            have x2 : v1.cell? ⟨b0, o0 + i * 13 + 2, none⟩ = some (.int .u16 (F i).p) := xc 2 _ rfl
            have x3 : v1.cell? ⟨b0, o0 + i * 13 + 3, none⟩ = some (.int .u32 (F i).b) := xc 3 _ rfl
            have x4 : v1.cell? ⟨b0, o0 + i * 13 + 4, none⟩ = some (.int .u16 (F i).q) := xc 4 _ rfl
            have x5 : v1.cell? ⟨b0, o0 + i * 13 + 5, none⟩ = some (.int .u8 (F i).r2) := xc 5 _ rfl
            have x6 : v1.cell? ⟨b0, o0 + i * 13 + 6, none⟩ = some (.int .u32 (F i).a2) := xc 6 _ rfl
            have x7 : v1.cell? ⟨b0, o0 + i * 13 + 7, none⟩ = some (.int .u16 (F i).p2) := xc 7 _ rfl
            have x8 : v1.cell? ⟨b0, o0 + i * 13 + 8, none⟩ = some (.int .u32 (F i).b2) := xc 8 _ rfl
            have x9 : v1.cell? ⟨b0, o0 + i * 13 + 9, none⟩ = some (.int .u16 (F i).q2) := xc 9 _ rfl
            have x10 : v1.cell? ⟨b0, o0 + i * 13 + 10, none⟩ = some (.int .i64 (F i).st) := xc 10 _ rfl
            have x11 : v1.cell? ⟨b0, o0 + i * 13 + 11, none⟩ = some (.int .i64 (F i).dl) := xc 11 _ rfl
            have x12 : v1.cell? ⟨b0, o0 + i * 13 + 12, none⟩ = some (.slice (F i).ad (F i).n (F i).c) := xc 12 _ rfl
            have lb : b0 < v1.heap.size := Nat.lt_of_lt_of_le LB.out (Fp.size HX.out)
            clear xc
            have hkc : (0 : Int) ≤ (cap : Int) := by omega
            have hki : (0 : Int) ≤ (i : Int) := by omega
            have hic : (i : Int) ≤ (cap : Int) := by omega
            have ek : (0 : Int).toNat = 0 := by omega
            have hcke : ¬ cap = 0 := by omega
            go_upto_region 8 with fail
            refine wp_region_held_drew (S := fun wx => NoW v1 wx) (by kernel_rfl) (Fp.drew (Fp.refl _ _)) (fun hHeld0 => ?_)
            refine any_eq hHeld0 (fun t1 hW hHeld => ?_)
            clear hHeld0
            clear hW
            (refine take_at 0 (some 32) rfl rfl (by kernel_rfl) (by kernel_rfl) (by kernel_rfl) (fun _ _ _ h => h) (v := ?_) (by kernel_rfl) ?_ (by assumption) ?_; rotate_left; (focus (intro wS hSw; skip; go_simp; try with_reducible rfl)); (try simp only [Act.put, List.setIfInBounds_toArray, List.set_cons_zero, List.set_cons_succ]))
            (refine take_at 1 (some 33) rfl rfl (by kernel_rfl) (by kernel_rfl) (by kernel_rfl) (fun _ _ _ h => h) (v := ?_) (by kernel_rfl) ?_ (by assumption) ?_; rotate_left; (focus (intro wS hSw; skip; go_simp; try with_reducible rfl)); (try simp only [Act.put, List.setIfInBounds_toArray, List.set_cons_zero, List.set_cons_succ]))
            (refine take_at 2 (some 34) rfl rfl (by kernel_rfl) (by kernel_rfl) (by kernel_rfl) (fun _ _ _ h => h) (v := ?_) (by kernel_rfl) ?_ (by assumption) ?_; rotate_left; (focus (intro wS hSw; skip; go_simp; try with_reducible rfl)); (try simp only [Act.put, List.setIfInBounds_toArray, List.set_cons_zero, List.set_cons_succ]))
            (refine take_at 4 (some 36) rfl rfl (by kernel_rfl) (by kernel_rfl) (by kernel_rfl) (fun _ _ _ h => h) (v := ?_) (by kernel_rfl) ?_ (by assumption) ?_; rotate_left; (focus (intro wS hSw; skip; go_simp; try with_reducible rfl)); (try simp only [Act.put, List.setIfInBounds_toArray, List.set_cons_zero, List.set_cons_succ]))
            (refine take_at 5 (some 37) rfl rfl (by kernel_rfl) (by kernel_rfl) (by kernel_rfl) (fun _ _ _ h => h) (v := ?_) (by kernel_rfl) ?_ (by assumption) ?_; rotate_left; (focus (intro wS hSw; skip; go_simp; try with_reducible rfl)); (try simp only [Act.put, List.setIfInBounds_toArray, List.set_cons_zero, List.set_cons_succ]))
            (refine take_at 6 (some 38) rfl rfl (by kernel_rfl) (by kernel_rfl) (by kernel_rfl) (fun _ _ _ h => h) (v := ?_) (by kernel_rfl) ?_ (by assumption) ?_; rotate_left; (focus (intro wS hSw; skip; go_simp; try with_reducible rfl)); (try simp only [Act.put, List.setIfInBounds_toArray, List.set_cons_zero, List.set_cons_succ]))
            (refine take_at 7 (some 39) rfl rfl (by kernel_rfl) (by kernel_rfl) (by kernel_rfl) (fun _ _ _ h => h) (v := ?_) (by kernel_rfl) ?_ (by assumption) ?_; rotate_left; (focus (intro wS hSw; (have q0 := (hSw.cell (p := ⟨b0, o0 + i * 13, none⟩) lb id).trans x0); (have q1 := (hSw.cell (p := ⟨b0, o0 + i * 13 + 1, none⟩) lb id).trans x1); (have q2 := (hSw.cell (p := ⟨b0, o0 + i * 13 + 2, none⟩) lb id).trans x2); (have q3 := (hSw.cell (p := ⟨b0, o0 + i * 13 + 3, none⟩) lb id).trans x3); (have q4 := (hSw.cell (p := ⟨b0, o0 + i * 13 + 4, none⟩) lb id).trans x4); (have q5 := (hSw.cell (p := ⟨b0, o0 + i * 13 + 5, none⟩) lb id).trans x5); (have q6 := (hSw.cell (p := ⟨b0, o0 + i * 13 + 6, none⟩) lb id).trans x6); (have q7 := (hSw.cell (p := ⟨b0, o0 + i * 13 + 7, none⟩) lb id).trans x7); (have q8 := (hSw.cell (p := ⟨b0, o0 + i * 13 + 8, none⟩) lb id).trans x8); (have q9 := (hSw.cell (p := ⟨b0, o0 + i * 13 + 9, none⟩) lb id).trans x9); (have q10 := (hSw.cell (p := ⟨b0, o0 + i * 13 + 10, none⟩) lb id).trans x10); (have q11 := (hSw.cell (p := ⟨b0, o0 + i * 13 + 11, none⟩) lb id).trans x11); (have q12 := (hSw.cell (p := ⟨b0, o0 + i * 13 + 12, none⟩) lb id).trans x12); go_simp; try with_reducible rfl)); (try simp only [Act.put, List.setIfInBounds_toArray, List.set_cons_zero, List.set_cons_succ]))
            (refine take_at 10 (some 42) rfl rfl (by kernel_rfl) (by kernel_rfl) (by kernel_rfl) (fun _ _ _ h => h) (v := ?_) (by kernel_rfl) ?_ (by assumption) ?_; rotate_left; (focus (intro wS hSw; skip; go_simp; try with_reducible rfl)); (try simp only [Act.put, List.setIfInBounds_toArray, List.set_cons_zero, List.set_cons_succ]))
            (refine take_at 11 (some 43) rfl rfl (by kernel_rfl) (by kernel_rfl) (by kernel_rfl) (fun _ _ _ h => h) (v := ?_) (by kernel_rfl) ?_ (by assumption) ?_; rotate_left; (focus (intro wS hSw; skip; go_simp; try with_reducible rfl)); (try simp only [Act.put, List.setIfInBounds_toArray, List.set_cons_zero, List.set_cons_succ]))
            (refine take_at 12 (some 44) rfl rfl (by kernel_rfl) (by kernel_rfl) (by kernel_rfl) (fun _ _ _ h => h) (v := ?_) (by kernel_rfl) ?_ (by assumption) ?_; rotate_left; (focus (intro wS hSw; skip; go_simp; try with_reducible rfl)); (try simp only [Act.put, List.setIfInBounds_toArray, List.set_cons_zero, List.set_cons_succ]))
            refine wpAnyH_ready (rs := [3, 8]) (by kernel_rfl) (by simp) ?_
            refine AllReadyH.cons rfl (fun K hK => ?_) (AllReadyH.cons rfl (fun K hK => ?_) AllReadyH.nil)
            · rw [if_pos (by kernel_rfl)]
              refine op_append_at _ _ 35 rfl t1.heap.size 45 entZ 13 Tryd.underlying35 infoREnt rfl (by decide) (.slice none 0 0) 0 [] rfl (World.ownsRow_nil _ _ _ 13) ⟨g, 0, none⟩ 0 cap (flatL F (L.take 0)) rfl ?_ ?_ (flatL_one _ _) (by omega) (Nat.le_refl _) ?_
              · rw [flatL_len, List.length_take]; first | (congr 1; have := HI.out.len; omega) | (have := HI.out.len; omega)
              · intro j u hj; rw [add_eq]; exact (hHeld.cell (p := ⟨g, 0 + j, none⟩) lgr (fun h => h)).trans (CR.out j u (flatL_take F L 0 j u hj))
              intro u1 t2 hown hgr _
              have hn := hHeld.grown hgr (fun x e => by cases e)
              have O1 := Lib.hid (ownsRow_mono hown (Fp.size hHeld))
              refine k_now hK hn ?_
              clear hK K hgr hHeld hown
              have hHeld := hn
              clear hn
              try simp only [Act.put, List.setIfInBounds_toArray, List.set_cons_zero, List.set_cons_succ]
              refine wpAnyH_ready (rs := [8]) (by kernel_rfl) (by simp) ?_
              refine AllReadyH.cons rfl (fun K hK => ?_) AllReadyH.nil
              go_simp
              refine k_gen hK (fun t3 hW => ?_)
              have hp := new_now hW
              have hB := new_blk hW
              clear hW
              have hn := Fp.trans hHeld hp (fun _ _ h => h.elim)
              refine ⟨hn, ?_⟩
              have Ggb := Lib.hid (show ¬ (u1 : Value).ownBlock = some t2.heap.size from fun e => by have h1 := (World.ownsRow.lt O1.out _ e).2; omega)
              replace O1 := Lib.hid (ownsRow_of_block O1.out (fun x e => hp.block x (World.ownsRow.lt O1.out x e).2 id))
              clear hK K hHeld
              have hHeld := hn
              clear hn
              try simp only [Act.put, List.setIfInBounds_toArray, List.set_cons_zero, List.set_cons_succ]
              obtain ⟨gb, hgb⟩ : ∃ gb, gb = t2.heap.size := ⟨_, rfl⟩
              rw [← hgb] at hB Ggb ⊢
              have B_gb := hB
              clear hB hgb hp
              refine wpAnyH_ready (rs := [9]) (by kernel_rfl) (by simp) ?_
              refine AllReadyH.cons rfl (fun K hK => ?_) AllReadyH.nil
              rw [if_pos (by kernel_rfl)]
              refine op_append_at _ _ 35 rfl v1.heap.size 45 entZ 13 Tryd.underlying35 infoREnt rfl (by decide) u1 (0 + 0) ([] ++ (flatL F (L.take 0))) rfl O1.out ⟨gb, 0, none⟩ 1 1 (F i).cs rfl rfl ?_ (cs_one _) (by omega) (Fp.size hHeld) ?_
              · intro j u hj; rw [add_eq]; simp only [World.cell?, B_gb.out, Nat.zero_add]; simpa [EntD.cs] using hj
              intro u2 t4 hown hgr _
              have hn := hHeld.grown hgr (fun x e => Or.inl (World.ownsRow.lt O1.out x e).1)
              have O2 := Lib.hid hown
              refine k_now hK hn ?_
              clear hK K hgr hHeld hown
              have hHeld := hn
              clear hn
              try simp only [Act.put, List.setIfInBounds_toArray, List.set_cons_zero, List.set_cons_succ]
              refine wpAnyH_ready (rs := [13]) (by kernel_rfl) (by simp) ?_
              refine AllReadyH.cons rfl (fun K hK => ?_) AllReadyH.nil
              rw [if_pos (by kernel_rfl)]
              refine op_append_at _ _ 35 rfl v1.heap.size 45 entZ 13 Tryd.underlying35 infoREnt rfl (by decide) u2 ((0 + 0) + 1) (([] ++ (flatL F (L.take 0))) ++ (F i).cs) rfl O2.out ⟨g, 0, none⟩ i cap (flatL F (L.drop 0)) rfl ?_ ?_ (flatL_one _ _) (by omega) (Fp.size hHeld) ?_
              · rw [flatL_len, List.length_drop]; first | (congr 1; have := HI.out.len; omega) | (have := HI.out.len; omega)
              · intro j u hj; have e9 : (⟨g, 0, none⟩ : Addr).add j = ⟨g, 0 + (0 * 13 + j), none⟩ := (by rw [Addr.add_mid]; congr 1; omega); rw [e9]; exact (hHeld.cell (p := ⟨g, 0 + (0 * 13 + j), none⟩) lgr (fun h => h)).trans (CR.out _ u (flatL_drop F L 0 j u (by have := HI.out.len; omega) hj))
              intro u3 t5 hown hgr _
              have hn := hHeld.grown hgr (fun x e => Or.inl (World.ownsRow.lt O2.out x e).1)
              have O3 := Lib.hid hown
              refine k_now hK hn ?_
              clear hK K hgr hHeld hown
              have hHeld := hn
              clear hn
              try simp only [Act.put, List.setIfInBounds_toArray, List.set_cons_zero, List.set_cons_succ]
              (refine take_at 14 (some 3) rfl rfl (by kernel_rfl) (by kernel_rfl) (by kernel_rfl) (fun _ _ _ h => h) (v := ?_) (by kernel_rfl) ?_ (by assumption) ?_; rotate_left; (focus (intro wS hSw; skip; go_simp; try with_reducible rfl)); (try simp only [Act.put, List.setIfInBounds_toArray, List.set_cons_zero, List.set_cons_succ]))
              refine wpAnyH_done (by kernel_rfl) ?_ _
              clear x0 x1 x2 x3 x4 x5 x6 x7 x8 x9 x10 x11 x12
              have HNx := Lib.hid (HN.out.trans hHeld (fun _ _ h => h))
              have HBw := Lib.hid (Fp.size HN.out)
              clear hHeld
              have HS := Lib.hid (HI.out.step (k := 0) hki0 HK1.out HK2.out)
              have HR := Lib.hid (ownsRow_mono (B' := w.heap.size) (row_ins (k := 0) HI.out.len hki0 O3.out) HBw.out)
              clear O1 O2 O3 Ggb
              go_wp2_with fail
              go_roundg (n - i)
              case measure => have := Hg.out; omega
              case rel => exact ⟨i + 1, _, _, by omega, by omega, by go_num, rfl, HR.out, HS.out, fun h => by omega, HNx.out⟩
            · go_simp
              refine k_gen hK (fun t6 hW => ?_)
              have hp := new_now hW
              have hB := new_blk hW
              clear hW
              have hn := Fp.trans hHeld hp (fun _ _ h => h.elim)
              refine ⟨hn, ?_⟩
              clear hK K hHeld
              have hHeld := hn
              clear hn
              try simp only [Act.put, List.setIfInBounds_toArray, List.set_cons_zero, List.set_cons_succ]
              obtain ⟨gb, hgb⟩ : ∃ gb, gb = t1.heap.size := ⟨_, rfl⟩
              rw [← hgb] at hB ⊢
              have B_gb := hB
              have Lgb := Lib.hid (show gb < t6.heap.size from hid_lt B_gb)
              clear hB hgb hp
              refine wpAnyH_ready (rs := [3]) (by kernel_rfl) (by simp) ?_
              refine AllReadyH.cons rfl (fun K hK => ?_) AllReadyH.nil
              rw [if_pos (by kernel_rfl)]
              refine op_append_at _ _ 35 rfl t6.heap.size 45 entZ 13 Tryd.underlying35 infoREnt rfl (by decide) (.slice none 0 0) 0 [] rfl (World.ownsRow_nil _ _ _ 13) ⟨g, 0, none⟩ 0 cap (flatL F (L.take 0)) rfl ?_ ?_ (flatL_one _ _) (by omega) (Nat.le_refl _) ?_
              · rw [flatL_len, List.length_take]; first | (congr 1; have := HI.out.len; omega) | (have := HI.out.len; omega)
              · intro j u hj; rw [add_eq]; exact (hHeld.cell (p := ⟨g, 0 + j, none⟩) lgr (fun h => h)).trans (CR.out j u (flatL_take F L 0 j u hj))
              intro u1 t7 hown hgr _
              have hn := hHeld.grown hgr (fun x e => by cases e)
              replace B_gb := Lib.hid ((hgr.block gb (hid_lt B_gb) (fun e => by cases e)).trans B_gb.out)
              have Ggb := Lib.hid (show ¬ u1.ownBlock = some gb from fun e => by have h1 := (World.ownsRow.lt hown _ e).1; have h2 := Lgb.out; omega)
              have O1 := Lib.hid (ownsRow_mono hown (Fp.size hHeld))
              refine k_now hK hn ?_
              clear hK K hgr hHeld hown
              have hHeld := hn
              clear hn
              try simp only [Act.put, List.setIfInBounds_toArray, List.set_cons_zero, List.set_cons_succ]
              refine wpAnyH_ready (rs := [9]) (by kernel_rfl) (by simp) ?_
              refine AllReadyH.cons rfl (fun K hK => ?_) AllReadyH.nil
              rw [if_pos (by kernel_rfl)]
              refine op_append_at _ _ 35 rfl v1.heap.size 45 entZ 13 Tryd.underlying35 infoREnt rfl (by decide) u1 (0 + 0) ([] ++ (flatL F (L.take 0))) rfl O1.out ⟨gb, 0, none⟩ 1 1 (F i).cs rfl rfl ?_ (cs_one _) (by omega) (Fp.size hHeld) ?_
              · intro j u hj; rw [add_eq]; simp only [World.cell?, B_gb.out, Nat.zero_add]; simpa [EntD.cs] using hj
              intro u2 t8 hown hgr _
              have hn := hHeld.grown hgr (fun x e => Or.inl (World.ownsRow.lt O1.out x e).1)
              have O2 := Lib.hid hown
              refine k_now hK hn ?_
              clear hK K hgr hHeld hown
              have hHeld := hn
              clear hn
              try simp only [Act.put, List.setIfInBounds_toArray, List.set_cons_zero, List.set_cons_succ]
              refine wpAnyH_ready (rs := [13]) (by kernel_rfl) (by simp) ?_
              refine AllReadyH.cons rfl (fun K hK => ?_) AllReadyH.nil
              rw [if_pos (by kernel_rfl)]
              refine op_append_at _ _ 35 rfl v1.heap.size 45 entZ 13 Tryd.underlying35 infoREnt rfl (by decide) u2 ((0 + 0) + 1) (([] ++ (flatL F (L.take 0))) ++ (F i).cs) rfl O2.out ⟨g, 0, none⟩ i cap (flatL F (L.drop 0)) rfl ?_ ?_ (flatL_one _ _) (by omega) (Fp.size hHeld) ?_
              · rw [flatL_len, List.length_drop]; first | (congr 1; have := HI.out.len; omega) | (have := HI.out.len; omega)
              · intro j u hj; have e9 : (⟨g, 0, none⟩ : Addr).add j = ⟨g, 0 + (0 * 13 + j), none⟩ := (by rw [Addr.add_mid]; congr 1; omega); rw [e9]; exact (hHeld.cell (p := ⟨g, 0 + (0 * 13 + j), none⟩) lgr (fun h => h)).trans (CR.out _ u (flatL_drop F L 0 j u (by have := HI.out.len; omega) hj))
              intro u3 t9 hown hgr _
              have hn := hHeld.grown hgr (fun x e => Or.inl (World.ownsRow.lt O2.out x e).1)
              have O3 := Lib.hid hown
              refine k_now hK hn ?_
              clear hK K hgr hHeld hown
              have hHeld := hn
              clear hn
              try simp only [Act.put, List.setIfInBounds_toArray, List.set_cons_zero, List.set_cons_succ]
              (refine take_at 14 (some 3) rfl rfl (by kernel_rfl) (by kernel_rfl) (by kernel_rfl) (fun _ _ _ h => h) (v := ?_) (by kernel_rfl) ?_ (by assumption) ?_; rotate_left; (focus (intro wS hSw; skip; go_simp; try with_reducible rfl)); (try simp only [Act.put, List.setIfInBounds_toArray, List.set_cons_zero, List.set_cons_succ]))
              refine wpAnyH_done (by kernel_rfl) ?_ _
              clear x0 x1 x2 x3 x4 x5 x6 x7 x8 x9 x10 x11 x12
              have HNx := Lib.hid (HN.out.trans hHeld (fun _ _ h => h))
              have HBw := Lib.hid (Fp.size HN.out)
              clear hHeld
              have HS := Lib.hid (HI.out.step (k := 0) hki0 HK1.out HK2.out)
              have HR := Lib.hid (ownsRow_mono (B' := w.heap.size) (row_ins (k := 0) HI.out.len hki0 O3.out) HBw.out)
              clear O1 O2 O3 Ggb
              go_wp2_with fail
              go_roundg (n - i)
              case measure => have := Hg.out; omega
              case rel => exact ⟨i + 1, _, _, by omega, by omega, by go_num, rfl, HR.out, HS.out, fun h => by omega, HNx.out⟩
    · obtain rfl : i = n := by omega
      go_wp2_with fail
      go_ret
      exact ⟨_, L, rfl, HI.out, HR0.out, HN.out⟩
end Go.Proofs.YtaiimkcmgiceeaaDoor
