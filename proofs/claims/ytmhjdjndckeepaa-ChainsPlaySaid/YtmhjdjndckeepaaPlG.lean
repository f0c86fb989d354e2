/- ChainsPlay: two lists are the same; what both sides tell of a link. -/
import Derived.Test.YtmhjdjndckeepaaPlD
namespace Go.Proofs.Ytmhjdjndckeepaa
set_option linter.unusedVariables false
set_option linter.unusedSimpArgs false
open Go.RowKit

section
variable {w : World} {B B' : Nat} {v v' : Value} {ls : List Lk}
set_option maxHeartbeats 1000000 in
theorem same_ok (h1 : ERow 33 w B v ls) (h2 : ERow 53 w B' v' ls) (hlen : ls.length ≤ 100000) :
    Calls Try.prog 22 #[v, v'] w (Ret1 (.bool true) w) := by
  obtain ⟨a, cap, rfl, hcap, hrd⟩ := h1.read
  obtain ⟨a', cap', rfl, hcap', hrd'⟩ := h2.read
  have Hrd := Lib.hid hrd
  have Hrd' := Lib.hid hrd'
  clear hrd hrd' h1 h2
  go_enter Try.func22, Try.ntmps22
  go_wp2_with fail
  go_loopg [5] (ls.length + 1) (fun g i wx => ∃ k : Nat, k ≤ ls.length ∧ g = ls.length + 1 - k ∧ i = .int .i64 k ∧ NoW w wx)
  case atStart => exact ⟨0, Nat.zero_le _, rfl, rfl, Fp.refl _ _⟩
  case round =>
    obtain ⟨k, hk, hg, rfl, hf⟩ := hrel
    have Hg := Lib.hid hg
    clear hg
    by_cases hlt : k < ls.length
    · obtain ⟨g, rfl, lg, c0, c1, c2⟩ := Hrd.out k hlt
      obtain ⟨g', rfl, lg', c0', c1', c2'⟩ := Hrd'.out k hlt
      have f0 := (hf.cell (p := ⟨g, k * 3, none⟩) lg id).trans c0
      have f1 := (hf.cell (p := ⟨g, k * 3 + 1, none⟩) lg id).trans c1
      have f2 := (hf.cell (p := ⟨g, k * 3 + 2, none⟩) lg id).trans c2
      have f0' := (hf.cell (p := ⟨g', k * 3, none⟩) lg' id).trans c0'
      have f1' := (hf.cell (p := ⟨g', k * 3 + 1, none⟩) lg' id).trans c1'
      have f2' := (hf.cell (p := ⟨g', k * 3 + 2, none⟩) lg' id).trans c2'
      clear c0 c1 c2 c0' c1' c2'
      have Hf := Lib.hid hf
      clear hf
      obtain ⟨x, hx⟩ : ∃ x, x = ls[k] := ⟨_, rfl⟩
      rw [← hx] at f0 f1 f2 f0' f1' f2'
      clear hx
      obtain ⟨x0, x1, x2⟩ := x
      dsimp only at f0 f1 f2 f0' f1' f2'
      go_wp2_with fail
      go_quiet (fail)
      go_wp2_with fail
      go_roundg (ls.length - k)
      case measure => have := Hg.out; omega
      case rel => exact ⟨k + 1, by omega, by omega, by go_num, Hf.out.drewN _⟩
    · obtain rfl : k = ls.length := by omega
      go_wp2_with fail
      go_ret
      exact ⟨rfl, hf⟩
end

section
variable {w0 w : World} {bc bf bm rb gb : Nat} {σ : List Row}

theorem rfNext_hdl (r1 r2 : Row) (x : Nat × Lk) : rfNext ((r1 ++ x :: r2).map Prod.snd) r1.length = hdl r2 := by
  unfold rfNext
  have e : ((r1 ++ x :: r2).map Prod.snd)[r1.length + 1]? = r2.head?.map Prod.snd := by
    rw [List.getElem?_map, List.getElem?_append_right (by omega)]
    cases r2 <;> simp
  rw [e]
  cases r2 <;> rfl

/-- The document's Next and Where, where a link stands. -/
theorem pl_rnext_yes (h : Pl w0 bc bf bm σ rb gb (lks σ) w) (h64 : σ.length ≤ 64) (hcnt : σ.flatten.length ≤ 100000) {i : Nat} {r1 r2 : Row} {x : Nat × Lk} (hi : σ[i]? = some (r1 ++ x :: r2)) :
    Calls Try.prog 19 #[.pointer (some ⟨rb, 0, none⟩), lv x.2] w (Ret1 (.tuple #[lv (hdl r2).1, .bool (hdl r2).2, .int .i64 0]) w) := by
  have nd := h.st.rep.nd
  refine (rf_next h.rf x.2 (by rw [lks_len]; exact h64) (fun row hr => Nat.le_trans (lks_row hr) hcnt)).mono ?_
  rintro e w' ⟨hp, ⟨n, k, row, rfl, hn, hk⟩ | ⟨rfl, hno⟩⟩
  · obtain ⟨rfl, rfl, rfl⟩ := lks_uniq nd hi hn hk
    rw [rfNext_hdl]
    exact ⟨rfl, hp⟩
  · exact absurd rfl (lks_no.1 hno x (mem_flatten_of hi (by simp)))
theorem pl_rwhere_yes (h : Pl w0 bc bf bm σ rb gb (lks σ) w) (h64 : σ.length ≤ 64) (hcnt : σ.flatten.length ≤ 100000) {i : Nat} {r1 r2 : Row} {x : Nat × Lk} (hi : σ[i]? = some (r1 ++ x :: r2)) :
    Calls Try.prog 20 #[.pointer (some ⟨rb, 0, none⟩), lv x.2] w (Ret1 (.tuple #[.int .i64 i, .int .i64 r1.length]) w) := by
  have nd := h.st.rep.nd
  refine (rf_where h.rf x.2 (by rw [lks_len]; exact h64) (fun row hr => Nat.le_trans (lks_row hr) hcnt)).mono ?_
  rintro e w' ⟨hp, ⟨n, k, row, rfl, hn, hk⟩ | ⟨rfl, hno⟩⟩
  · obtain ⟨rfl, rfl, rfl⟩ := lks_uniq nd hi hn hk
    exact ⟨rfl, hp⟩
  · exact absurd rfl (lks_no.1 hno x (mem_flatten_of hi (by simp)))
/-- .. and where it stands nowhere. -/
theorem pl_rnext_no (h : Pl w0 bc bf bm σ rb gb (lks σ) w) (h64 : σ.length ≤ 64) (hcnt : σ.flatten.length ≤ 100000) {l : Lk} (hno : ∀ x, x ∈ σ.flatten → x.2 ≠ l) :
    Calls Try.prog 19 #[.pointer (some ⟨rb, 0, none⟩), lv l] w (Ret1 (.tuple #[lv lk0, .bool false, .int .i64 9]) w) := by
  refine (rf_next h.rf l (by rw [lks_len]; exact h64) (fun row hr => Nat.le_trans (lks_row hr) hcnt)).mono ?_
  rintro e w' ⟨hp, ⟨n, k, row, rfl, hn, hk⟩ | ⟨rfl, _⟩⟩
  · exact absurd (List.mem_of_getElem? hk) (lks_no.2 hno row (List.mem_of_getElem? hn))
  · exact ⟨rfl, hp⟩
theorem pl_rwhere_no (h : Pl w0 bc bf bm σ rb gb (lks σ) w) (h64 : σ.length ≤ 64) (hcnt : σ.flatten.length ≤ 100000) {l : Lk} (hno : ∀ x, x ∈ σ.flatten → x.2 ≠ l) :
    Calls Try.prog 20 #[.pointer (some ⟨rb, 0, none⟩), lv l] w (Ret1 (.tuple #[.int .i64 (-1), .int .i64 (-1)]) w) := by
  refine (rf_where h.rf l (by rw [lks_len]; exact h64) (fun row hr => Nat.le_trans (lks_row hr) hcnt)).mono ?_
  rintro e w' ⟨hp, ⟨n, k, row, rfl, hn, hk⟩ | ⟨rfl, _⟩⟩
  · exact absurd (List.mem_of_getElem? hk) (lks_no.2 hno row (List.mem_of_getElem? hn))
  · exact ⟨rfl, hp⟩

set_option maxHeartbeats 1000000 in
theorem rf_list2 {B : Nat} {L : List (List Lk)} (h : RfRep w B rb gb L) (x : Int) (n : Nat) (hx : x = n) {ls : List Lk} (hn : L[n]? = some ls) (h64 : L.length ≤ 64) :
    Calls Try.prog 21 #[.pointer (some ⟨rb, 0, none⟩), .int .i64 x] w fun e w' => w' = w ∧ ∃ v, e = .returned v ∧ ERow 53 w B v ls ∧ ∀ g, v.ownBlock = some g → rfOwn w rb gb g := by
  subst hx
  have c0 := h.c0
  have hlt : n < L.length := (List.getElem?_eq_some_iff.1 hn).1
  obtain ⟨arr, h1, h2, h3⟩ := h.arr
  obtain ⟨v, he, hr, _⟩ := h3 n ls hn
  have hv : w.cell? ⟨gb, n, none⟩ = some v := by simp [World.cell?, h1, he]
  have ho : ∀ g, v.ownBlock = some g → rfOwn w rb gb g := fun g hg => .inr (.inr ⟨arr, _, n, v, h1, he, hg⟩)
  have Hr := Lib.hid hr
  have Ho := Lib.hid ho
  clear hn hr h ho h1 he h2 h3
  go_enter Try.func21, Try.ntmps21
  go_wp2_with fail
  go_ret
  exact ⟨rfl, v, rfl, Hr.out, Ho.out⟩

/-- The document's List, by any number. -/
theorem pl_rlist (h : Pl w0 bc bf bm σ rb gb (lks σ) w) (h64 : σ.length ≤ 64) (x : Int) :
    Calls Try.prog 21 #[.pointer (some ⟨rb, 0, none⟩), .int .i64 x] w fun e w' => w' = w ∧ ∃ v, e = .returned v ∧ ERow 53 w w0.heap.size v (chainOf σ x) ∧ ∀ g, v.ownBlock = some g → rfOwn w rb gb g := by
  by_cases hx : 0 ≤ x ∧ x < σ.length
  · obtain ⟨i, rfl⟩ : ∃ i : Nat, x = i := ⟨x.toNat, by omega⟩
    have hil : i < σ.length := by omega
    have hi : σ[i]? = some σ[i] := List.getElem?_eq_getElem hil
    rw [chainOf_nat hi]
    exact rf_list2 h.rf i i rfl (lks_get hi) (by rw [lks_len]; exact h64)
  · refine (rf_list_out h.rf x (by rw [lks_len]; omega) (by rw [lks_len]; exact h64)).mono ?_
    rintro e w' ⟨rfl, rfl⟩
    refine ⟨rfl, _, rfl, ?_, by simp [Value.ownBlock]⟩
    unfold chainOf
    rw [if_neg hx]
    exact World.ownsRow_nil _ _ _ 3
end

/-- The chains' numbers, from behind. -/
def downs (n k : Nat) : List Int := (List.range k).map fun j => (n : Int) - (j : Nat)
theorem downs_len (n k : Nat) : (downs n k).length = k := by simp [downs]
theorem downs_succ (n k : Nat) : downs n (k + 1) = downs n k ++ [(n : Int) - k] := by simp [downs, List.range_succ]
theorem chainOf_out (σ : List Row) (x : Int) (hx : ¬ (0 ≤ x ∧ x < σ.length)) : chainOf σ x = [] := by unfold chainOf; rw [if_neg hx]
theorem downs_sum (σ : List Row) : ∀ k, k ≤ σ.length + 1 → ((downs σ.length k).flatMap (chainOf σ)).length = ((σ.drop (σ.length + 1 - k)).flatten).length
  | 0, _ => by rw [List.drop_eq_nil_of_le (by omega)]; simp [downs]
  | k + 1, hk => by
    rw [downs_succ, List.flatMap_append, List.length_append, downs_sum σ k (by omega)]
    by_cases h0 : k = 0
    · subst h0
      rw [List.drop_eq_nil_of_le (show σ.length ≤ σ.length + 1 - 0 by omega), List.drop_eq_nil_of_le (show σ.length ≤ σ.length + 1 - (0 + 1) by omega)]
      simp [chainOf_out σ σ.length (by omega)]
    · have hil : σ.length - k < σ.length := by omega
      have hi : σ[σ.length - k]? = some σ[σ.length - k] := List.getElem?_eq_getElem hil
      have e1 : (σ.length : Int) - k = ((σ.length - k : Nat) : Int) := by omega
      rw [e1]
      simp only [List.flatMap_cons, List.flatMap_nil, List.append_nil]
      rw [chainOf_nat hi, show σ.length + 1 - (k + 1) = σ.length - k from by omega, List.drop_eq_getElem_cons hil, show σ.length - k + 1 = σ.length + 1 - k from by omega]
      simp [Nat.add_comm]
theorem downs_all (σ : List Row) : ((downs σ.length (σ.length + 2)).flatMap (chainOf σ)).length = σ.flatten.length := by
  rw [downs_succ, List.flatMap_append, List.length_append, downs_sum σ _ (Nat.le_refl _)]
  have e : chainOf σ ((σ.length : Int) - ((σ.length + 1 : Nat) : Int)) = [] := chainOf_out σ _ (by omega)
  simp only [List.flatMap_cons, List.flatMap_nil, e]
  simp
end Go.Proofs.Ytmhjdjndckeepaa
