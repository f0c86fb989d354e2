/- ChainsPlay: both sides' Put and Cut. -/
import Derived.Test.YtmhjdjndckeepaaPlD
import Derived.Test.YtmhjdjndckeepaaPlU
namespace Go.Proofs.Ytmhjdjndckeepaa
set_option linter.unusedVariables false
set_option linter.unusedSimpArgs false
open Go.RowKit

/-- What Cut answers, and leaves. -/
def CutRel (σ : List Row) (l : Lk) (q : Int) (τ : List Row) : Prop :=
  (q = 6 ∧ τ = σ ∧ ∀ x, x ∈ σ.flatten → x.2 ≠ l) ∨
  (q = 0 ∧ ∃ (i : Nat) (r1 r2 : Row) (x : Nat × Lk), σ[i]? = some (r1 ++ x :: r2) ∧ x.2 = l ∧ τ = σ.set i (r1 ++ r2))
/-- What Put answers, and leaves. -/
def PutRel (σ : List Row) (x : Int) (l : Lk) (q : Int) (τ : List Row) : Prop :=
  (q = 2 ∧ τ = σ ∧ ¬ (0 ≤ x ∧ x < σ.length)) ∨
  (q = 7 ∧ τ = σ ∧ (0 ≤ x ∧ x < σ.length) ∧ ¬ ∀ x, x ∈ σ.flatten → x.2 ≠ l) ∨
  (q = 0 ∧ (∀ x, x ∈ σ.flatten → x.2 ≠ l) ∧ ∃ (i b' : Nat) (r : Row), x = i ∧ σ[i]? = some r ∧ τ = σ.set i ((b', l) :: r))

theorem CutRel.small {σ τ : List Row} {l : Lk} {q : Int} (h : CutRel σ l q τ) : τ.length = σ.length ∧ τ.flatten.length ≤ σ.flatten.length + 1 := by
  rcases h with ⟨_, rfl, _⟩ | ⟨_, i, r1, r2, x, hi, _, rfl⟩
  · exact ⟨rfl, by omega⟩
  · have := (flatten_cut_perm σ i r1 r2 x hi).length_eq
    simp only [List.length_cons] at this
    exact ⟨List.length_set .., by omega⟩
theorem PutRel.small {σ τ : List Row} {x : Int} {l : Lk} {q : Int} (h : PutRel σ x l q τ) : τ.length = σ.length ∧ τ.flatten.length ≤ σ.flatten.length + 1 := by
  rcases h with ⟨_, rfl, _⟩ | ⟨_, rfl, _⟩ | ⟨_, _, i, b', r, _, hi, rfl⟩
  · exact ⟨rfl, by omega⟩
  · exact ⟨rfl, by omega⟩
  · have := (flatten_set_perm σ i r (b', l) hi).length_eq
    simp only [List.length_cons] at this
    exact ⟨List.length_set .., by omega⟩

section
variable {w0 w : World} {bc bf bm rb gb : Nat} {σ : List Row} {L : List (List Lk)}

/-- The blocks of both sides that may be written. -/
def plS (bc bf bm : Nat) (σ : List Row) (gb g : Nat) : Prop := g ∈ blocks bc bf bm σ ∨ g = gb

/-- The program's Cut, told with the state. -/
theorem pl_cut (h : Pl w0 bc bf bm σ rb gb L w) {l : Lk} (hl : Lok l) :
    Calls Try.prog 12 #[.pointer (some ⟨bc, 0, none⟩), lv l] w fun e w' => ∃ q τ, e = .returned (.int .i64 q) ∧ Pl w0 bc bf bm τ rb gb L w' ∧ CutRel σ l q τ ∧ Fp (plS bc bf bm σ gb) w w' := by
  by_cases hno : ∀ x, x ∈ σ.flatten → x.2 ≠ l
  · refine (cut_none h.st.rep hl hno).mono ?_
    rintro e w' ⟨rfl, hp⟩
    exact ⟨6, σ, rfl, h.low hp, .inl ⟨rfl, rfl, hno⟩, hp.mono fun _ _ h => h.elim⟩
  · obtain ⟨i, r1, r2, x, hi, rfl⟩ := stands hno
    refine (cut_ok h.st.rep hi).mono ?_
    rintro e w' ⟨rfl, hs⟩
    exact ⟨0, _, rfl, h.cut hi hs, .inr ⟨rfl, i, r1, r2, x, hi, rfl, rfl⟩, hs.2.mono fun _ _ h => .inl h⟩

/-- The document's Cut behind the program's. -/
theorem pl_rcut {τ : List Row} (h : Pl w0 bc bf bm τ rb gb (lks σ) w) (nd : (σ.flatten.map Prod.snd).Nodup) (h64 : σ.length ≤ 64) (hcnt : σ.flatten.length ≤ 100000) (l : Lk) (q : Int) (hτ : CutRel σ l q τ) :
    Calls Try.prog 29 #[.pointer (some ⟨rb, 0, none⟩), lv l] w fun e w' => e = .returned (.int .i64 q) ∧ Pl w0 bc bf bm τ rb gb (lks τ) w' ∧ Fp (· = gb) w w' := by
  refine (rf_cut h.rf h.st.fp.size l (by rw [lks_len]; exact h64) (fun row hr => Nat.le_trans (lks_row hr) hcnt)).mono ?_
  rintro e w' (⟨rfl, hp, hno⟩ | ⟨rfl, n, k, row, hn, hk, hs⟩)
  · have hno' := lks_no.1 hno
    rcases hτ with ⟨rfl, rfl, _⟩ | ⟨_, i, r1, r2, x, hi, rfl, _⟩
    · exact ⟨rfl, h.low hp, hp.mono fun _ _ h => h.elim⟩
    · exact absurd rfl (hno' x (mem_flatten_of hi (by simp)))
  · obtain ⟨y, hy, hyl⟩ := lks_mem hn hk
    have hyes : ¬ ∀ x, x ∈ σ.flatten → x.2 ≠ l := fun h => h y hy hyl
    rcases hτ with ⟨_, _, h1⟩ | ⟨rfl, i, r1, r2, x, hi, rfl, rfl⟩
    · exact absurd h1 hyes
    · obtain ⟨rfl, rfl, rfl⟩ := lks_uniq nd hi hn hk
      refine ⟨rfl, ?_, hs.fp⟩
      have h2 := h.ref hs
      have e : lks (σ.set n (r1 ++ r2)) = (lks σ).set n (((r1 ++ x :: r2).map Prod.snd).take r1.length ++ ((r1 ++ x :: r2).map Prod.snd).drop (r1.length + 1)) := by
        rw [lks_set]
        congr 1
        simp [List.take_append, List.drop_append]
      rw [e]
      exact h2

/-- The program's Put, told with the state. -/
theorem pl_put (h : Pl w0 bc bf bm σ rb gb L w) (x : Int) {l : Lk} (hl : Lok l) :
    Calls Try.prog 9 #[.pointer (some ⟨bc, 0, none⟩), .int .i64 x, lv l] w fun e w' => ∃ q τ, e = .returned (.int .i64 q) ∧ Pl w0 bc bf bm τ rb gb L w' ∧ PutRel σ x l q τ ∧ Fp (plS bc bf bm σ gb) w w' := by
  by_cases hx : 0 ≤ x ∧ x < σ.length
  · obtain ⟨i, rfl⟩ : ∃ i : Nat, x = i := ⟨x.toNat, by omega⟩
    have hil : i < σ.length := by omega
    by_cases hno : ∀ x, x ∈ σ.flatten → x.2 ≠ l
    · have hi : σ[i]? = some σ[i] := List.getElem?_eq_getElem hil
      refine (put_ok h.st.rep hi hl hno).mono ?_
      rintro e w' ⟨rfl, b', hb, hs⟩
      exact ⟨0, _, rfl, h.put hi hb hs, .inr (.inr ⟨rfl, hno, i, b', _, rfl, hi, rfl⟩), hs.2.mono fun _ _ h => .inl h⟩
    · have hno2 := hno
      obtain ⟨j, r1, r2, y, hj, rfl⟩ := stands hno
      refine (put_have h.st.rep hil (mem_flatten_of hj (List.mem_append_right _ (List.mem_cons_self ..)))).mono ?_
      rintro e w' ⟨rfl, hp⟩
      exact ⟨7, σ, rfl, h.low hp, .inr (.inl ⟨rfl, rfl, hx, hno2⟩), hp.mono fun _ _ h => h.elim⟩
  · refine (put_arg h.st.rep x hx l).mono ?_
    rintro e w' ⟨rfl, hp⟩
    exact ⟨2, σ, rfl, h.low hp, .inl ⟨rfl, rfl, hx⟩, hp.mono fun _ _ h => h.elim⟩

/-- The document's Put behind the program's. -/
theorem pl_rput {τ : List Row} (h : Pl w0 bc bf bm τ rb gb (lks σ) w) (h64 : σ.length ≤ 64) (hcnt : σ.flatten.length ≤ 100000) (x : Int) (l : Lk) (q : Int) (hτ : PutRel σ x l q τ) :
    Calls Try.prog 30 #[.pointer (some ⟨rb, 0, none⟩), .int .i64 x, lv l] w fun e w' => e = .returned (.int .i64 q) ∧ Pl w0 bc bf bm τ rb gb (lks τ) w' ∧ Fp (· = gb) w w' := by
  by_cases hx : 0 ≤ x ∧ x < σ.length
  · obtain ⟨i, rfl⟩ : ∃ i : Nat, x = i := ⟨x.toNat, by omega⟩
    have hil : i < σ.length := by omega
    refine (rf_put h.rf h.st.fp.size i i rfl (by rw [lks_len]; exact hil) l (by rw [lks_len]; exact h64) (fun row hr => Nat.le_trans (lks_row hr) hcnt)).mono ?_
    rintro e w' (⟨rfl, hp, row, hrow, hlr⟩ | ⟨rfl, hno, ls, hls, hs⟩)
    · have hyes : ¬ ∀ x, x ∈ σ.flatten → x.2 ≠ l := fun h => lks_no.2 h row hrow hlr
      rcases hτ with ⟨_, _, h1⟩ | ⟨rfl, rfl, _⟩ | ⟨_, h1, _⟩
      · exact absurd hx h1
      · exact ⟨rfl, h.low hp, hp.mono fun _ _ h => h.elim⟩
      · exact absurd h1 hyes
    · have hno' := lks_no.1 hno
      rcases hτ with ⟨_, _, h1⟩ | ⟨_, _, _, h1⟩ | ⟨rfl, _, j, b', r, hj, hr, rfl⟩
      · exact absurd hx h1
      · exact absurd hno' h1
      · obtain rfl : i = j := by omega
        refine ⟨rfl, ?_, hs.fp⟩
        have h2 := h.ref hs
        have h3 := lks_get hr
        rw [hls] at h3
        cases h3
        rw [lks_set]
        exact h2
  · refine (rf_put_out h.rf x (by rw [lks_len]; omega) l (by rw [lks_len]; exact h64)).mono ?_
    rintro e w' ⟨rfl, hp⟩
    rcases hτ with ⟨rfl, rfl, _⟩ | ⟨_, _, h1, _⟩ | ⟨_, _, j, b', r, hj, hr, rfl⟩
    · exact ⟨rfl, h.low hp, hp.mono fun _ _ h => h.elim⟩
    · exact absurd h1 hx
    · have := (List.getElem?_eq_some_iff.1 hr).1
      omega
end
end Go.Proofs.Ytmhjdjndckeepaa
