/- Plain laws on decimal numbers and on texts that are taken apart; no program. -/
import Derived.Lib.ParseIntB
import Derived.Lib.ItoaNum
namespace Go.Proofs.YtdmbjndhdldggaaGreatDoor
set_option linter.unusedVariables false
set_option linter.unusedSimpArgs false
open Go.Lib

/-- The number that digits say. -/
def val (l : List UInt8) : Nat := l.foldl (fun a c => a * 10 + (c.toNat - 48)) 0
theorem val_snoc (l : List UInt8) (c : UInt8) : val (l ++ [c]) = val l * 10 + (c.toNat - 48) := by simp [val, List.foldl_append]
theorem dig_toNat (n : Nat) (h : n < 10) : (UInt8.ofNat (48 + n)).toNat = 48 + n := by
  rw [UInt8.toNat_ofNat']; omega

theorem dec_small {u : Nat} (h : u < 10) : decDigits u = [UInt8.ofNat (48 + u)] := by rw [decDigits, dif_pos h]
theorem dec_big {u : Nat} (h : ¬ u < 10) : decDigits u = decDigits (u / 10) ++ [UInt8.ofNat (48 + u % 10)] := by rw [decDigits, dif_neg h]
theorem dec_ne (u : Nat) : decDigits u ≠ [] := by
  by_cases h : u < 10
  · rw [dec_small h]; simp
  · rw [dec_big h]; simp

theorem val_dec : ∀ (k u : Nat), u ≤ k → val (decDigits u) = u
  | 0, u, h => by
    obtain rfl : u = 0 := by omega
    rw [dec_small (by omega)]; rfl
  | k + 1, u, h => by
    by_cases hu : u < 10
    · rw [dec_small hu]
      have := dig_toNat u hu
      simp only [val, List.foldl_cons, List.foldl_nil, this]
      omega
    · rw [dec_big hu, val_snoc, val_dec k (u / 10) (by omega), dig_toNat _ (by omega)]
      omega
theorem val_of_dec (u : Nat) : val (decDigits u) = u := val_dec u u (Nat.le_refl _)
theorem dec_inj {a b : Nat} (h : decDigits a = decDigits b) : a = b := by rw [← val_of_dec a, ← val_of_dec b, h]

theorem dec_digit : ∀ (k u : Nat), u ≤ k → ∀ c, c ∈ decDigits u → 48 ≤ c.toNat ∧ c.toNat ≤ 57
  | 0, u, h, c, hc => by
    obtain rfl : u = 0 := by omega
    rw [dec_small (by omega)] at hc
    simp at hc; subst hc; decide
  | k + 1, u, h, c, hc => by
    by_cases hu : u < 10
    · rw [dec_small hu] at hc
      obtain rfl := List.mem_singleton.1 hc
      have := dig_toNat u hu
      omega
    · rw [dec_big hu] at hc
      rcases List.mem_append.1 hc with hc | hc
      · exact dec_digit k (u / 10) (by omega) c hc
      · obtain rfl := List.mem_singleton.1 hc
        have := dig_toNat (u % 10) (by omega)
        omega
theorem dec_digits (u : Nat) : ∀ c, c ∈ decDigits u → 48 ≤ c.toNat ∧ c.toNat ≤ 57 := dec_digit u u (Nat.le_refl _)

/-- How many digits: at most k if the number is less than 10 ^ k. -/
theorem dec_len : ∀ (k u : Nat), 1 ≤ k → u < 10 ^ k → (decDigits u).length ≤ k
  | 0, _, h, _ => by omega
  | k + 1, u, _, h => by
    by_cases hu : u < 10
    · rw [dec_small hu]; simp
    · rw [dec_big hu, List.length_append]
      have h10 : u / 10 < 10 ^ k := by rw [Nat.pow_succ] at h; omega
      have hk : 1 ≤ k := by
        rcases k with _ | k
        · simp at h10; omega
        · omega
      have := dec_len k (u / 10) hk h10
      simp; omega

theorem foldl_ge (l : List UInt8) : ∀ a, a ≤ l.foldl (fun a c => a * 10 + (c.toNat - 48)) a := by
  induction l with
  | nil => intro a; exact Nat.le_refl _
  | cons c l ih => intro a; rw [List.foldl_cons]; exact Nat.le_trans (by omega) (ih _)

/-- The library's reading of digits that say no more than M. -/
theorem parse_val (M : Nat) (hM : M ≤ 18446744073709551615) : ∀ (l : List UInt8) (acc : Nat), (∀ c, c ∈ l → 48 ≤ c.toNat ∧ c.toNat ≤ 57) → l.foldl (fun a c => a * 10 + (c.toNat - 48)) acc ≤ M →
    parseUintM M acc l = .ok (l.foldl (fun a c => a * 10 + (c.toNat - 48)) acc)
  | [], acc, _, _ => rfl
  | c :: l, acc, hd, h => by
    rw [List.foldl_cons] at h
    have hg := foldl_ge l (acc * 10 + (c.toNat - 48))
    have hc := hd c (by simp)
    rw [parseUintM, if_pos hc, if_neg (by omega), if_neg (by omega), parse_val M hM l _ (fun x hx => hd x (by simp [hx])) h, List.foldl_cons]

theorem parse_le (M : Nat) : ∀ (l : List UInt8) (acc n : Nat), acc ≤ M → parseUintM M acc l = .ok n → n ≤ M ∧ n = l.foldl (fun a c => a * 10 + (c.toNat - 48)) acc
  | [], acc, n, ha, h => by
    simp [parseUintM] at h; subst h; exact ⟨ha, rfl⟩
  | c :: l, acc, n, ha, h => by
    rw [parseUintM] at h
    split at h
    · split at h
      · cases h
      · split at h
        · cases h
        · have := parse_le M l (acc * 10 + (c.toNat - 48)) n (by omega) h
          exact this
    · cases h

/-- A number as it is written, at most M. -/
def num (M : Nat) (l : List UInt8) : Option Nat := if l = decDigits (val l) ∧ val l ≤ M then some (val l) else none
theorem num_some {M n : Nat} {l : List UInt8} : num M l = some n ↔ l = decDigits n ∧ n ≤ M := by
  unfold num
  constructor
  · intro h
    split at h
    · rename_i hc
      cases h
      exact hc
    · cases h
  · rintro ⟨rfl, h⟩
    rw [val_of_dec, if_pos ⟨rfl, h⟩]
theorem num_none {M : Nat} {l : List UInt8} : num M l = none ↔ ∀ n, n ≤ M → l ≠ decDigits n := by
  constructor
  · intro h n hn e
    rw [num_some.2 ⟨e, hn⟩] at h; cases h
  · intro h
    rcases hn : num M l with _ | n
    · rfl
    · obtain ⟨e, hl⟩ := num_some.1 hn
      exact absurd e (h n hl)

/-- What the library reads of a number that may be. -/
theorem parse_num {B n : Nat} {l : List UInt8} (hB : 2 ^ B - 1 ≤ 18446744073709551615) (h : num (2 ^ B - 1) l = some n) : parseUintB B l = .ok n := by
  obtain ⟨rfl, hn⟩ := num_some.1 h
  unfold parseUintB
  rw [if_neg (dec_ne n)]
  have hv : (decDigits n).foldl (fun a c => a * 10 + (c.toNat - 48)) 0 = n := val_of_dec n
  rw [parse_val _ hB _ 0 (dec_digits n) (by rw [hv]; exact hn), hv]
/-- .. and of one that may not be: if it is read, then it is written otherwise. -/
theorem parse_no {B n : Nat} {l : List UInt8} (h : num (2 ^ B - 1) l = none) (hp : parseUintB B l = .ok n) : decDigits n ≠ l ∧ n ≤ 2 ^ B - 1 := by
  unfold parseUintB at hp
  split at hp
  · cases hp
  · obtain ⟨h1, _⟩ := parse_le _ l 0 n (Nat.zero_le _) hp
    exact ⟨fun e => num_none.1 h n h1 e.symm, h1⟩

/-- A text, taken apart at a byte. -/
def pieces (c : UInt8) : List UInt8 → List (List UInt8)
  | [] => [[]]
  | b :: l => if b = c then [] :: pieces c l else match pieces c l with | [] => [[b]] | p :: ps => (b :: p) :: ps
theorem pieces_ne (c : UInt8) : ∀ l, pieces c l ≠ []
  | [] => by simp [pieces]
  | b :: l => by
    rw [pieces]
    split
    · simp
    · split <;> simp
theorem pieces_no {c : UInt8} : ∀ {l : List UInt8}, c ∉ l → pieces c l = [l]
  | [], _ => rfl
  | b :: l, h => by
    simp only [List.mem_cons, not_or] at h
    rw [pieces, if_neg (fun e => h.1 e.symm), pieces_no h.2]
theorem pieces_append {c : UInt8} : ∀ (l m : List UInt8), pieces c (l ++ c :: m) = pieces c l ++ pieces c m
  | [], m => by simp [pieces]
  | b :: l, m => by
    rw [List.cons_append, pieces, pieces, pieces_append l m]
    split
    · simp
    · have := pieces_ne c l
      rcases hp : pieces c l with _ | ⟨p, ps⟩
      · exact absurd hp this
      · simp
theorem pieces_mem {c : UInt8} : ∀ {l p : List UInt8}, p ∈ pieces c l → c ∉ p
  | [], p, h => by simp [pieces] at h; subst h; simp
  | b :: l, p, h => by
    rw [pieces] at h
    split at h
    · rcases List.mem_cons.1 h with rfl | h
      · simp
      · exact pieces_mem h
    · rename_i hb
      rcases hq : pieces c l with _ | ⟨q, qs⟩
      · exact absurd hq (pieces_ne c l)
      · rw [hq] at h
        rcases List.mem_cons.1 h with rfl | h
        · have := pieces_mem (l := l) (p := q) (by rw [hq]; simp)
          simp only [List.mem_cons, not_or]
          exact ⟨fun e => hb e.symm, this⟩
        · exact pieces_mem (l := l) (by rw [hq]; simp [h])
theorem pieces_len (c : UInt8) : ∀ l, (pieces c l).length = l.count c + 1
  | [] => rfl
  | b :: l => by
    rw [pieces]
    have := pieces_len c l
    split
    · rename_i hb; subst hb; simp [this]
    · rename_i hb
      rcases hq : pieces c l with _ | ⟨q, qs⟩
      · exact absurd hq (pieces_ne c l)
      · rw [hq] at this
        simp only [List.length_cons] at this ⊢
        rw [List.count_cons_of_ne (by simpa using hb)]
        omega

/-- What stands ahead of the last byte of a kind, and behind it. -/
def cutLast (c : UInt8) : List UInt8 → Option (List UInt8 × List UInt8)
  | [] => none
  | b :: l => match cutLast c l with | some (x, y) => some (b :: x, y) | none => if b = c then some ([], l) else none
theorem cutLast_none {c : UInt8} : ∀ {l : List UInt8}, cutLast c l = none ↔ c ∉ l
  | [] => by simp [cutLast]
  | b :: l => by
    have ih := cutLast_none (c := c) (l := l)
    rw [cutLast]
    rcases hq : cutLast c l with _ | ⟨x, y⟩
    · have h1 := ih.1 hq
      by_cases hb : b = c
      · simp [hb]
      · simp [hb, h1, Ne.symm hb]
    · have h1 : c ∈ l := by
        apply Classical.byContradiction
        intro hn; rw [ih.2 hn] at hq; cases hq
      simp [h1]
theorem cutLast_some {c : UInt8} : ∀ {l a b : List UInt8}, cutLast c l = some (a, b) ↔ l = a ++ c :: b ∧ c ∉ b
  | [], a, b => by simp [cutLast]
  | d :: l, a, b => by
    rw [cutLast]
    rcases hq : cutLast c l with _ | ⟨x, y⟩
    · have h1 := cutLast_none.1 hq
      by_cases hd : d = c
      · subst hd
        simp only [if_true, Option.some.injEq, Prod.mk.injEq]
        constructor
        · rintro ⟨rfl, rfl⟩; exact ⟨rfl, h1⟩
        · rintro ⟨h2, h3⟩
          cases a with
          | nil => simp at h2; exact ⟨rfl, h2⟩
          | cons z zs => simp at h2; exact absurd (by rw [h2.2]; simp) h1
      · simp only [hd, if_false]
        constructor
        · intro h; cases h
        · rintro ⟨h2, h3⟩
          cases a with
          | nil => simp at h2; exact absurd h2.1 hd
          | cons z zs => simp at h2; exact absurd (by rw [h2.2]; simp) h1
    · obtain ⟨h1, h2⟩ := cutLast_some.1 hq
      simp only [Option.some.injEq, Prod.mk.injEq]
      constructor
      · rintro ⟨rfl, rfl⟩; exact ⟨by rw [h1]; rfl, h2⟩
      · rintro ⟨h3, h4⟩
        cases a with
        | nil => simp at h3; exact absurd (by rw [← h3.2, h1]; simp) h4
        | cons z zs =>
          simp at h3
          have := (cutLast_some (c := c) (l := l)).2 ⟨h3.2, h4⟩
          rw [hq] at this
          simp at this
          exact ⟨by rw [h3.1, this.1], this.2⟩
end Go.Proofs.YtdmbjndhdldggaaGreatDoor
