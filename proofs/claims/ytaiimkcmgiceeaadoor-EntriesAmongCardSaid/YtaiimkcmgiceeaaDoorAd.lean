/- Plain laws on decimal numbers and on texts that are taken apart; no program. · Plain laws on the texts of addresses, prefixes and endpoints; no program. · The library's words for texts that are taken apart at a byte; no program. · Plain laws on the first bits of addresses; no program. -/
import Derived.Lib.ParseIntB
import Derived.Lib.ItoaNum
import Derived.Lib.SplitLaws
import Derived.Lib.IndexBytes
import Derived.Laws.BitsAllLaws
namespace Go.Proofs.YtaiimkcmgiceeaaDoor
set_option linter.unusedVariables false
set_option linter.unusedSimpArgs false
open Go.Lib

/-- The number that digits say. -/
def val (l : List UInt8) : Nat := l.foldl (fun a c => a * 10 + (c.toNat - 48)) 0
theorem val_snoc (l : List UInt8) (c : UInt8) : val (l ++ [c]) = val l * 10 + (c.toNat - 48) := by simp [val, List.foldl_append]
theorem dig_toNat (n : Nat) (h : n < 10) : (UInt8.ofNat (48 + n)).toNat = 48 + n := by
  rw [UInt8.toNat_ofNat']; omega

theorem dec_small {u : Nat} (h : u < 10) : decDigits u = [UInt8.ofNat (48 + u)] := by rw [decDigits, dif_pos h]
theorem dec_big {u : Nat} (h : ¬ u < 10) : decDigits u = decDigits (u / 10) ++ [UInt8.ofNat (48 + u % 10)] := by rw [decDigits, dif_neg h]
theorem dec_ne (u : Nat) : decDigits u ≠ [] := by
  by_cases h : u < 10
  · rw [dec_small h]; simp
  · rw [dec_big h]; simp

theorem val_dec : ∀ (k u : Nat), u ≤ k → val (decDigits u) = u
  | 0, u, h => by
    obtain rfl : u = 0 := by omega
    rw [dec_small (by omega)]; rfl
  | k + 1, u, h => by
    by_cases hu : u < 10
    · rw [dec_small hu]
      have := dig_toNat u hu
      simp only [val, List.foldl_cons, List.foldl_nil, this]
      omega
    · rw [dec_big hu, val_snoc, val_dec k (u / 10) (by omega), dig_toNat _ (by omega)]
      omega
theorem val_of_dec (u : Nat) : val (decDigits u) = u := val_dec u u (Nat.le_refl _)
theorem dec_inj {a b : Nat} (h : decDigits a = decDigits b) : a = b := by rw [← val_of_dec a, ← val_of_dec b, h]

theorem dec_digit : ∀ (k u : Nat), u ≤ k → ∀ c, c ∈ decDigits u → 48 ≤ c.toNat ∧ c.toNat ≤ 57
  | 0, u, h, c, hc => by
    obtain rfl : u = 0 := by omega
    rw [dec_small (by omega)] at hc
    simp at hc; subst hc; decide
  | k + 1, u, h, c, hc => by
    by_cases hu : u < 10
    · rw [dec_small hu] at hc
      obtain rfl := List.mem_singleton.1 hc
      have := dig_toNat u hu
      omega
    · rw [dec_big hu] at hc
      rcases List.mem_append.1 hc with hc | hc
      · exact dec_digit k (u / 10) (by omega) c hc
      · obtain rfl := List.mem_singleton.1 hc
        have := dig_toNat (u % 10) (by omega)
        omega
theorem dec_digits (u : Nat) : ∀ c, c ∈ decDigits u → 48 ≤ c.toNat ∧ c.toNat ≤ 57 := dec_digit u u (Nat.le_refl _)

/-- How many digits: at most k if the number is less than 10 ^ k. -/
theorem dec_len : ∀ (k u : Nat), 1 ≤ k → u < 10 ^ k → (decDigits u).length ≤ k
  | 0, _, h, _ => by omega
  | k + 1, u, _, h => by
    by_cases hu : u < 10
    · rw [dec_small hu]; simp
    · rw [dec_big hu, List.length_append]
      have h10 : u / 10 < 10 ^ k := by rw [Nat.pow_succ] at h; omega
      have hk : 1 ≤ k := by
        rcases k with _ | k
        · simp at h10; omega
        · omega
      have := dec_len k (u / 10) hk h10
      simp; omega

theorem foldl_ge (l : List UInt8) : ∀ a, a ≤ l.foldl (fun a c => a * 10 + (c.toNat - 48)) a := by
  induction l with
  | nil => intro a; exact Nat.le_refl _
  | cons c l ih => intro a; rw [List.foldl_cons]; exact Nat.le_trans (by omega) (ih _)

/-- The library's reading of digits that say no more than M. -/
theorem parse_val (M : Nat) (hM : M ≤ 18446744073709551615) : ∀ (l : List UInt8) (acc : Nat), (∀ c, c ∈ l → 48 ≤ c.toNat ∧ c.toNat ≤ 57) → l.foldl (fun a c => a * 10 + (c.toNat - 48)) acc ≤ M →
    parseUintM M acc l = .ok (l.foldl (fun a c => a * 10 + (c.toNat - 48)) acc)
  | [], acc, _, _ => rfl
  | c :: l, acc, hd, h => by
    rw [List.foldl_cons] at h
    have hg := foldl_ge l (acc * 10 + (c.toNat - 48))
    have hc := hd c (by simp)
    rw [parseUintM, if_pos hc, if_neg (by omega), if_neg (by omega), parse_val M hM l _ (fun x hx => hd x (by simp [hx])) h, List.foldl_cons]

theorem parse_le (M : Nat) : ∀ (l : List UInt8) (acc n : Nat), acc ≤ M → parseUintM M acc l = .ok n → n ≤ M ∧ n = l.foldl (fun a c => a * 10 + (c.toNat - 48)) acc
  | [], acc, n, ha, h => by
    simp [parseUintM] at h; subst h; exact ⟨ha, rfl⟩
  | c :: l, acc, n, ha, h => by
    rw [parseUintM] at h
    split at h
    · split at h
      · cases h
      · split at h
        · cases h
        · have := parse_le M l (acc * 10 + (c.toNat - 48)) n (by omega) h
          exact this
    · cases h

/-- A number as it is written, at most M. -/
def num (M : Nat) (l : List UInt8) : Option Nat := if l = decDigits (val l) ∧ val l ≤ M then some (val l) else none
theorem num_some {M n : Nat} {l : List UInt8} : num M l = some n ↔ l = decDigits n ∧ n ≤ M := by
  unfold num
  constructor
  · intro h
    split at h
    · rename_i hc
      cases h
      exact hc
    · cases h
  · rintro ⟨rfl, h⟩
    rw [val_of_dec, if_pos ⟨rfl, h⟩]
theorem num_none {M : Nat} {l : List UInt8} : num M l = none ↔ ∀ n, n ≤ M → l ≠ decDigits n := by
  constructor
  · intro h n hn e
    rw [num_some.2 ⟨e, hn⟩] at h; cases h
  · intro h
    rcases hn : num M l with _ | n
    · rfl
    · obtain ⟨e, hl⟩ := num_some.1 hn
      exact absurd e (h n hl)

/-- What the library reads of a number that may be. -/
theorem parse_num {B n : Nat} {l : List UInt8} (hB : 2 ^ B - 1 ≤ 18446744073709551615) (h : num (2 ^ B - 1) l = some n) : parseUintB B l = .ok n := by
  obtain ⟨rfl, hn⟩ := num_some.1 h
  unfold parseUintB
  rw [if_neg (dec_ne n)]
  have hv : (decDigits n).foldl (fun a c => a * 10 + (c.toNat - 48)) 0 = n := val_of_dec n
  rw [parse_val _ hB _ 0 (dec_digits n) (by rw [hv]; exact hn), hv]
/-- .. and of one that may not be: if it is read, then it is written otherwise. -/
theorem parse_no {B n : Nat} {l : List UInt8} (h : num (2 ^ B - 1) l = none) (hp : parseUintB B l = .ok n) : decDigits n ≠ l ∧ n ≤ 2 ^ B - 1 := by
  unfold parseUintB at hp
  split at hp
  · cases hp
  · obtain ⟨h1, _⟩ := parse_le _ l 0 n (Nat.zero_le _) hp
    exact ⟨fun e => num_none.1 h n h1 e.symm, h1⟩

/-- A text, taken apart at a byte. -/
def pieces (c : UInt8) : List UInt8 → List (List UInt8)
  | [] => [[]]
  | b :: l => if b = c then [] :: pieces c l else match pieces c l with | [] => [[b]] | p :: ps => (b :: p) :: ps
theorem pieces_ne (c : UInt8) : ∀ l, pieces c l ≠ []
  | [] => by simp [pieces]
  | b :: l => by
    rw [pieces]
    split
    · simp
    · split <;> simp
theorem pieces_no {c : UInt8} : ∀ {l : List UInt8}, c ∉ l → pieces c l = [l]
  | [], _ => rfl
  | b :: l, h => by
    simp only [List.mem_cons, not_or] at h
    rw [pieces, if_neg (fun e => h.1 e.symm), pieces_no h.2]
theorem pieces_append {c : UInt8} : ∀ (l m : List UInt8), pieces c (l ++ c :: m) = pieces c l ++ pieces c m
  | [], m => by simp [pieces]
  | b :: l, m => by
    rw [List.cons_append, pieces, pieces, pieces_append l m]
    split
    · simp
    · have := pieces_ne c l
      rcases hp : pieces c l with _ | ⟨p, ps⟩
      · exact absurd hp this
      · simp
theorem pieces_mem {c : UInt8} : ∀ {l p : List UInt8}, p ∈ pieces c l → c ∉ p
  | [], p, h => by simp [pieces] at h; subst h; simp
  | b :: l, p, h => by
    rw [pieces] at h
    split at h
    · rcases List.mem_cons.1 h with rfl | h
      · simp
      · exact pieces_mem h
    · rename_i hb
      rcases hq : pieces c l with _ | ⟨q, qs⟩
      · exact absurd hq (pieces_ne c l)
      · rw [hq] at h
        rcases List.mem_cons.1 h with rfl | h
        · have := pieces_mem (l := l) (p := q) (by rw [hq]; simp)
          simp only [List.mem_cons, not_or]
          exact ⟨fun e => hb e.symm, this⟩
        · exact pieces_mem (l := l) (by rw [hq]; simp [h])
theorem pieces_len (c : UInt8) : ∀ l, (pieces c l).length = l.count c + 1
  | [] => rfl
  | b :: l => by
    rw [pieces]
    have := pieces_len c l
    split
    · rename_i hb; subst hb; simp [this]
    · rename_i hb
      rcases hq : pieces c l with _ | ⟨q, qs⟩
      · exact absurd hq (pieces_ne c l)
      · rw [hq] at this
        simp only [List.length_cons] at this ⊢
        rw [List.count_cons_of_ne (by simpa using hb)]
        omega

/-- What stands ahead of the last byte of a kind, and behind it. -/
def cutLast (c : UInt8) : List UInt8 → Option (List UInt8 × List UInt8)
  | [] => none
  | b :: l => match cutLast c l with | some (x, y) => some (b :: x, y) | none => if b = c then some ([], l) else none
theorem cutLast_none {c : UInt8} : ∀ {l : List UInt8}, cutLast c l = none ↔ c ∉ l
  | [] => by simp [cutLast]
  | b :: l => by
    have ih := cutLast_none (c := c) (l := l)
    rw [cutLast]
    rcases hq : cutLast c l with _ | ⟨x, y⟩
    · have h1 := ih.1 hq
      by_cases hb : b = c
      · simp [hb]
      · simp [hb, h1, Ne.symm hb]
    · have h1 : c ∈ l := by
        apply Classical.byContradiction
        intro hn; rw [ih.2 hn] at hq; cases hq
      simp [h1]
theorem cutLast_some {c : UInt8} : ∀ {l a b : List UInt8}, cutLast c l = some (a, b) ↔ l = a ++ c :: b ∧ c ∉ b
  | [], a, b => by simp [cutLast]
  | d :: l, a, b => by
    rw [cutLast]
    rcases hq : cutLast c l with _ | ⟨x, y⟩
    · have h1 := cutLast_none.1 hq
      by_cases hd : d = c
      · subst hd
        simp only [if_true, Option.some.injEq, Prod.mk.injEq]
        constructor
        · rintro ⟨rfl, rfl⟩; exact ⟨rfl, h1⟩
        · rintro ⟨h2, h3⟩
          cases a with
          | nil => simp at h2; exact ⟨rfl, h2⟩
          | cons z zs => simp at h2; exact absurd (by rw [h2.2]; simp) h1
      · simp only [hd, if_false]
        constructor
        · intro h; cases h
        · rintro ⟨h2, h3⟩
          cases a with
          | nil => simp at h2; exact absurd h2.1 hd
          | cons z zs => simp at h2; exact absurd (by rw [h2.2]; simp) h1
    · obtain ⟨h1, h2⟩ := cutLast_some.1 hq
      simp only [Option.some.injEq, Prod.mk.injEq]
      constructor
      · rintro ⟨rfl, rfl⟩; exact ⟨by rw [h1]; rfl, h2⟩
      · rintro ⟨h3, h4⟩
        cases a with
        | nil => simp at h3; exact absurd (by rw [← h3.2, h1]; simp) h4
        | cons z zs =>
          simp at h3
          have := (cutLast_some (c := c) (l := l)).2 ⟨h3.2, h4⟩
          rw [hq] at this
          simp at this
          exact ⟨by rw [h3.1, this.1], this.2⟩
end Go.Proofs.YtaiimkcmgiceeaaDoor
namespace Go.Proofs.YtaiimkcmgiceeaaDoor
set_option linter.unusedVariables false
set_option linter.unusedSimpArgs false
open Go.Lib

theorem dec_no {u : Nat} {c : UInt8} (h : c.toNat < 48) : c ∉ decDigits u := fun hm => by have := dec_digits u c hm; omega
theorem dec_no58 {u : Nat} : (58 : UInt8) ∉ decDigits u := fun hm => by have := dec_digits u 58 hm; simp at this
theorem dec_no46 {u : Nat} : (46 : UInt8) ∉ decDigits u := dec_no (by decide)
theorem dec_no47 {u : Nat} : (47 : UInt8) ∉ decDigits u := dec_no (by decide)
theorem dec_no32 {u : Nat} : (32 : UInt8) ∉ decDigits u := dec_no (by decide)

/-- An address as a text. -/
def addrT (a : Nat) : List UInt8 := decDigits (a / 16777216) ++ 46 :: (decDigits (a / 65536 % 256) ++ 46 :: (decDigits (a / 256 % 256) ++ 46 :: decDigits (a % 256)))
def addr4 (a b c d : Nat) : Nat := ((a * 256 + b) * 256 + c) * 256 + d
theorem addr4_lt {a b c d : Nat} (ha : a ≤ 255) (hb : b ≤ 255) (hc : c ≤ 255) (hd : d ≤ 255) : addr4 a b c d < 4294967296 := by unfold addr4; omega
theorem addr4_parts {a b c d : Nat} (hb : b ≤ 255) (hc : c ≤ 255) (hd : d ≤ 255) :
    addr4 a b c d / 16777216 = a ∧ addr4 a b c d / 65536 % 256 = b ∧ addr4 a b c d / 256 % 256 = c ∧ addr4 a b c d % 256 = d := by
  unfold addr4; omega
theorem addr4_of {n : Nat} : addr4 (n / 16777216) (n / 65536 % 256) (n / 256 % 256) (n % 256) = n := by unfold addr4; omega
theorem addrT4 {a b c d : Nat} (hb : b ≤ 255) (hc : c ≤ 255) (hd : d ≤ 255) :
    addrT (addr4 a b c d) = decDigits a ++ 46 :: (decDigits b ++ 46 :: (decDigits c ++ 46 :: decDigits d)) := by
  obtain ⟨h1, h2, h3, h4⟩ := addr4_parts (a := a) hb hc hd
  unfold addrT
  rw [h1, h2, h3, h4]

/-- The address that a text tells. -/
def addrOf (l : List UInt8) : Option Nat :=
  match pieces 46 l with
  | [a, b, c, d] => match num 255 a, num 255 b, num 255 c, num 255 d with
    | some a, some b, some c, some d => some (addr4 a b c d)
    | _, _, _, _ => none
  | _ => none

theorem pieces_join {c : UInt8} : ∀ (l : List UInt8) (p : List UInt8) (ps : List (List UInt8)), pieces c l = p :: ps → l = p ++ (ps.flatMap fun q => c :: q)
  | [], p, ps, h => by simp [pieces] at h; obtain ⟨rfl, rfl⟩ := h; rfl
  | b :: l, p, ps, h => by
    rw [pieces] at h
    split at h
    · rename_i hb
      simp at h
      obtain ⟨rfl, rfl⟩ := h
      rcases hq : pieces c l with _ | ⟨q, qs⟩
      · exact absurd hq (pieces_ne c l)
      · have := pieces_join l q qs hq
        simp [hb, ← this]
    · rcases hq : pieces c l with _ | ⟨q, qs⟩
      · exact absurd hq (pieces_ne c l)
      · rw [hq] at h
        simp at h
        obtain ⟨rfl, rfl⟩ := h
        have := pieces_join l q qs hq
        rw [List.cons_append, ← this]

theorem addrOf_some {l : List UInt8} {n : Nat} : addrOf l = some n ↔ l = addrT n ∧ n < 4294967296 := by
  constructor
  · intro h
    unfold addrOf at h
    split at h
    · rename_i a b c d hp
      split at h
      · rename_i na nb nc nd ha hb hc hd
        cases h
        obtain ⟨ea, ha2⟩ := num_some.1 ha
        obtain ⟨eb, hb2⟩ := num_some.1 hb
        obtain ⟨ec, hc2⟩ := num_some.1 hc
        obtain ⟨ed, hd2⟩ := num_some.1 hd
        refine ⟨?_, addr4_lt ha2 hb2 hc2 hd2⟩
        rw [addrT4 hb2 hc2 hd2, pieces_join l _ _ hp, ← ea, ← eb, ← ec, ← ed]
        simp
      · cases h
    · cases h
  · rintro ⟨rfl, h⟩
    unfold addrOf addrT
    rw [pieces_append, pieces_append, pieces_append, pieces_no dec_no46, pieces_no dec_no46, pieces_no dec_no46, pieces_no dec_no46]
    simp only [List.cons_append, List.nil_append]
    rw [num_some.2 ⟨rfl, by omega⟩, num_some.2 ⟨rfl, by omega⟩, num_some.2 ⟨rfl, by omega⟩, num_some.2 ⟨rfl, by omega⟩]
    simp only [addr4_of]
theorem addrT_inj {a b : Nat} (ha : a < 4294967296) (hb : b < 4294967296) (h : addrT a = addrT b) : a = b := by
  have h1 := addrOf_some.2 ⟨rfl, ha⟩
  rw [h, addrOf_some.2 ⟨rfl, hb⟩] at h1
  exact (Option.some.inj h1).symm
theorem addrT_no {a : Nat} {c : UInt8} (h46 : c ≠ 46) (hd : ∀ u, c ∉ decDigits u) : c ∉ addrT a := by
  unfold addrT
  simp [h46, hd]
theorem addrT_len {a : Nat} (h : a < 4294967296) : (addrT a).length ≤ 15 := by
  have h1 := dec_len 3 (a / 16777216) (by omega) (by omega)
  have h2 := dec_len 3 (a / 65536 % 256) (by omega) (by omega)
  have h3 := dec_len 3 (a / 256 % 256) (by omega) (by omega)
  have h4 := dec_len 3 (a % 256) (by omega) (by omega)
  unfold addrT
  simp only [List.length_append, List.length_cons]
  omega

/-- As the document takes it apart: from behind. -/
def addrR (l : List UInt8) : Option Nat :=
  match cutLast 46 l with
  | none => none
  | some (l, p3) => match num 255 p3 with
    | none => none
    | some d => match cutLast 46 l with
      | none => none
      | some (l, p2) => match num 255 p2 with
        | none => none
        | some c => match cutLast 46 l with
          | none => none
          | some (l, p1) => match num 255 p1 with
            | none => none
            | some b => match num 255 l with
              | none => none
              | some a => some (addr4 a b c d)
theorem addrR_some {l : List UInt8} {n : Nat} : addrR l = some n ↔ l = addrT n ∧ n < 4294967296 := by
  constructor
  · intro h
    unfold addrR at h
    rcases h3 : cutLast 46 l with _ | ⟨l3, p3⟩
    · simp [h3] at h
    rcases hd : num 255 p3 with _ | d
    · simp [h3, hd] at h
    rcases h2 : cutLast 46 l3 with _ | ⟨l2, p2⟩
    · simp [h3, hd, h2] at h
    rcases hc : num 255 p2 with _ | c
    · simp [h3, hd, h2, hc] at h
    rcases h1 : cutLast 46 l2 with _ | ⟨l1, p1⟩
    · simp [h3, hd, h2, hc, h1] at h
    rcases hb : num 255 p1 with _ | b
    · simp [h3, hd, h2, hc, h1, hb] at h
    rcases ha : num 255 l1 with _ | a
    · simp [h3, hd, h2, hc, h1, hb, ha] at h
    simp only [h3, hd, h2, hc, h1, hb, ha, Option.some.injEq] at h
    subst h
    obtain ⟨e3, _⟩ := cutLast_some.1 h3
    obtain ⟨e2, _⟩ := cutLast_some.1 h2
    obtain ⟨e1, _⟩ := cutLast_some.1 h1
    obtain ⟨ea, ha2⟩ := num_some.1 ha
    obtain ⟨eb, hb2⟩ := num_some.1 hb
    obtain ⟨ec, hc2⟩ := num_some.1 hc
    obtain ⟨ed, hd2⟩ := num_some.1 hd
    refine ⟨?_, addr4_lt ha2 hb2 hc2 hd2⟩
    rw [addrT4 hb2 hc2 hd2, e3, e2, e1, ea, eb, ec, ed]
    simp
  · rintro ⟨rfl, h⟩
    have e : addrT n = ((decDigits (n / 16777216) ++ 46 :: decDigits (n / 65536 % 256)) ++ 46 :: decDigits (n / 256 % 256)) ++ 46 :: decDigits (n % 256) := by simp [addrT]
    unfold addrR
    rw [e, cutLast_some.2 ⟨rfl, dec_no46⟩]
    simp only []
    rw [num_some.2 ⟨rfl, by omega⟩]
    simp only []
    rw [cutLast_some.2 ⟨rfl, dec_no46⟩]
    simp only []
    rw [num_some.2 ⟨rfl, by omega⟩]
    simp only []
    rw [cutLast_some.2 ⟨rfl, dec_no46⟩]
    simp only []
    rw [num_some.2 ⟨rfl, by omega⟩, num_some.2 ⟨rfl, by omega⟩]
    simp only [addr4_of]
theorem addrR_eq (l : List UInt8) : addrR l = addrOf l := by
  rcases h : addrOf l with _ | n
  · rcases h2 : addrR l with _ | m
    · rfl
    · rw [addrOf_some.2 (addrR_some.1 h2)] at h; cases h
  · exact addrR_some.2 (addrOf_some.1 h)

/-- What stands ahead of the first byte of a kind, and behind it. -/
def cutFirst (c : UInt8) : List UInt8 → Option (List UInt8 × List UInt8)
  | [] => none
  | b :: l => if b = c then some ([], l) else match cutFirst c l with | some (x, y) => some (b :: x, y) | none => none
theorem cutFirst_none {c : UInt8} : ∀ {l : List UInt8}, cutFirst c l = none ↔ c ∉ l
  | [] => by simp [cutFirst]
  | b :: l => by
    have ih := cutFirst_none (c := c) (l := l)
    rw [cutFirst]
    by_cases hb : b = c
    · simp [hb]
    · rcases hq : cutFirst c l with _ | ⟨x, y⟩
      · simp [hb, ih.1 hq, Ne.symm hb]
      · have : c ∈ l := by
          apply Classical.byContradiction
          intro hn; rw [ih.2 hn] at hq; cases hq
        simp [hb, this]
theorem cutFirst_some {c : UInt8} : ∀ {l a b : List UInt8}, cutFirst c l = some (a, b) ↔ l = a ++ c :: b ∧ c ∉ a
  | [], a, b => by simp [cutFirst]
  | d :: l, a, b => by
    rw [cutFirst]
    by_cases hd : d = c
    · subst hd
      simp only [if_true, Option.some.injEq, Prod.mk.injEq]
      constructor
      · rintro ⟨rfl, rfl⟩; exact ⟨rfl, by simp⟩
      · rintro ⟨h1, h2⟩
        cases a with
        | nil => simp at h1; exact ⟨rfl, h1⟩
        | cons z zs => simp at h1; exact absurd (by rw [← h1.1]; simp) h2
    · simp only [hd, if_false]
      rcases hq : cutFirst c l with _ | ⟨x, y⟩
      · have h1 := cutFirst_none.1 hq
        constructor
        · intro h; cases h
        · rintro ⟨h2, h3⟩
          cases a with
          | nil => simp at h2; exact absurd h2.1 hd
          | cons z zs => simp at h2; exact absurd (by rw [h2.2]; simp) h1
      · obtain ⟨h1, h2⟩ := cutFirst_some.1 hq
        simp only [Option.some.injEq, Prod.mk.injEq]
        constructor
        · rintro ⟨rfl, rfl⟩; exact ⟨by rw [h1]; rfl, by simp [h2, Ne.symm hd]⟩
        · rintro ⟨h3, h4⟩
          cases a with
          | nil => simp at h3; exact absurd h3.1 hd
          | cons z zs =>
            simp only [List.mem_cons, not_or] at h4
            simp at h3
            have := (cutFirst_some (c := c) (l := l)).2 ⟨h3.2, h4.2⟩
            rw [hq] at this
            simp at this
            exact ⟨by rw [h3.1, this.1], this.2⟩

/-- An address, a byte, and a number at most M. -/
def withT (c : UInt8) (a n : Nat) : List UInt8 := addrT a ++ c :: decDigits n
/-- .. read, the byte being the first of its kind. -/
def withOf (c : UInt8) (M : Nat) (l : List UInt8) : Option (Nat × Nat) :=
  match cutFirst c l with
  | none => none
  | some (x, y) => match addrOf x, num M y with
    | some a, some n => some (a, n)
    | _, _ => none
/-- .. the last. -/
def withR (c : UInt8) (M : Nat) (l : List UInt8) : Option (Nat × Nat) :=
  match cutLast c l with
  | none => none
  | some (x, y) => match addrOf x, num M y with
    | some a, some n => some (a, n)
    | _, _ => none
theorem withOf_some {c : UInt8} (h46 : c ≠ 46) (hd : ∀ u, c ∉ decDigits u) {M : Nat} {l : List UInt8} {a n : Nat} : withOf c M l = some (a, n) ↔ l = withT c a n ∧ a < 4294967296 ∧ n ≤ M := by
  constructor
  · intro h
    unfold withOf at h
    rcases hq : cutFirst c l with _ | ⟨x, y⟩
    · simp [hq] at h
    rcases ha : addrOf x with _ | a'
    · simp [hq, ha] at h
    rcases hn : num M y with _ | n'
    · simp [hq, ha, hn] at h
    simp only [hq, ha, hn, Option.some.injEq, Prod.mk.injEq] at h
    obtain ⟨rfl, rfl⟩ := h
    obtain ⟨ea, ha2⟩ := addrOf_some.1 ha
    obtain ⟨en, hn2⟩ := num_some.1 hn
    refine ⟨?_, ha2, hn2⟩
    unfold withT
    rw [(cutFirst_some.1 hq).1, ea, en]
  · rintro ⟨rfl, ha, hn⟩
    unfold withOf withT
    rw [cutFirst_some.2 ⟨rfl, addrT_no h46 hd⟩]
    simp only []
    rw [addrOf_some.2 ⟨rfl, ha⟩, num_some.2 ⟨rfl, hn⟩]
theorem withR_some {c : UInt8} (hd : ∀ u, c ∉ decDigits u) {M : Nat} {l : List UInt8} {a n : Nat} : withR c M l = some (a, n) ↔ l = withT c a n ∧ a < 4294967296 ∧ n ≤ M := by
  constructor
  · intro h
    unfold withR at h
    rcases hq : cutLast c l with _ | ⟨x, y⟩
    · simp [hq] at h
    rcases ha : addrOf x with _ | a'
    · simp [hq, ha] at h
    rcases hn : num M y with _ | n'
    · simp [hq, ha, hn] at h
    simp only [hq, ha, hn, Option.some.injEq, Prod.mk.injEq] at h
    obtain ⟨rfl, rfl⟩ := h
    obtain ⟨ea, ha2⟩ := addrOf_some.1 ha
    obtain ⟨en, hn2⟩ := num_some.1 hn
    refine ⟨?_, ha2, hn2⟩
    unfold withT
    rw [(cutLast_some.1 hq).1, ea, en]
  · rintro ⟨rfl, ha, hn⟩
    unfold withR withT
    rw [cutLast_some.2 ⟨rfl, hd _⟩]
    simp only []
    rw [addrOf_some.2 ⟨rfl, ha⟩, num_some.2 ⟨rfl, hn⟩]
theorem withR_eq {c : UInt8} (h46 : c ≠ 46) (hd : ∀ u, c ∉ decDigits u) (M : Nat) (l : List UInt8) : withR c M l = withOf c M l := by
  rcases h : withOf c M l with _ | ⟨a, n⟩
  · rcases h2 : withR c M l with _ | ⟨a, n⟩
    · rfl
    · rw [(withOf_some h46 hd).2 ((withR_some hd).1 h2)] at h; cases h
  · exact (withR_some hd).2 ((withOf_some h46 hd).1 h)
end Go.Proofs.YtaiimkcmgiceeaaDoor
namespace Go.Proofs.YtaiimkcmgiceeaaDoor
set_option linter.unusedVariables false
set_option linter.unusedSimpArgs false
open Go.Lib

theorem ib_cut (c : UInt8) : ∀ l : List UInt8, (indexByte l c = -1 ∧ cutFirst c l = none) ∨ ∃ i : Nat, indexByte l c = i ∧ cutFirst c l = some (l.take i, l.drop (i + 1))
  | [] => .inl ⟨rfl, rfl⟩
  | b :: l => by
    by_cases hb : b = c
    · subst hb
      exact .inr ⟨0, by simp [indexByte], by simp [cutFirst]⟩
    · have hb2 : (b == c) = false := by simpa using hb
      rcases ib_cut c l with ⟨h1, h2⟩ | ⟨i, h1, h2⟩
      · exact .inl ⟨by simp [indexByte, hb2, h1], by simp [cutFirst, hb, h2]⟩
      · refine .inr ⟨i + 1, ?_, by simp [cutFirst, hb, h2]⟩
        have : ((i : Int) == -1) = false := by simp
        simp [indexByte, hb2, h1, this]

theorem lib_cut (l : List UInt8) (c : UInt8) : cut l [c] = match cutFirst c l with | some (a, b) => (a, b, true) | none => (l, [], false) := by
  unfold cut
  rw [index_one]
  rcases ib_cut c l with ⟨h1, h2⟩ | ⟨i, h1, h2⟩
  · rw [h1, h2]; rfl
  · rw [h1, h2, if_pos (by omega)]
    simp

theorem pieces_cut {c : UInt8} {l a b : List UInt8} (h : cutFirst c l = some (a, b)) : pieces c l = a :: pieces c b := by
  obtain ⟨rfl, h2⟩ := cutFirst_some.1 h
  rw [pieces_append, pieces_no h2]; rfl

theorem lib_split (c : UInt8) : ∀ (k : Nat) (l : List UInt8), l.count c = k → splitK [c] 0 k l = pieces c l
  | 0, l, h => by
    have : c ∉ l := List.count_eq_zero.1 h
    rw [pieces_no this]; rfl
  | k + 1, l, h => by
    rw [splitK, index_one]
    rcases ib_cut c l with ⟨_, h2⟩ | ⟨i, h1, h2⟩
    · have := cutFirst_none.1 h2
      rw [List.count_eq_zero.2 this] at h; omega
    · have hn : ((i : Int) == -1) = false := by simp
      rw [h1, hn]
      have h3 := cutFirst_some.1 h2
      have hc : (l.drop (i + 1)).count c = k := by
        have e := congrArg (List.count c) h3.1
        rw [List.count_append, List.count_cons_self, List.count_eq_zero.2 h3.2] at e
        omega
      rw [pieces_cut h2]
      simp only [Bool.false_eq_true, if_false, Int.toNat_natCast, Nat.add_zero, List.length_singleton]
      rw [lib_split c k _ hc]

theorem byte_str (s : ByteArray) : s = ⟨s.data.toList.toArray⟩ := by cases s; simp

/-- The pieces that strings.Split lays. -/
theorem split_list (c : UInt8) (l : List UInt8) : splitB ⟨#[c]⟩ 0 (countB ⟨l.toArray⟩ ⟨#[c]⟩) ⟨l.toArray⟩ = (pieces c l).map (fun p => ⟨p.toArray⟩) := by
  have h := splitB_data ⟨#[c]⟩ 0 (countB ⟨l.toArray⟩ ⟨#[c]⟩) ⟨l.toArray⟩
  have hk : countB ⟨l.toArray⟩ ⟨#[c]⟩ = l.count c := by
    show Lib.count l [c] = _
    exact count_one c l
  rw [hk] at h ⊢
  have h2 : (splitB ⟨#[c]⟩ 0 (l.count c) ⟨l.toArray⟩).map (·.data.toList) = pieces c l := by rw [h]; exact lib_split c _ l rfl
  rw [← h2, List.map_map]
  conv => lhs; rw [← List.map_id (splitB ⟨#[c]⟩ 0 (l.count c) ⟨l.toArray⟩)]
  exact List.map_congr_left fun s _ => byte_str s
theorem count_list (c : UInt8) (l : List UInt8) : countB ⟨l.toArray⟩ ⟨#[c]⟩ + 1 = (pieces c l).length := by
  rw [pieces_len]
  show Lib.count l [c] + 1 = _
  rw [count_one]
theorem pieces_le {c : UInt8} : ∀ {l p : List UInt8}, p ∈ pieces c l → p.length ≤ l.length
  | [], p, h => by simp [pieces] at h; subst h; exact Nat.le_refl _
  | b :: l, p, h => by
    rw [pieces] at h
    split at h
    · rcases List.mem_cons.1 h with rfl | h
      · simp
      · have := pieces_le h; simp; omega
    · rcases hq : pieces c l with _ | ⟨q, qs⟩
      · exact absurd hq (pieces_ne c l)
      · rw [hq] at h
        rcases List.mem_cons.1 h with rfl | h
        · have := pieces_le (l := l) (p := q) (by rw [hq]; simp)
          simp; omega
        · have := pieces_le (l := l) (p := p) (by rw [hq]; simp [h])
          simp; omega
end Go.Proofs.YtaiimkcmgiceeaaDoor
namespace Go.Proofs.YtaiimkcmgiceeaaDoor
set_option linter.unusedVariables false
set_option linter.unusedSimpArgs false

theorem maskN_mul {k : Nat} (hk : k ≤ 32) : 2 ^ 32 - 2 ^ k = (2 ^ (32 - k) - 1) * 2 ^ k := by
  rw [Nat.sub_mul, ← Nat.pow_add, Nat.sub_add_cancel hk, Nat.one_mul]
theorem and_mask {x k : Nat} (hx : x < 2 ^ 32) (hk : k ≤ 32) : x &&& (2 ^ 32 - 2 ^ k) = x / 2 ^ k * 2 ^ k := by
  apply Nat.eq_of_testBit_eq
  intro i
  rw [maskN_mul hk, Nat.testBit_and, Nat.testBit_mul_two_pow, Nat.testBit_mul_two_pow, Nat.testBit_two_pow_sub_one, Nat.testBit_div_two_pow]
  by_cases hki : k ≤ i
  · rw [show i - k + k = i from by omega]
    by_cases h32 : i < 32
    · simp [hki, show i - k < 32 - k from by omega]
    · have : x.testBit i = false := Nat.testBit_lt_two_pow (Nat.lt_of_lt_of_le hx (Nat.pow_le_pow_right (by omega) (by omega)))
      simp [this]
  · simp [hki]
theorem and_low {x k : Nat} (hk : k ≤ 32) : x &&& (4294967295 - (2 ^ 32 - 2 ^ k)) = x % 2 ^ k := by
  have h1 : 2 ^ k ≤ 2 ^ 32 := Nat.pow_le_pow_right (by omega) hk
  have h2 : 0 < 2 ^ k := Nat.two_pow_pos k
  have e : 4294967295 - (2 ^ 32 - 2 ^ k) = 2 ^ k - 1 := by
    have : (2 : Nat) ^ 32 = 4294967296 := by decide
    omega
  rw [e, Nat.and_two_pow_sub_one_eq_mod]
theorem xor_zero {a b : Nat} : a ^^^ b = 0 ↔ a = b := by
  constructor
  · intro h
    have : (a ^^^ b) ^^^ b = 0 ^^^ b := by rw [h]
    rw [Nat.xor_assoc, Nat.xor_self, Nat.xor_zero, Nat.zero_xor] at this
    exact this
  · rintro rfl; exact Nat.xor_self a
theorem xor_div {a b k : Nat} : (a ^^^ b) / 2 ^ k = 0 ↔ a / 2 ^ k = b / 2 ^ k := by
  rw [← Nat.shiftRight_eq_div_pow, ← Nat.shiftRight_eq_div_pow, ← Nat.shiftRight_eq_div_pow, Nat.shiftRight_xor_distrib, xor_zero]
theorem xor_lt {a b : Nat} (ha : a < 2 ^ 32) (hb : b < 2 ^ 32) : a ^^^ b < 2 ^ 32 := Nat.xor_lt_two_pow ha hb
theorem mask_zero {a b k : Nat} (ha : a < 2 ^ 32) (hb : b < 2 ^ 32) (hk : k ≤ 32) : (a ^^^ b) &&& (2 ^ 32 - 2 ^ k) = 0 ↔ a / 2 ^ k = b / 2 ^ k := by
  rw [and_mask (xor_lt ha hb) hk, ← xor_div]
  have h2 : 0 < 2 ^ k := Nat.two_pow_pos k
  constructor
  · intro h
    rcases Nat.mul_eq_zero.1 h with h | h
    · exact h
    · omega
  · intro h; rw [h]; simp
end Go.Proofs.YtaiimkcmgiceeaaDoor
