/- Plain laws on the texts of addresses, prefixes and endpoints; no program. -/
import Derived.Test.YtdmbjndhdldggaaGreatDoorNum
namespace Go.Proofs.YtdmbjndhdldggaaGreatDoor
set_option linter.unusedVariables false
set_option linter.unusedSimpArgs false
open Go.Lib

theorem dec_no {u : Nat} {c : UInt8} (h : c.toNat < 48) : c ∉ decDigits u := fun hm => by have := dec_digits u c hm; omega
theorem dec_no58 {u : Nat} : (58 : UInt8) ∉ decDigits u := fun hm => by have := dec_digits u 58 hm; simp at this
theorem dec_no46 {u : Nat} : (46 : UInt8) ∉ decDigits u := dec_no (by decide)
theorem dec_no47 {u : Nat} : (47 : UInt8) ∉ decDigits u := dec_no (by decide)
theorem dec_no32 {u : Nat} : (32 : UInt8) ∉ decDigits u := dec_no (by decide)

/-- An address as a text. -/
def addrT (a : Nat) : List UInt8 := decDigits (a / 16777216) ++ 46 :: (decDigits (a / 65536 % 256) ++ 46 :: (decDigits (a / 256 % 256) ++ 46 :: decDigits (a % 256)))
def addr4 (a b c d : Nat) : Nat := ((a * 256 + b) * 256 + c) * 256 + d
theorem addr4_lt {a b c d : Nat} (ha : a ≤ 255) (hb : b ≤ 255) (hc : c ≤ 255) (hd : d ≤ 255) : addr4 a b c d < 4294967296 := by unfold addr4; omega
theorem addr4_parts {a b c d : Nat} (hb : b ≤ 255) (hc : c ≤ 255) (hd : d ≤ 255) :
    addr4 a b c d / 16777216 = a ∧ addr4 a b c d / 65536 % 256 = b ∧ addr4 a b c d / 256 % 256 = c ∧ addr4 a b c d % 256 = d := by
  unfold addr4; omega
theorem addr4_of {n : Nat} : addr4 (n / 16777216) (n / 65536 % 256) (n / 256 % 256) (n % 256) = n := by unfold addr4; omega
theorem addrT4 {a b c d : Nat} (hb : b ≤ 255) (hc : c ≤ 255) (hd : d ≤ 255) :
    addrT (addr4 a b c d) = decDigits a ++ 46 :: (decDigits b ++ 46 :: (decDigits c ++ 46 :: decDigits d)) := by
  obtain ⟨h1, h2, h3, h4⟩ := addr4_parts (a := a) hb hc hd
  unfold addrT
  rw [h1, h2, h3, h4]

/-- The address that a text tells. -/
def addrOf (l : List UInt8) : Option Nat :=
  match pieces 46 l with
  | [a, b, c, d] => match num 255 a, num 255 b, num 255 c, num 255 d with
    | some a, some b, some c, some d => some (addr4 a b c d)
    | _, _, _, _ => none
  | _ => none

theorem pieces_join {c : UInt8} : ∀ (l : List UInt8) (p : List UInt8) (ps : List (List UInt8)), pieces c l = p :: ps → l = p ++ (ps.flatMap fun q => c :: q)
  | [], p, ps, h => by simp [pieces] at h; obtain ⟨rfl, rfl⟩ := h; rfl
  | b :: l, p, ps, h => by
    rw [pieces] at h
    split at h
    · rename_i hb
      simp at h
      obtain ⟨rfl, rfl⟩ := h
      rcases hq : pieces c l with _ | ⟨q, qs⟩
      · exact absurd hq (pieces_ne c l)
      · have := pieces_join l q qs hq
        simp [hb, ← this]
    · rcases hq : pieces c l with _ | ⟨q, qs⟩
      · exact absurd hq (pieces_ne c l)
      · rw [hq] at h
        simp at h
        obtain ⟨rfl, rfl⟩ := h
        have := pieces_join l q qs hq
        rw [List.cons_append, ← this]

theorem addrOf_some {l : List UInt8} {n : Nat} : addrOf l = some n ↔ l = addrT n ∧ n < 4294967296 := by
  constructor
  · intro h
    unfold addrOf at h
    split at h
    · rename_i a b c d hp
      split at h
      · rename_i na nb nc nd ha hb hc hd
        cases h
        obtain ⟨ea, ha2⟩ := num_some.1 ha
        obtain ⟨eb, hb2⟩ := num_some.1 hb
        obtain ⟨ec, hc2⟩ := num_some.1 hc
        obtain ⟨ed, hd2⟩ := num_some.1 hd
        refine ⟨?_, addr4_lt ha2 hb2 hc2 hd2⟩
        rw [addrT4 hb2 hc2 hd2, pieces_join l _ _ hp, ← ea, ← eb, ← ec, ← ed]
        simp
      · cases h
    · cases h
  · rintro ⟨rfl, h⟩
    unfold addrOf addrT
    rw [pieces_append, pieces_append, pieces_append, pieces_no dec_no46, pieces_no dec_no46, pieces_no dec_no46, pieces_no dec_no46]
    simp only [List.cons_append, List.nil_append]
    rw [num_some.2 ⟨rfl, by omega⟩, num_some.2 ⟨rfl, by omega⟩, num_some.2 ⟨rfl, by omega⟩, num_some.2 ⟨rfl, by omega⟩]
    simp only [addr4_of]
theorem addrT_inj {a b : Nat} (ha : a < 4294967296) (hb : b < 4294967296) (h : addrT a = addrT b) : a = b := by
  have h1 := addrOf_some.2 ⟨rfl, ha⟩
  rw [h, addrOf_some.2 ⟨rfl, hb⟩] at h1
  exact (Option.some.inj h1).symm
theorem addrT_no {a : Nat} {c : UInt8} (h46 : c ≠ 46) (hd : ∀ u, c ∉ decDigits u) : c ∉ addrT a := by
  unfold addrT
  simp [h46, hd]
theorem addrT_len {a : Nat} (h : a < 4294967296) : (addrT a).length ≤ 15 := by
  have h1 := dec_len 3 (a / 16777216) (by omega) (by omega)
  have h2 := dec_len 3 (a / 65536 % 256) (by omega) (by omega)
  have h3 := dec_len 3 (a / 256 % 256) (by omega) (by omega)
  have h4 := dec_len 3 (a % 256) (by omega) (by omega)
  unfold addrT
  simp only [List.length_append, List.length_cons]
  omega

/-- As the document takes it apart: from behind. -/
def addrR (l : List UInt8) : Option Nat :=
  match cutLast 46 l with
  | none => none
  | some (l, p3) => match num 255 p3 with
    | none => none
    | some d => match cutLast 46 l with
      | none => none
      | some (l, p2) => match num 255 p2 with
        | none => none
        | some c => match cutLast 46 l with
          | none => none
          | some (l, p1) => match num 255 p1 with
            | none => none
            | some b => match num 255 l with
              | none => none
              | some a => some (addr4 a b c d)
theorem addrR_some {l : List UInt8} {n : Nat} : addrR l = some n ↔ l = addrT n ∧ n < 4294967296 := by
  constructor
  · intro h
    unfold addrR at h
    rcases h3 : cutLast 46 l with _ | ⟨l3, p3⟩
    · simp [h3] at h
    rcases hd : num 255 p3 with _ | d
    · simp [h3, hd] at h
    rcases h2 : cutLast 46 l3 with _ | ⟨l2, p2⟩
    · simp [h3, hd, h2] at h
    rcases hc : num 255 p2 with _ | c
    · simp [h3, hd, h2, hc] at h
    rcases h1 : cutLast 46 l2 with _ | ⟨l1, p1⟩
    · simp [h3, hd, h2, hc, h1] at h
    rcases hb : num 255 p1 with _ | b
    · simp [h3, hd, h2, hc, h1, hb] at h
    rcases ha : num 255 l1 with _ | a
    · simp [h3, hd, h2, hc, h1, hb, ha] at h
    simp only [h3, hd, h2, hc, h1, hb, ha, Option.some.injEq] at h
    subst h
    obtain ⟨e3, _⟩ := cutLast_some.1 h3
    obtain ⟨e2, _⟩ := cutLast_some.1 h2
    obtain ⟨e1, _⟩ := cutLast_some.1 h1
    obtain ⟨ea, ha2⟩ := num_some.1 ha
    obtain ⟨eb, hb2⟩ := num_some.1 hb
    obtain ⟨ec, hc2⟩ := num_some.1 hc
    obtain ⟨ed, hd2⟩ := num_some.1 hd
    refine ⟨?_, addr4_lt ha2 hb2 hc2 hd2⟩
    rw [addrT4 hb2 hc2 hd2, e3, e2, e1, ea, eb, ec, ed]
    simp
  · rintro ⟨rfl, h⟩
    have e : addrT n = ((decDigits (n / 16777216) ++ 46 :: decDigits (n / 65536 % 256)) ++ 46 :: decDigits (n / 256 % 256)) ++ 46 :: decDigits (n % 256) := by simp [addrT]
    unfold addrR
    rw [e, cutLast_some.2 ⟨rfl, dec_no46⟩]
    simp only []
    rw [num_some.2 ⟨rfl, by omega⟩]
    simp only []
    rw [cutLast_some.2 ⟨rfl, dec_no46⟩]
    simp only []
    rw [num_some.2 ⟨rfl, by omega⟩]
    simp only []
    rw [cutLast_some.2 ⟨rfl, dec_no46⟩]
    simp only []
    rw [num_some.2 ⟨rfl, by omega⟩, num_some.2 ⟨rfl, by omega⟩]
    simp only [addr4_of]
theorem addrR_eq (l : List UInt8) : addrR l = addrOf l := by
  rcases h : addrOf l with _ | n
  · rcases h2 : addrR l with _ | m
    · rfl
    · rw [addrOf_some.2 (addrR_some.1 h2)] at h; cases h
  · exact addrR_some.2 (addrOf_some.1 h)

/-- What stands ahead of the first byte of a kind, and behind it. -/
def cutFirst (c : UInt8) : List UInt8 → Option (List UInt8 × List UInt8)
  | [] => none
  | b :: l => if b = c then some ([], l) else match cutFirst c l with | some (x, y) => some (b :: x, y) | none => none
theorem cutFirst_none {c : UInt8} : ∀ {l : List UInt8}, cutFirst c l = none ↔ c ∉ l
  | [] => by simp [cutFirst]
  | b :: l => by
    have ih := cutFirst_none (c := c) (l := l)
    rw [cutFirst]
    by_cases hb : b = c
    · simp [hb]
    · rcases hq : cutFirst c l with _ | ⟨x, y⟩
      · simp [hb, ih.1 hq, Ne.symm hb]
      · have : c ∈ l := by
          apply Classical.byContradiction
          intro hn; rw [ih.2 hn] at hq; cases hq
        simp [hb, this]
theorem cutFirst_some {c : UInt8} : ∀ {l a b : List UInt8}, cutFirst c l = some (a, b) ↔ l = a ++ c :: b ∧ c ∉ a
  | [], a, b => by simp [cutFirst]
  | d :: l, a, b => by
    rw [cutFirst]
    by_cases hd : d = c
    · subst hd
      simp only [if_true, Option.some.injEq, Prod.mk.injEq]
      constructor
      · rintro ⟨rfl, rfl⟩; exact ⟨rfl, by simp⟩
      · rintro ⟨h1, h2⟩
        cases a with
        | nil => simp at h1; exact ⟨rfl, h1⟩
        | cons z zs => simp at h1; exact absurd (by rw [← h1.1]; simp) h2
    · simp only [hd, if_false]
      rcases hq : cutFirst c l with _ | ⟨x, y⟩
      · have h1 := cutFirst_none.1 hq
        constructor
        · intro h; cases h
        · rintro ⟨h2, h3⟩
          cases a with
          | nil => simp at h2; exact absurd h2.1 hd
          | cons z zs => simp at h2; exact absurd (by rw [h2.2]; simp) h1
      · obtain ⟨h1, h2⟩ := cutFirst_some.1 hq
        simp only [Option.some.injEq, Prod.mk.injEq]
        constructor
        · rintro ⟨rfl, rfl⟩; exact ⟨by rw [h1]; rfl, by simp [h2, Ne.symm hd]⟩
        · rintro ⟨h3, h4⟩
          cases a with
          | nil => simp at h3; exact absurd h3.1 hd
          | cons z zs =>
            simp only [List.mem_cons, not_or] at h4
            simp at h3
            have := (cutFirst_some (c := c) (l := l)).2 ⟨h3.2, h4.2⟩
            rw [hq] at this
            simp at this
            exact ⟨by rw [h3.1, this.1], this.2⟩

/-- An address, a byte, and a number at most M. -/
def withT (c : UInt8) (a n : Nat) : List UInt8 := addrT a ++ c :: decDigits n
/-- .. read, the byte being the first of its kind. -/
def withOf (c : UInt8) (M : Nat) (l : List UInt8) : Option (Nat × Nat) :=
  match cutFirst c l with
  | none => none
  | some (x, y) => match addrOf x, num M y with
    | some a, some n => some (a, n)
    | _, _ => none
/-- .. the last. -/
def withR (c : UInt8) (M : Nat) (l : List UInt8) : Option (Nat × Nat) :=
  match cutLast c l with
  | none => none
  | some (x, y) => match addrOf x, num M y with
    | some a, some n => some (a, n)
    | _, _ => none
theorem withOf_some {c : UInt8} (h46 : c ≠ 46) (hd : ∀ u, c ∉ decDigits u) {M : Nat} {l : List UInt8} {a n : Nat} : withOf c M l = some (a, n) ↔ l = withT c a n ∧ a < 4294967296 ∧ n ≤ M := by
  constructor
  · intro h
    unfold withOf at h
    rcases hq : cutFirst c l with _ | ⟨x, y⟩
    · simp [hq] at h
    rcases ha : addrOf x with _ | a'
    · simp [hq, ha] at h
    rcases hn : num M y with _ | n'
    · simp [hq, ha, hn] at h
    simp only [hq, ha, hn, Option.some.injEq, Prod.mk.injEq] at h
    obtain ⟨rfl, rfl⟩ := h
    obtain ⟨ea, ha2⟩ := addrOf_some.1 ha
    obtain ⟨en, hn2⟩ := num_some.1 hn
    refine ⟨?_, ha2, hn2⟩
    unfold withT
    rw [(cutFirst_some.1 hq).1, ea, en]
  · rintro ⟨rfl, ha, hn⟩
    unfold withOf withT
    rw [cutFirst_some.2 ⟨rfl, addrT_no h46 hd⟩]
    simp only []
    rw [addrOf_some.2 ⟨rfl, ha⟩, num_some.2 ⟨rfl, hn⟩]
theorem withR_some {c : UInt8} (hd : ∀ u, c ∉ decDigits u) {M : Nat} {l : List UInt8} {a n : Nat} : withR c M l = some (a, n) ↔ l = withT c a n ∧ a < 4294967296 ∧ n ≤ M := by
  constructor
  · intro h
    unfold withR at h
    rcases hq : cutLast c l with _ | ⟨x, y⟩
    · simp [hq] at h
    rcases ha : addrOf x with _ | a'
    · simp [hq, ha] at h
    rcases hn : num M y with _ | n'
    · simp [hq, ha, hn] at h
    simp only [hq, ha, hn, Option.some.injEq, Prod.mk.injEq] at h
    obtain ⟨rfl, rfl⟩ := h
    obtain ⟨ea, ha2⟩ := addrOf_some.1 ha
    obtain ⟨en, hn2⟩ := num_some.1 hn
    refine ⟨?_, ha2, hn2⟩
    unfold withT
    rw [(cutLast_some.1 hq).1, ea, en]
  · rintro ⟨rfl, ha, hn⟩
    unfold withR withT
    rw [cutLast_some.2 ⟨rfl, hd _⟩]
    simp only []
    rw [addrOf_some.2 ⟨rfl, ha⟩, num_some.2 ⟨rfl, hn⟩]
theorem withR_eq {c : UInt8} (h46 : c ≠ 46) (hd : ∀ u, c ∉ decDigits u) (M : Nat) (l : List UInt8) : withR c M l = withOf c M l := by
  rcases h : withOf c M l with _ | ⟨a, n⟩
  · rcases h2 : withR c M l with _ | ⟨a, n⟩
    · rfl
    · rw [(withOf_some h46 hd).2 ((withR_some hd).1 h2)] at h; cases h
  · exact (withR_some hd).2 ((withOf_some h46 hd).1 h)
end Go.Proofs.YtdmbjndhdldggaaGreatDoor
