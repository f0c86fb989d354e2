/- Chapter 18, EntriesAmong: that the library's stable sort is one (no program here). -/
import Derived.Test.YtaiimkcmgiceeaaDoorAmV
namespace Go.Proofs.YtaiimkcmgiceeaaDoor
set_option linter.unusedVariables false
set_option linter.unusedSimpArgs false
open Go.RowKit Go.Lib Go.Sort
section
variable {α : Type} [Inhabited α]
theorem mvUp_get (a : Nat) : ∀ (n : Nat) (d : Array α) (t : Nat), a + n < d.size → (mvUp a n d)[t]! = if t < a then d[t]! else if t < a + n then d[t + 1]! else if t = a + n then d[a]! else d[t]!
  | 0, d, t, h => by
    simp only [mvUp]
    split
    · rfl
    · split
      · omega
      · split
        · rename_i e; rw [e]; simp
        · rfl
  | n + 1, d, t, h => by
    rw [mvUp, swp_get _ (by rw [size_mvUp]; omega) (by rw [size_mvUp]; omega)]
    rw [mvUp_get a n d (a + n) (by omega), mvUp_get a n d (a + n + 1) (by omega), mvUp_get a n d t (by omega)]
    repeat' split
    all_goals first | omega | rfl | (congr 1 <;> omega)
theorem mvDown_get (m : Nat) : ∀ (n : Nat) (d : Array α) (t : Nat), n ≤ m → m < d.size → (mvDown m n d)[t]! = if t < m - n then d[t]! else if t = m - n then d[m]! else if t ≤ m then d[t - 1]! else d[t]!
  | 0, d, t, h, h2 => by
    simp only [mvDown]
    repeat' split
    all_goals first | omega | rfl | (congr 1 <;> omega)
  | n + 1, d, t, h, h2 => by
    have e := swp_get (mvDown m n d) (i := m - n) (j := m - n - 1) (by simp only [size_mvDown]; omega) (by simp only [size_mvDown]; omega) t
    rw [mvDown, e]
    rw [mvDown_get m n d (m - n) (by omega) h2, mvDown_get m n d (m - n - 1) (by omega) h2, mvDown_get m n d t (by omega) h2]
    repeat' split
    all_goals first | omega | rfl | (congr 1 <;> omega)
theorem swr_get (a b : Nat) : ∀ (n : Nat) (d : Array α) (t : Nat), a + n ≤ b → b + n ≤ d.size → (swr a b n d)[t]! = if a ≤ t ∧ t < a + n then d[t - a + b]! else if b ≤ t ∧ t < b + n then d[t - b + a]! else d[t]!
  | 0, d, t, h, h2 => by
    simp only [swr]
    repeat' split
    all_goals first | omega | rfl
  | n + 1, d, t, h, h2 => by
    rw [swr, swp_get _ (by rw [size_swr]; omega) (by rw [size_swr]; omega)]
    rw [swr_get a b n d (a + n) (by omega) (by omega), swr_get a b n d (b + n) (by omega) (by omega), swr_get a b n d t (by omega) (by omega)]
    repeat' split
    all_goals first | omega | rfl | (congr 1 <;> omega)
theorem rotL_get (m : Nat) : ∀ (f i j : Nat) (d : Array α) (t : Nat), i + j ≤ f → 1 ≤ i → 1 ≤ j → i ≤ m → m + j ≤ d.size → (rotL m f i j d)[t]! = if m - i ≤ t ∧ t < m - i + j then d[t + i]! else if m - i + j ≤ t ∧ t < m + j then d[t - j]! else d[t]!
  | 0, i, j, d, t, hf, hi, hj, him, hjm => by omega
  | f + 1, i, j, d, t, hf, hi, hj, him, hjm => by
    rw [rotL]
    by_cases c1 : i = j
    · rw [if_pos c1, swr_get _ _ _ _ _ (by omega) (by omega)]
      repeat' split
      all_goals first | omega | rfl | (congr 1 <;> omega)
    · rw [if_neg c1]
      by_cases c2 : j < i
      · rw [if_pos c2, rotL_get m f (i - j) j _ t (by omega) (by omega) hj (by omega) (by rw [size_swr]; omega)]
        rw [swr_get _ _ _ _ _ (by omega) (by omega), swr_get _ _ _ _ _ (by omega) (by omega), swr_get _ _ _ _ _ (by omega) (by omega)]
        repeat' split
        all_goals first | omega | rfl | (congr 1 <;> omega)
      · rw [if_neg c2, rotL_get m f i (j - i) _ t (by omega) hi (by omega) him (by rw [size_swr]; omega)]
        rw [swr_get _ _ _ _ _ (by omega) (by omega), swr_get _ _ _ _ _ (by omega) (by omega), swr_get _ _ _ _ _ (by omega) (by omega)]
        repeat' split
        all_goals first | omega | rfl | (congr 1 <;> omega)
theorem mvUp_perm (a lo hi : Nat) : ∀ (n : Nat) (d : Array α), lo ≤ a → a + n < hi → hi ≤ d.size → PermIn lo hi d (mvUp a n d)
  | 0, d, _, _, _ => permIn_refl _ _ _
  | n + 1, d, h1, h2, h3 => permIn_trans _ _ _ _ _ (mvUp_perm a lo hi n d h1 (by omega) h3) (swp_permIn _ _ _ _ _ (by omega) (by omega) (by omega) (by omega) (by rw [size_mvUp]; exact h3))
theorem mvDown_perm (m lo hi : Nat) : ∀ (n : Nat) (d : Array α), lo + n ≤ m → m < hi → hi ≤ d.size → PermIn lo hi d (mvDown m n d)
  | 0, d, _, _, _ => permIn_refl _ _ _
  | n + 1, d, h1, h2, h3 => permIn_trans _ _ _ _ _ (mvDown_perm m lo hi n d (by omega) h2 h3) (swp_permIn _ _ _ _ _ (by omega) (by omega) (by omega) (by omega) (by rw [size_mvDown]; exact h3))
theorem swr_perm (a b lo hi : Nat) : ∀ (n : Nat) (d : Array α), lo ≤ a → a + n ≤ hi → lo ≤ b → b + n ≤ hi → hi ≤ d.size → PermIn lo hi d (swr a b n d)
  | 0, d, _, _, _, _, _ => permIn_refl _ _ _
  | n + 1, d, h1, h2, h3, h4, h5 => permIn_trans _ _ _ _ _ (swr_perm a b lo hi n d h1 (by omega) h3 (by omega) h5) (swp_permIn _ _ _ _ _ (by omega) (by omega) (by omega) (by omega) (by rw [size_swr]; exact h5))
theorem rotL_perm (m lo hi : Nat) : ∀ (f i j : Nat) (d : Array α), lo + i ≤ m → m + j ≤ hi → hi ≤ d.size → PermIn lo hi d (rotL m f i j d)
  | 0, i, j, d, _, _, _ => permIn_refl _ _ _
  | f + 1, i, j, d, h1, h2, h3 => by
    rw [rotL]
    by_cases c1 : i = j
    · rw [if_pos c1]; exact swr_perm _ _ _ _ _ _ (by omega) (by omega) (by omega) (by omega) h3
    · rw [if_neg c1]
      by_cases c2 : j < i
      · rw [if_pos c2]
        exact permIn_trans _ _ _ _ _ (swr_perm _ _ lo hi _ d (by omega) (by omega) (by omega) (by omega) h3) (rotL_perm m lo hi f _ _ _ (by omega) h2 (by rw [size_swr]; exact h3))
      · rw [if_neg c2]
        exact permIn_trans _ _ _ _ _ (swr_perm _ _ lo hi _ d (by omega) (by omega) (by omega) (by omega) h3) (rotL_perm m lo hi f _ _ _ h1 (by omega) (by rw [size_swr]; exact h3))
theorem bs_spec {p : Nat → Bool} : ∀ (f i j : Nat), i ≤ j → j - i ≤ f → (∀ h h', i ≤ h → h ≤ h' → h' < j → p h' = true → p h = true) →
    i ≤ bs p f i j ∧ bs p f i j ≤ j ∧ (∀ h, i ≤ h → h < bs p f i j → p h = true) ∧ (∀ h, bs p f i j ≤ h → h < j → p h = false)
  | 0, i, j, hij, hf, _ => by
    obtain rfl : i = j := by omega
    rw [bs]
    exact ⟨Nat.le_refl _, Nat.le_refl _, fun h h1 h2 => by omega, fun h h1 h2 => by omega⟩
  | f + 1, i, j, hij, hf, hm => by
    by_cases hl : i < j
    · cases hp : p ((i + j) / 2) with
      | true =>
        rw [bs_yes hl rfl hp]
        obtain ⟨a1, a2, a3, a4⟩ := bs_spec f ((i + j) / 2 + 1) j (by omega) (by omega) (fun h h' h1 h2 h3 h4 => hm h h' (by omega) h2 h3 h4)
        exact ⟨by omega, a2, fun h h1 h2 => by by_cases e : h ≤ (i + j) / 2; (exact hm h _ h1 e (by omega) hp); exact a3 h (by omega) h2, a4⟩
      | false =>
        rw [bs_no hl rfl hp]
        obtain ⟨a1, a2, a3, a4⟩ := bs_spec f i ((i + j) / 2) (by omega) (by omega) (fun h h' h1 h2 h3 h4 => hm h h' h1 h2 (by omega) h4)
        exact ⟨a1, by omega, a3, fun h h1 h2 => by
          by_cases e : h < (i + j) / 2
          · exact a4 h h1 e
          · cases hq : p h with
            | false => rfl
            | true => rw [hm ((i + j) / 2) h (by omega) (by omega) h2 hq] at hp; cases hp⟩
    · rw [bs_stop hl]
      exact ⟨Nat.le_refl _, hij, fun h h1 h2 => by omega, fun h h1 h2 => by omega⟩
end
section
variable (key : Nat → Nat)
def kcf (i j : Nat) : Int := ordZ (key i) (key j)
def lexB (i j : Nat) : Bool := decide (key i < key j ∨ key i = key j ∧ i < j)
theorem kcf_lt (i j : Nat) : decide (kcf key i j < 0) = decide (key i < key j) := by
  rw [decide_eq_decide]; unfold kcf ordZ
  split
  · simp [*]
  · split <;> simp [*]
theorem ltOf_kcf (i j : Nat) : ltOf (kcf key) i j = decide (key i < key j) := kcf_lt key i j
theorem swo_key : SWO (ltOf (kcf key)) := ⟨fun x => by simp [ltOf_kcf], fun x y z h1 h2 => by simp only [ltOf_kcf, decide_eq_true_eq] at *; omega, fun x y z h1 h2 => by simp only [ltOf_kcf, decide_eq_false_iff_not] at *; omega⟩
theorem swo_lex : SWO (lexB key) := ⟨fun x => by simp [lexB], fun x y z h1 h2 => by simp only [lexB, decide_eq_true_eq] at *; omega, fun x y z h1 h2 => by simp only [lexB, decide_eq_false_iff_not] at *; omega⟩
theorem lex_total (x y : Nat) (h1 : lexB key x y = false) (h2 : lexB key y x = false) : x = y := by simp only [lexB, decide_eq_false_iff_not] at *; omega
/-- Of those with one key the order is that of their places at first. -/
def StabIn (a b : Nat) (d : Array Nat) : Prop := ∀ p q, a ≤ p → p < q → q < b → key d[p]! = key d[q]! → d[p]! < d[q]!
theorem stab_swp {a b j : Nat} {d : Array Nat} (h : StabIn key a b d) (haj : a ≤ j) (hj : j + 1 < b) (hb : b ≤ d.size) (hk : key d[j + 1]! ≠ key d[j]!) : StabIn key a b (swp d (j + 1) j) := by
  intro p q hp hpq hq
  rw [swp_get _ (by omega) (by omega), swp_get _ (by omega) (by omega)]
  by_cases p0 : p = j
  · subst p0
    rw [if_pos rfl]
    by_cases q1 : q = p + 1
    · subst q1
      rw [if_neg (by omega), if_pos rfl]
      intro e; exact absurd e hk
    · rw [if_neg (by omega), if_neg q1]
      exact h (p + 1) q (by omega) (by omega) hq
  · rw [if_neg p0]
    by_cases p1 : p = j + 1
    · subst p1
      rw [if_pos rfl, if_neg (by omega), if_neg (by omega)]
      exact h j q haj (by omega) hq
    · rw [if_neg p1]
      by_cases q0 : q = j
      · subst q0
        rw [if_pos rfl]
        exact h p (q + 1) hp (by omega) hj
      · rw [if_neg q0]
        by_cases q1 : q = j + 1
        · subst q1
          rw [if_pos rfl]
          exact h p j hp (by omega) (by omega)
        · rw [if_neg q1]
          exact h p q hp hpq hq
theorem stab_inner {a b : Nat} : ∀ (j : Nat) (d : Array Nat), j < b → b ≤ d.size → StabIn key a b d → StabIn key a b (insInner (ltOf (kcf key)) a j d) ∧ (insInner (ltOf (kcf key)) a j d).size = d.size
  | 0, d, _, _, h => ⟨h, rfl⟩
  | j + 1, d, hj, hb, h => by
    rw [insInner]
    split
    · rename_i hc
      simp only [Bool.and_eq_true, decide_eq_true_eq, ltOf_kcf] at hc
      obtain ⟨i1, i2⟩ := stab_inner j (swp d (j + 1) j) (by omega) (by rw [size_swp]; exact hb) (stab_swp key h (by omega) hj hb (by omega))
      exact ⟨i1, i2.trans (size_swp _ _ _)⟩
    · exact ⟨h, rfl⟩
theorem stab_outer {a b : Nat} : ∀ (k i : Nat) (d : Array Nat), b - i ≤ k → b ≤ d.size → StabIn key a b d → StabIn key a b (insOuter (ltOf (kcf key)) a b i d)
  | 0, i, d, hk, _, h => by rw [insOuter_stop _ _ _ _ _ (by omega)]; exact h
  | k + 1, i, d, hk, hb, h => by
    by_cases hi : i < b
    · rw [insOuter_go _ _ _ _ _ hi]
      obtain ⟨i1, i2⟩ := stab_inner key i d hi hb h
      exact stab_outer k (i + 1) _ (by omega) (by rw [i2]; exact hb) i1
    · rw [insOuter_stop _ _ _ _ _ hi]; exact h
theorem lex_of {a b : Nat} {d : Array Nat} (hs : SortedIn (ltOf (kcf key)) a b d) (h : StabIn key a b d) : SortedIn (lexB key) a b d := fun i j hi hij hj => by
  have h1 := hs i j hi hij hj
  have h2 := h i j hi hij hj
  simp only [ltOf_kcf, decide_eq_false_iff_not, lexB] at *
  rintro (h3 | ⟨h3, h4⟩)
  · exact h1 h3
  · have := h2 h3.symm; omega
/-- Insertion sorts, and keeps the order of those with one key. -/
theorem ins_lex {a b : Nat} {d : Array Nat} (hab : a ≤ b) (hb : b ≤ d.size) (h : StabIn key a b d) : PermIn a b d (Sort.insertionSort (ltOf (kcf key)) d a b) ∧ SortedIn (lexB key) a b (Sort.insertionSort (ltOf (kcf key)) d a b) := by
  obtain ⟨h1, h2⟩ := insertionSort_holds (swo_key key) d a b hab hb
  exact ⟨h1, lex_of key h2 (stab_outer key (b - (a + 1)) (a + 1) d (Nat.le_refl _) hb h)⟩
/-- Those of the left half stand ahead of those of the right one. -/
def Cross (a m b : Nat) (d : Array Nat) : Prop := ∀ p q, a ≤ p → p < m → m ≤ q → q < b → d[p]! < d[q]!
/-- What a merge does. -/
def Merged (a b : Nat) (d d' : Array Nat) : Prop := PermIn a b d d' ∧ SortedIn (lexB key) a b d'
theorem lex_right {l r : Nat} (h : l < r) : decide (kcf key r l < 0) = lexB key r l := by
  rw [kcf_lt]; unfold lexB; rw [decide_eq_decide]; omega
theorem le_trans' {x y z : Nat} (h1 : lexB key y x = false) (h2 : lexB key z y = false) : lexB key z x = false := by
  simp only [lexB, decide_eq_false_iff_not] at *; omega
theorem le_of_lt' {x y : Nat} (h : lexB key x y = true) : lexB key y x = false := by
  simp only [lexB, decide_eq_true_eq, decide_eq_false_iff_not] at *; omega
theorem symA_ok {a b : Nat} {d : Array Nat} (hab : a + 1 < b) (hb : b ≤ d.size) (hR : SortedIn (lexB key) (a + 1) b d) (hC : Cross a (a + 1) b d) :
    Merged key a b d (mvUp a (bs (symPa (kcf key) d a) (b - (a + 1)) (a + 1) b - 1 - a) d) := by
  have hp : ∀ h, a + 1 ≤ h → h < b → symPa (kcf key) d a h = lexB key d[h]! d[a]! := fun h h1 h2 => lex_right key (hC a h (Nat.le_refl _) (by omega) h1 h2)
  obtain ⟨b1, b2, b3, b4⟩ := bs_spec (p := symPa (kcf key) d a) (b - (a + 1)) (a + 1) b (by omega) (Nat.le_refl _) (fun h h' h1 h2 h3 h4 => by
    rw [hp h h1 (by omega)]; rw [hp h' (by omega) h3] at h4
    by_cases e : h = h'
    · rw [e]; exact h4
    · have := hR h h' h1 (by omega) h3
      simp only [lexB, decide_eq_true_eq, decide_eq_false_iff_not] at *; omega)
  generalize bs (symPa (kcf key) d a) (b - (a + 1)) (a + 1) b = i at b1 b2 b3 b4 ⊢
  refine ⟨mvUp_perm a a b _ d (Nat.le_refl _) (by omega) hb, fun p q hp1 hpq hq => ?_⟩
  rw [mvUp_get a _ d p (by omega), mvUp_get a _ d q (by omega)]
  repeat' split
  all_goals first
    | omega
    | exact hR _ _ (by omega) (by omega) (by omega)
    | (have h1 := b3 (p + 1) (by omega) (by omega); rw [hp _ (by omega) (by omega)] at h1; exact le_of_lt' key h1)
    | (have h1 := b4 q (by omega) (by omega); rw [hp _ (by omega) (by omega)] at h1; exact h1)
theorem symB_ok {a m : Nat} {d : Array Nat} (ham : a < m) (hb : m + 1 ≤ d.size) (hL : SortedIn (lexB key) a m d) (hC : Cross a m (m + 1) d) :
    Merged key a (m + 1) d (mvDown m (m - bs (symPb (kcf key) d m) (m - a) a m) d) := by
  have hp : ∀ h, a ≤ h → h < m → symPb (kcf key) d m h = !lexB key d[m]! d[h]! := fun h h1 h2 => by
    show (!decide (kcf key d[m]! d[h]! < 0)) = _
    rw [lex_right key (hC h m h1 h2 (Nat.le_refl _) (by omega))]
  obtain ⟨b1, b2, b3, b4⟩ := bs_spec (p := symPb (kcf key) d m) (m - a) a m (by omega) (Nat.le_refl _) (fun h h' h1 h2 h3 h4 => by
    rw [hp h h1 (by omega)]; rw [hp h' (by omega) h3] at h4
    by_cases e : h = h'
    · rw [e]; exact h4
    · have := hL h h' h1 (by omega) h3
      simp only [lexB, Bool.not_eq_true', decide_eq_false_iff_not] at *; omega)
  generalize bs (symPb (kcf key) d m) (m - a) a m = i at b1 b2 b3 b4 ⊢
  refine ⟨mvDown_perm m a (m + 1) _ d (by omega) (by omega) hb, fun p q hp1 hpq hq => ?_⟩
  rw [mvDown_get m _ d p (by omega) (by omega), mvDown_get m _ d q (by omega) (by omega)]
  repeat' split
  all_goals first
    | omega
    | exact hL _ _ (by omega) (by omega) (by omega)
    | (have h1 := b3 p (by omega) (by omega); rw [hp _ (by omega) (by omega)] at h1; simpa using h1)
    | (have h1 := b4 (q - 1) (by omega) (by omega); rw [hp _ (by omega) (by omega)] at h1; simp only [Bool.not_eq_false'] at h1; exact le_of_lt' key h1)
theorem symR_ok {a m b st : Nat} {d : Array Nat} {rec : Array Nat → Nat → Nat → Nat → Array Nat} (ham : a < m) (hmb : m < b) (hb : b ≤ d.size) (mid n : Nat) (hmid : mid = (a + b) / 2) (hn : n = mid + m)
    (s1 : a ≤ st) (s2 : st ≤ m) (s3 : m ≤ n - st) (s4 : n - st ≤ b) (s5 : st ≤ mid) (s6 : st ≤ n)
    (hL : SortedIn (lexB key) a m d) (hR : SortedIn (lexB key) m b d) (hC : Cross a m b d)
    (c1 : a < st → n - st < b → lexB key d[n - st]! d[st - 1]! = false) (c2 : st < m → m < n - st → lexB key d[st]! d[n - st - 1]! = false)
    (hrec : ∀ (x y z : Nat) (dk : Array Nat), dk.size = d.size → x < y → y < z → z ≤ b → z - x < b - a → SortedIn (lexB key) x y dk → SortedIn (lexB key) y z dk → Cross x y z dk → Merged key x z dk (rec dk x y z)) :
    Merged key a b d (symR m mid n b st a rec d) := by
  obtain ⟨E, hE⟩ : ∃ E, E = n - st := ⟨_, rfl⟩
  simp only [symR]
  rw [← hE] at s3 s4 c1 c2 ⊢
  obtain ⟨d1, hd1⟩ : ∃ d1, d1 = (if st < m ∧ m < E then rotL m (E - st) (m - st) (E - m) d else d) := ⟨_, rfl⟩
  rw [← hd1]
  have hs1 : d1.size = d.size := by rw [hd1]; split <;> first | exact size_rotL _ _ _ _ _ | rfl
  have g1 : ∀ t, d1[t]! = if st ≤ t ∧ t < mid then d[t + (m - st)]! else if mid ≤ t ∧ t < E then d[t - (mid - st)]! else d[t]! := fun t => by
    rw [hd1]
    split
    · rename_i h
      rw [rotL_get m _ _ _ d t (by omega) (by omega) (by omega) (by omega) (by omega)]
      repeat' split
      all_goals first | omega | rfl | (congr 1 <;> omega)
    · rename_i h
      repeat' split
      all_goals first | omega | rfl | (congr 1 <;> omega)
  have p1 : PermIn a b d d1 := by
    rw [hd1]
    split
    · exact rotL_perm m a b _ _ _ d (by omega) (by omega) hb
    · exact permIn_refl _ _ _
  obtain ⟨d2, hd2⟩ : ∃ d2, d2 = (if a < st ∧ st < mid then rec d1 a st mid else d1) := ⟨_, rfl⟩
  rw [← hd2]
  have m2 : Merged key a mid d1 d2 := by
    rw [hd2]
    split
    · rename_i h
      refine hrec a st mid d1 hs1 h.1 h.2 (by omega) (by omega) (fun p q h1 h2 h3 => ?_) (fun p q h1 h2 h3 => ?_) (fun p q h1 h2 h3 h4 => ?_)
      · rw [g1 p, g1 q, if_neg (by omega), if_neg (by omega), if_neg (by omega), if_neg (by omega)]; exact hL p q h1 h2 (by omega)
      · rw [g1 p, g1 q, if_pos (by omega), if_pos (by omega)]; exact hR _ _ (by omega) (by omega) (by omega)
      · rw [g1 p, g1 q, if_neg (by omega), if_neg (by omega), if_pos (by omega)]; exact hC _ _ h1 (by omega) (by omega) (by omega)
    · rename_i h
      refine ⟨permIn_refl _ _ _, fun p q h1 h2 h3 => ?_⟩
      by_cases e : a < st
      · rw [g1 p, g1 q, if_neg (by omega), if_neg (by omega), if_neg (by omega), if_neg (by omega)]; exact hL p q h1 h2 (by omega)
      · rw [g1 p, g1 q, if_pos (by omega), if_pos (by omega)]; exact hR _ _ (by omega) (by omega) (by omega)
  have hs2 : d2.size = d.size := m2.1.1.trans hs1
  have o2 : ∀ t, mid ≤ t → d2[t]! = d1[t]! := fun t ht => m2.1.2.1 t (Or.inr ht)
  have m3 : Merged key mid b d2 (if mid < E ∧ E < b then rec d2 mid E b else d2) := by
    split
    · rename_i h
      refine hrec mid E b d2 hs2 h.1 h.2 (Nat.le_refl _) (by omega) (fun p q h1 h2 h3 => ?_) (fun p q h1 h2 h3 => ?_) (fun p q h1 h2 h3 h4 => ?_)
      · rw [o2 p (by omega), o2 q (by omega), g1 p, g1 q, if_neg (by omega), if_pos (by omega), if_neg (by omega), if_pos (by omega)]; exact hL _ _ (by omega) (by omega) (by omega)
      · rw [o2 p (by omega), o2 q (by omega), g1 p, g1 q, if_neg (by omega), if_neg (by omega), if_neg (by omega), if_neg (by omega)]; exact hR _ _ (by omega) (by omega) (by omega)
      · rw [o2 p (by omega), o2 q (by omega), g1 p, g1 q, if_neg (by omega), if_pos (by omega), if_neg (by omega), if_neg (by omega)]; exact hC _ _ (by omega) (by omega) (by omega) (by omega)
    · rename_i h
      refine ⟨permIn_refl _ _ _, fun p q h1 h2 h3 => ?_⟩
      by_cases e : mid < E
      · rw [o2 p (by omega), o2 q (by omega), g1 p, g1 q, if_neg (by omega), if_pos (by omega), if_neg (by omega), if_pos (by omega)]; exact hL _ _ (by omega) (by omega) (by omega)
      · rw [o2 p (by omega), o2 q (by omega), g1 p, g1 q, if_neg (by omega), if_neg (by omega), if_neg (by omega), if_neg (by omega)]; exact hR _ _ (by omega) (by omega) (by omega)
  generalize (if mid < E ∧ E < b then rec d2 mid E b else d2) = d3 at m3 ⊢
  have hs3 : d3.size = d.size := m3.1.1.trans hs2
  have low : ∀ p, a ≤ p → p < mid → ∀ q, mid ≤ q → q < b → lexB key d1[q]! d1[p]! = false := fun p h1 h2 q h3 h4 => by
    rw [g1 p, g1 q]
    repeat' split
    all_goals first
      | omega
      | exact hL _ _ (by omega) (by omega) (by omega)
      | exact hR _ _ (by omega) (by omega) (by omega)
      | skip
    · -- right, low; left, high
      have hx : lexB key d[st]! d[E - 1]! = false := c2 (by omega) (by omega)
      have hy : lexB key d[E - 1]! d[p + (m - st)]! = false := by
        by_cases e : p + (m - st) = E - 1
        · rw [e]; exact (swo_lex key).irrefl _
        · exact hR _ _ (by omega) (by omega) (by omega)
      have hz : lexB key d[q - (mid - st)]! d[st]! = false := by
        by_cases e : st = q - (mid - st)
        · rw [← e]; exact (swo_lex key).irrefl _
        · exact hL _ _ (by omega) (by omega) (by omega)
      exact le_trans' key (le_trans' key hy hx) hz
    · -- left, low; right, high
      have hx : lexB key d[E]! d[st - 1]! = false := c1 (by omega) (by omega)
      have hy : lexB key d[st - 1]! d[p]! = false := by
        by_cases e : p = st - 1
        · rw [e]; exact (swo_lex key).irrefl _
        · exact hL _ _ (by omega) (by omega) (by omega)
      have hz : lexB key d[q]! d[E]! = false := by
        by_cases e : E = q
        · rw [← e]; exact (swo_lex key).irrefl _
        · exact hR _ _ (by omega) (by omega) (by omega)
      exact le_trans' key (le_trans' key hy hx) hz
  refine ⟨permIn_trans _ _ _ _ _ p1 (permIn_trans _ _ _ _ _ (permIn_mono _ _ a mid a b (Nat.le_refl _) (by omega) (by omega) m2.1) (permIn_mono _ _ mid b a b (by omega) (Nat.le_refl _) (by omega) m3.1)), fun p q h1 h2 h3 => ?_⟩
  by_cases c : q < mid
  · rw [m3.1.2.1 p (Or.inl (by omega)), m3.1.2.1 q (Or.inl c)]
    exact m2.2 p q h1 h2 c
  · by_cases c' : mid ≤ p
    · exact m3.2 p q c' h2 h3
    · rw [m3.1.2.1 p (Or.inl (by omega))]
      have l2 : ∀ i, a ≤ i → i < mid → ∀ q, mid ≤ q → q < b → lexB key d1[q]! d2[i]! = false :=
        permIn_all d1 d2 a mid (fun v => ∀ q, mid ≤ q → q < b → lexB key d1[q]! v = false) (by omega) m2.1 low
      exact permIn_all d2 d3 mid b (fun u => lexB key u d2[p]! = false) (by omega) m3.1 (fun i h4 h5 => by rw [o2 i h4]; exact l2 p h1 (by omega) i h4 h5) q (by omega) h3
theorem sym_merged : ∀ (f a m b : Nat) (d : Array Nat), b - a ≤ f → a < m → m < b → b ≤ d.size → SortedIn (lexB key) a m d → SortedIn (lexB key) m b d → Cross a m b d → Merged key a b d (symM (kcf key) f d a m b)
  | 0, a, m, b, d, hf, h1, h2, _, _, _, _ => by omega
  | f + 1, a, m, b, d, hf, h1, h2, h3, hL, hR, hC => by
    rw [symM]
    by_cases c1 : m = a + 1
    · subst c1
      rw [if_pos rfl]
      exact symA_ok key h2 h3 hR hC
    · rw [if_neg c1]
      by_cases c2 : b = m + 1
      · subst c2
        rw [if_pos rfl]
        exact symB_ok key h1 h3 hL hC
      · rw [if_neg c2]
        have hrec : ∀ (x y z : Nat) (dk : Array Nat), dk.size = d.size → x < y → y < z → z ≤ b → z - x < b - a → SortedIn (lexB key) x y dk → SortedIn (lexB key) y z dk → Cross x y z dk → Merged key x z dk (symM (kcf key) f dk x y z) :=
          fun x y z dk hs hx hy hz hl l r c => sym_merged f x y z dk (by omega) hx hy (by omega) l r c
        obtain ⟨mid, hmid⟩ : ∃ mid, mid = (a + b) / 2 := ⟨_, rfl⟩
        obtain ⟨n, hn⟩ : ∃ n, n = mid + m := ⟨_, rfl⟩
        rw [← hmid, ← hn]
        -- the search, from s0 to r0
        have key' : ∀ s0 r0, s0 ≤ r0 → a ≤ s0 → r0 ≤ m → r0 ≤ mid ∨ m ≤ mid → (s0 = a ∨ s0 + b = n) → (r0 = m ∨ r0 = mid) → s0 + b ≥ n → n - s0 ≤ b → r0 + m ≤ n →
            Merged key a b d (symR m mid n b (bs (symPc (kcf key) d n) (r0 - s0) s0 r0) a (symM (kcf key) f) d) := fun s0 r0 q0 q1 q2 q3 q4 q5 q6 q7 q8 => by
          have hp : ∀ h, s0 ≤ h → h < r0 → symPc (kcf key) d n h = !lexB key d[n - 1 - h]! d[h]! := fun h h4 h5 => by
            show (!decide (kcf key d[n - 1 - h]! d[h]! < 0)) = _
            rw [lex_right key (hC h (n - 1 - h) (by omega) (by omega) (by omega) (by omega))]
          obtain ⟨b1, b2, b3, b4⟩ := bs_spec (p := symPc (kcf key) d n) (r0 - s0) s0 r0 q0 (Nat.le_refl _) (fun h h' h4 h5 h6 h7 => by
            rw [hp h h4 (by omega)]; rw [hp h' (by omega) h6] at h7
            by_cases e : h = h'
            · rw [e]; exact h7
            · have e1 := hL h h' (by omega) (by omega) (by omega)
              have e2 := hR (n - 1 - h') (n - 1 - h) (by omega) (by omega) (by omega)
              simp only [lexB, Bool.not_eq_true', decide_eq_false_iff_not] at *; omega)
          generalize bs (symPc (kcf key) d n) (r0 - s0) s0 r0 = st at b1 b2 b3 b4 ⊢
          refine symR_ok key h1 h2 h3 mid n hmid hn (by omega) (by omega) (by omega) (by omega) (by omega) (by omega) hL hR hC (fun c3 c4 => ?_) (fun c3 c4 => ?_) hrec
          · have e1 := b3 (st - 1) (by omega) (by omega)
            rw [hp _ (by omega) (by omega), show n - 1 - (st - 1) = n - st by omega] at e1
            simpa using e1
          · have e1 := b4 st (Nat.le_refl _) (by omega)
            rw [hp _ (by omega) (by omega), show n - 1 - st = n - st - 1 by omega] at e1
            simp only [Bool.not_eq_false'] at e1
            exact le_of_lt' key e1
        by_cases c3 : mid < m
        · rw [if_pos c3]
          exact key' (n - b) mid (by omega) (by omega) (by omega) (by omega) (by omega) (by omega) (by omega) (by omega) (by omega)
        · rw [if_neg c3]
          exact key' a m (by omega) (by omega) (by omega) (by omega) (by omega) (by omega) (by omega) (by omega) (by omega)
/-- THE STABLE SORT's ARRAY: sorted by key, and by place where keys are alike. -/
theorem stab_ok (n : Nat) : PermIn 0 n (Array.range n) (stabM (kcf key) (Array.range n)) ∧ SortedIn (lexB key) 0 n (stabM (kcf key) (Array.range n)) := by
  have hz : (Array.range n).size = n := by simp
  have hg : ∀ i, i < n → (Array.range n)[i]! = i := fun i hi => by simp [getElem!_def, hi]
  unfold stabM
  rw [hz]
  by_cases c : n ≤ 20
  · rw [if_pos c]
    exact ins_lex key (Nat.zero_le _) (by omega) (fun p q h1 h2 h3 _ => by rw [hg p (by omega), hg q h3]; exact h2)
  · rw [if_neg c]
    obtain ⟨p1, s1⟩ := ins_lex key (a := 0) (b := 20) (d := Array.range n) (Nat.zero_le _) (by omega) (fun p q h1 h2 h3 _ => by rw [hg p (by omega), hg q (by omega)]; exact h2)
    generalize Sort.insertionSort (ltOf (kcf key)) (Array.range n) 0 20 = d1 at p1 s1 ⊢
    have o1 : ∀ i, 20 ≤ i → i < n → d1[i]! = i := fun i h1 h2 => (p1.2.1 i (Or.inr h1)).trans (hg i h2)
    have z1 : d1.size = n := p1.1.trans hz
    obtain ⟨p2, s2⟩ := ins_lex key (a := 20) (b := n) (d := d1) (by omega) (by omega) (fun p q h1 h2 h3 _ => by rw [o1 p h1 (by omega), o1 q (by omega) h3]; exact h2)
    generalize Sort.insertionSort (ltOf (kcf key)) d1 20 n = d2 at p2 s2 ⊢
    have z2 : d2.size = n := p2.1.trans z1
    have lo : ∀ i, 0 ≤ i → i < 20 → d1[i]! < 20 := permIn_all (Array.range n) d1 0 20 (fun v => v < 20) (by omega) p1 (fun i _ h => by rw [hg i (by omega)]; exact h)
    have hi : ∀ i, 20 ≤ i → i < n → 20 ≤ d2[i]! := permIn_all d1 d2 20 n (fun v => 20 ≤ v) (by omega) p2 (fun i h1 h2 => by rw [o1 i h1 h2]; exact h1)
    obtain ⟨p3, s3⟩ := sym_merged key n 0 20 n d2 (by omega) (by omega) (by omega) (by omega) (fun p q h1 h2 h3 => by rw [p2.2.1 p (Or.inl (by omega)), p2.2.1 q (Or.inl h3)]; exact s1 p q h1 h2 h3) s2
      (fun p q h1 h2 h3 h4 => by have e1 := lo p h1 h2; have e2 := hi q h3 h4; rw [p2.2.1 p (Or.inl h2)]; omega)
    exact ⟨permIn_trans _ _ _ _ _ (permIn_mono _ _ 0 20 0 n (Nat.le_refl _) (by omega) (by omega) p1) (permIn_trans _ _ _ _ _ (permIn_mono _ _ 20 n 0 n (by omega) (Nat.le_refl _) (by omega) p2) p3), s3⟩
end
end Go.Proofs.YtaiimkcmgiceeaaDoor
