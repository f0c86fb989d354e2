/- Chapter 18, EntriesAmong: what the law's walk asks, put together. -/
import Derived.Test.YtaiimkcmgiceeaaDoorAmI
import Derived.Test.YtaiimkcmgiceeaaDoorAmF
import Derived.Test.YtaiimkcmgiceeaaDoorEnM
import Derived.Test.YtaiimkcmgiceeaaDoorEnP
namespace Go.Proofs.YtaiimkcmgiceeaaDoor
set_option linter.unusedVariables false
set_option linter.unusedSimpArgs false
open Go.RowKit Go.Lib Go.Sort
theorem clR_congr {mo mr mo2 mr2 : Nat → Bool} (n : Nat) (h : ∀ i, i < n → mo i = mo2 i ∧ mr i = mr2 i) : ∀ (m k : Nat) (how : Int), k + m ≤ n → clR mo mr m k how = clR mo2 mr2 m k how
  | 0, _, _, _ => rfl
  | m + 1, k, how, hk => by
    rw [clR, clR, (h k (by omega)).1, (h k (by omega)).2, clR_congr n h m (k + 1) _ (by omega)]
/-- Entries that differ in where their holds lie alone. -/
def Like (n : Nat) (E F : Nat → EntD) : Prop := ∀ i, i < n → ∃ ad c, F i = (E i).on ad c
theorem Like.key {n : Nat} {E F : Nat → EntD} (h : Like n E F) (i : Nat) (hi : i < n) : (F i).key = (E i).key := by obtain ⟨ad, c, e⟩ := h i hi; rw [e]; rfl
theorem Like.may {n : Nat} {E F : Nat → EntD} (h : Like n E F) (now : Int) (i : Nat) (hi : i < n) : (F i).may now = (E i).may now := by obtain ⟨ad, c, e⟩ := h i hi; rw [e]; rfl
theorem Like.less {n : Nat} {E F : Nat → EntD} (h : Like n E F) (i j : Nat) (hi : i < n) (hj : j < n) : (F i).less (F j) = (E i).less (E j) := by
  obtain ⟨ad, c, e⟩ := h i hi
  obtain ⟨ad2, c2, e2⟩ := h j hj
  rw [e, e2]; rfl
theorem Like.cl {n : Nat} {E F : Nat → EntD} (h : Like n E F) (now : Int) (r a p b q : Nat) (i : Nat) (hi : i < n) : clE F now r a p b q i = clE E now r a p b q i := by obtain ⟨ad, c, e⟩ := h i hi; unfold clE; rw [e]; rfl
theorem Like.clash {n : Nat} {E F : Nat → EntD} (h : Like n E F) (now : Int) (r a p b q r2 a2 p2 b2 q2 : Nat) : clR (clE F now r a p b q) (clE F now r2 a2 p2 b2 q2) n 0 0 = clR (clE E now r a p b q) (clE E now r2 a2 p2 b2 q2) n 0 0 :=
  clR_congr n (fun i hi => ⟨h.cl now r a p b q i hi, h.cl now r2 a2 p2 b2 q2 i hi⟩) n 0 0 (by omega)
theorem Like.vic {n : Nat} {E F : Nat → EntD} (h : Like n E F) {now at' r : Int} (hv : VicP n E now at') (hr : (∃ i : Nat, r = i ∧ i < n ∧ goodV F now n i) ∨ (r = -1 ∧ ∀ i, i < n → ¬ goodV F now n i)) : r = at' := by
  have g : ∀ i, i < n → (goodV F now n i ↔ goodV E now n i) := fun i hi => by
    unfold goodV okV
    rw [h.may now i hi]
    constructor
    · rintro ⟨h1, h2⟩
      exact ⟨h1, fun k hk hm => by have := h2 k hk (by rw [h.may now k hk]; exact hm); rwa [h.less k i hk hi, h.less i k hi hk] at this⟩
    · rintro ⟨h1, h2⟩
      exact ⟨h1, fun k hk hm => by rw [h.less k i hk hi, h.less i k hi hk]; exact h2 k hk (by rw [← h.may now k hk]; exact hm)⟩
  refine vic_same hv ?_
  rcases hr with ⟨i, e, hi, hg⟩ | ⟨e, hg⟩
  · exact Or.inl ⟨i, e, hi, (g i hi).1 hg⟩
  · exact Or.inr ⟨e, fun i hi hh => hg i hi ((g i hi).2 hh)⟩
/-- An entry is the same as itself, wherever its holds lie. -/
theorem rsame_eq (x : EntD) (hn : x.n ≤ 100) (o : HoldO) (ad c ad2 c2) (w : World) (h1 : HoldsIn w ad x.n (hv o x.n)) (h2 : HoldsIn w ad2 x.n (hv o x.n)) :
    Calls Tryd.prog 14 #[.agg (x.on ad c).cs.toArray, .agg (x.on ad2 c2).cs.toArray] w (Ret1 (.bool true) w) := by
  have h := rsame_ok x.r x.a x.p x.b x.q x.r2 x.a2 x.p2 x.b2 x.q2 x.r x.a x.p x.b x.q x.r2 x.a2 x.p2 x.b2 x.q2 x.st x.dl x.st x.dl ad ad2 x.n c x.n c2 o.1 o.2.1 o.2.2.1 o.2.2.2 o.1 o.2.1 o.2.2.1 o.2.2.2 hn w h1 h2
  rw [eqHolds_yes (fun k _ => ⟨rfl, rfl, rfl, rfl⟩)] at h
  simpa [EntD.on, EntD.cs] using h
end Go.Proofs.YtaiimkcmgiceeaaDoor
