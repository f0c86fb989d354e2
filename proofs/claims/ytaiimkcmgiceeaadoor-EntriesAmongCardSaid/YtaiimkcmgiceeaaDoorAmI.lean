/- Chapter 18, EntriesAmong: the program's order and the document's are one (no program here). -/
import Derived.Test.YtaiimkcmgiceeaaDoorAmG
namespace Go.Proofs.YtaiimkcmgiceeaaDoor
set_option linter.unusedVariables false
set_option linter.unusedSimpArgs false
open Go.RowKit Go.Lib Go.Sort
theorem permIn_list {n : Nat} {L : List Nat} (h : L.Perm (List.range n)) : PermIn 0 n (Array.range n) L.toArray := by
  have hl : L.length = n := by simpa using h.length_eq
  refine ⟨by simp [hl], fun i hi => ?_, ?_⟩
  · rcases hi with hi | hi
    · omega
    · rw [getElem!_neg _ i (by simp; omega), getElem!_neg _ i (by simp; omega)]
  · have e1 : (L.toArray.extract 0 n) = L.toArray := by rw [show n = L.toArray.size by simp [hl]]; exact Array.extract_size
    have e2 : ((Array.range n).extract 0 n) = Array.range n := by
      have h0 := Array.extract_size (xs := Array.range n)
      rwa [show (Array.range n).size = n by simp] at h0
    rw [e1, e2]
    simpa using h
theorem same_sort {F G : Nat → EntD} {n : Nat} {π : Array Nat} {L : List Nat} (hk : ∀ i, i < n → (F i).key = (G i).key) (hp : PermIn 0 n (Array.range n) π) (hs : SortedIn (lexB (keyE F n)) 0 n π) (hL : Ins G L n) :
    π.toList = L := by
  have hz : (Array.range n).size = n := by simp
  have key : ∀ x, x < n → keyE F n x = keyF G x := fun x hx => by
    unfold keyE lastE keyF
    rw [show min x (n - 1) = x by omega]; exact hk x hx
  have u := fun d' (h1 : PermIn 0 n (Array.range n) d') (h2 : SortedIn (lexB (keyE F n)) 0 n d') =>
    sorted_unique_holds (lt := lexB (keyE F n)) (swo_lex _) (lex_total _) (Array.range n) d' (by rw [hz]; exact h1) (by rw [hz]; exact h2)
  have a1 := u π hp hs
  have a2 := u L.toArray (permIn_list hL.perm) (fun p q _ hpq hq => by
    have e : ∀ i : Nat, (L.toArray[i]! : Nat) = L[i]! := fun i => by rw [getElem!_def, getElem!_def]; simp
    rw [e, e]
    have hl := hL.len
    have h1 := hL.sorted p q hpq (by omega)
    have h2 := hL.lt p (by omega)
    have h3 := hL.lt q (by omega)
    unfold lexB at h1 ⊢
    rw [key _ h2, key _ h3]; exact h1)
  rw [a1, ← a2]
theorem same_at {F G : Nat → EntD} {n : Nat} {π : Array Nat} {L : List Nat} (hk : ∀ i, i < n → (F i).key = (G i).key) (hp : PermIn 0 n (Array.range n) π) (hs : SortedIn (lexB (keyE F n)) 0 n π) (hL : Ins G L n) (i : Nat) :
    π[i]! = L[i]! := by
  rw [← same_sort hk hp hs hL, getElem!_def, getElem!_def, Array.getElem?_toList]
end Go.Proofs.YtaiimkcmgiceeaaDoor
