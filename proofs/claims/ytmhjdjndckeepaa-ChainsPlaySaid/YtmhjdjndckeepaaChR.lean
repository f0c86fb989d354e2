/- Rings of cells, and what chains are in memory: plain laws. -/
import Derived.Test.YtmhjdjndckeepaaChA
namespace Go.Proofs.Ytmhjdjndckeepaa
set_option linter.unusedVariables false
set_option linter.unusedSimpArgs false
open Go.RowKit
open Go.ChangeMaps (setBlock)

abbrev Ad := Nat × Nat
def ptr (a : Ad) : Value := .pointer (some ⟨a.1, a.2, none⟩)
def cl (w : World) (a : Ad) (i : Nat) : Option Value := w.cell? ⟨a.1, a.2 + i, none⟩

/-- From x through all of the list to z each one leads to the next one, and back. -/
def Ring (w : World) : Ad → List Ad → Ad → Prop
  | x, [], z => cl w x 1 = some (ptr z) ∧ cl w z 0 = some (ptr x)
  | x, y :: ys, z => cl w x 1 = some (ptr y) ∧ cl w y 0 = some (ptr x) ∧ Ring w y ys z

theorem Ring.frame {w w' : World} : ∀ {x : Ad} {ys : List Ad} {z : Ad}, Ring w x ys z → (∀ a, a ∈ x :: ys → cl w' a 1 = cl w a 1) → (∀ a, a ∈ ys ++ [z] → cl w' a 0 = cl w a 0) → Ring w' x ys z
  | x, [], z, h, h1, h0 => ⟨(h1 x (by simp)).trans h.1, (h0 z (by simp)).trans h.2⟩
  | x, y :: ys, z, h, h1, h0 => ⟨(h1 x (by simp)).trans h.1, (h0 y (by simp)).trans h.2.1, Ring.frame h.2.2 (fun a ha => h1 a (List.mem_cons_of_mem _ ha)) (fun a ha => h0 a (by simp at ha ⊢; exact Or.inr ha))⟩

def hd (ys : List Ad) (z : Ad) : Ad := match ys with | [] => z | y :: _ => y
def lst (x : Ad) (ys : List Ad) : Ad := match ys with | [] => x | y :: ys => lst y ys

theorem Ring.first {w : World} {x : Ad} {ys : List Ad} {z : Ad} (h : Ring w x ys z) : cl w x 1 = some (ptr (hd ys z)) := by cases ys <;> exact h.1
theorem Ring.first0 {w : World} {x : Ad} {ys : List Ad} {z : Ad} (h : Ring w x ys z) : cl w (hd ys z) 0 = some (ptr x) := by
  cases ys with
  | nil => exact h.2
  | cons y ys => exact h.2.1
theorem Ring.last {w : World} : ∀ {x : Ad} {ys : List Ad} {z : Ad}, Ring w x ys z → cl w z 0 = some (ptr (lst x ys)) ∧ cl w (lst x ys) 1 = some (ptr z)
  | _, [], _, h => ⟨h.2, h.1⟩
  | _, y :: _, _, h => Ring.last (x := y) h.2.2

theorem Ring.split {w : World} {a z : Ad} {l2 : List Ad} : ∀ {x : Ad} {l1 : List Ad}, Ring w x (l1 ++ a :: l2) z ↔ Ring w x l1 a ∧ Ring w a l2 z
  | x, [] => by simp only [List.nil_append, Ring]; exact ⟨fun h => ⟨⟨h.1, h.2.1⟩, h.2.2⟩, fun h => ⟨h.1.1, h.1.2, h.2⟩⟩
  | x, y :: l1 => by simp only [List.cons_append, Ring, Ring.split (x := y) (l1 := l1)]; constructor <;> (intro h; simp_all)

theorem lst_mem (x : Ad) : ∀ ys : List Ad, lst x ys ∈ x :: ys
  | [] => by simp [lst]
  | y :: ys => by simp only [lst]; exact List.mem_cons_of_mem _ (lst_mem y ys)
theorem hd_mem (ys : List Ad) (z : Ad) : hd ys z ∈ ys ++ [z] := by cases ys <;> simp [hd]

theorem Ring.insert {w w' : World} {x z : Ad} {ys : List Ad} (a : Ad) (h : Ring w x ys z)
    (e1 : cl w' x 1 = some (ptr a)) (e2 : cl w' a 0 = some (ptr x)) (e3 : cl w' a 1 = some (ptr (hd ys z))) (e4 : cl w' (hd ys z) 0 = some (ptr a))
    (h1 : ∀ b, b ∈ ys → cl w' b 1 = cl w b 1) (h0 : ∀ b, b ∈ (ys ++ [z]).tail → cl w' b 0 = cl w b 0) : Ring w' x (a :: ys) z := by
  refine ⟨e1, e2, ?_⟩
  cases ys with
  | nil => exact ⟨e3, e4⟩
  | cons y ys => exact ⟨e3, e4, h.2.2.frame h1 (by simpa using h0)⟩

theorem Ring.join {w w' : World} : ∀ {x a a' z : Ad} {l1 l2 : List Ad}, Ring w x l1 a → Ring w a' l2 z →
    cl w' (lst x l1) 1 = some (ptr (hd l2 z)) → cl w' (hd l2 z) 0 = some (ptr (lst x l1)) →
    (∀ b, b ∈ (x :: l1).dropLast ∨ b ∈ l2 → cl w' b 1 = cl w b 1) → (∀ b, b ∈ l1 ∨ b ∈ (l2 ++ [z]).tail → cl w' b 0 = cl w b 0) → Ring w' x (l1 ++ l2) z
  | x, a, a', z, [], l2, _, h2, e1, e2, h1, h0 => by
    cases l2 with
    | nil => exact ⟨e1, e2⟩
    | cons y ys => exact ⟨e1, e2, h2.2.2.frame (fun b hb => h1 b (Or.inr hb)) (fun b hb => h0 b (Or.inr (by simpa using hb)))⟩
  | x, a, a', z, y :: l1, l2, hr, h2, e1, e2, h1, h0 => by
    refine ⟨(h1 x (Or.inl (by simp))).trans hr.1, (h0 y (Or.inl (by simp))).trans hr.2.1, ?_⟩
    exact Ring.join hr.2.2 h2 e1 e2 (fun b hb => h1 b (hb.imp (fun hb => by simp; exact Or.inr hb) id)) (fun b hb => h0 b (hb.imp (fun hb => List.mem_cons_of_mem _ hb) id))

/-- A row of nodes: each node's block, and its link. -/
abbrev Row := List (Nat × Lk)
def nodes (r : Row) : List Ad := r.map fun x => (x.1, 0)
def pairs (σ : List Row) : List (Value × Value) := σ.flatten.map fun x => (lv x.2, ptr (x.1, 0))

/-- The chains at block bc: their fronts lie in bf, the map in bm; the rows are σ. -/
structure ChRep (w : World) (bc bf bm : Nat) (σ : List Row) : Prop where
  c0 : w.cell? ⟨bc, 0, none⟩ = some (.slice (some ⟨bf, 0, none⟩) σ.length σ.length)
  c1 : w.cell? ⟨bc, 1, none⟩ = some (.map (some bm))
  pos : 0 < σ.length
  le : σ.length ≤ 64
  fz : ∀ b o, b = bf ∨ b ∈ σ.flatten.map Prod.fst → w.frozen? ⟨b, o, none⟩ = false
  front : ∀ i, i < σ.length → cl w (bf, i * 6) 2 = some (.int .i64 0) ∧ cl w (bf, i * 6) 3 = some (.int .u32 0) ∧ cl w (bf, i * 6) 4 = some (.bool false) ∧ cl w (bf, i * 6) 5 = some (.int .i64 0)
  node : ∀ (i : Nat) (r : Row), σ[i]? = some r → ∀ x, x ∈ r → cl w (x.1, 0) 2 = some (.int .i64 x.2.1) ∧ cl w (x.1, 0) 3 = some (.int .u32 x.2.2.1) ∧ cl w (x.1, 0) 4 = some (.bool x.2.2.2) ∧ cl w (x.1, 0) 5 = some (.int .i64 i)
  ring : ∀ (i : Nat) (r : Row), σ[i]? = some r → Ring w (bf, i * 6) (nodes r) (bf, i * 6)
  map : ∃ m, MapIs w bm m ∧ m.Perm (pairs σ)
  nd : (σ.flatten.map Prod.snd).Nodup
  ok : ∀ x, x ∈ σ.flatten → Lok x.2
  apart : (bc :: bf :: bm :: σ.flatten.map Prod.fst).Nodup

end Go.Proofs.Ytmhjdjndckeepaa
