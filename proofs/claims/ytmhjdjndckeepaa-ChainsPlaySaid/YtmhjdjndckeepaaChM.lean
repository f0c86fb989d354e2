/- List where there is nothing; All: walks. -/
import Derived.Test.YtmhjdjndckeepaaChL
namespace Go.Proofs.Ytmhjdjndckeepaa
set_option linter.unusedVariables false
set_option linter.unusedSimpArgs false
open Go.RowKit
open Go.ChangeMaps (setBlock)
open Go.WideMaps (KeyLaw)

section
variable {w : World} {bc bf bm : Nat} {σ : List Row}

set_option maxHeartbeats 400000 in
theorem list_none (p : Value) (x : Int) (hf : Calls Try.prog 11 #[p, .int .i64 x] w (Ret1 (.tuple #[lv lk0, .bool false]) w)) :
    Calls Try.prog 15 #[p, .int .i64 x] w (ListPost w []) := by
  have Hf := Lib.hid hf
  clear hf
  go_enter Try.func15, Try.ntmps15
  go_wp2_with fail
  refine Hf.out.mono ?_
  rintro e w1 ⟨rfl, hb⟩
  unfold lv lk0
  go_wp2_with fail
  go_loopg [5, 7] 1 (fun g v tk wr => v = .slice none 0 0 ∧ tk = .bool false ∧ NoW w wr)
  case atStart => exact ⟨rfl, rfl, hb.alloc _⟩
  case round =>
    obtain ⟨rfl, rfl, hfp⟩ := hrel
    go_wp2_with fail
    go_ret
    exact ⟨_, rfl, LkRow.nil _ _, hfp, by simp⟩

theorem list_nil (x : Int) : Calls Try.prog 15 #[.pointer none, .int .i64 x] w (ListPost w []) := list_none _ _ (first_nil x)
theorem list_empty (b : Nat) (x : Int) (a : Option Addr) (c : Nat) (c0 : w.cell? ⟨b, 0, none⟩ = some (.slice a 0 c)) : Calls Try.prog 15 #[.pointer (some ⟨b, 0, none⟩), .int .i64 x] w (ListPost w []) :=
  list_none _ _ (first_empty b x a c c0)

/-- The links of a chain, by any number. -/
def chainOf (σ : List Row) (x : Int) : List Lk := if 0 ≤ x ∧ x < σ.length then (σ.getD x.toNat []).map Prod.snd else []

theorem chainOf_nat {i : Nat} {r : Row} (hi : σ[i]? = some r) : chainOf σ i = r.map Prod.snd := by
  have hil : i < σ.length := (List.getElem?_eq_some_iff.1 hi).1
  unfold chainOf
  rw [if_pos (by omega), Int.toNat_natCast, List.getD_eq_getElem?_getD, hi]
  rfl

theorem list_any (h : ChRep w bc bf bm σ) (x : Int) (hlen : (chainOf σ x).length ≤ 100000) : Calls Try.prog 15 #[.pointer (some ⟨bc, 0, none⟩), .int .i64 x] w (ListPost w (chainOf σ x)) := by
  by_cases hx : 0 ≤ x ∧ x < σ.length
  · obtain ⟨i, rfl⟩ := Int.eq_ofNat_of_zero_le hx.1
    have hil : i < σ.length := by omega
    have hi : σ[i]? = some σ[i] := List.getElem?_eq_getElem hil
    rw [chainOf_nat hi] at hlen ⊢
    exact list_ok h hi (by simpa using hlen)
  · have : chainOf σ x = [] := if_neg hx
    rw [this]
    exact list_none _ _ (first_out h x hx)

structure AllInv (w : World) (F : Int → List Lk) (xs : List Int) (k : Nat) (v : Value) (wr : World) : Prop where
  fp : NoW w wr
  own : LkRow wr w.heap.size v ((xs.take k).flatMap F)
  nil : v = .slice none 0 0 ↔ (xs.take k).flatMap F = []

theorem lc3_one {ls : List Lk} : ∀ u ∈ ls.flatMap lc3, u.oneCell' = true := by
  intro u hu
  obtain ⟨l, _, hu⟩ := List.mem_flatMap.1 hu
  simp [lc3] at hu; rcases hu with rfl | rfl | rfl <;> rfl

theorem flat_le {α β : Type} (F : α → List β) (N : Nat) (hF : ∀ x, (F x).length ≤ N) : ∀ xs : List α, (xs.flatMap F).length ≤ N * xs.length
  | [] => by simp
  | x :: xs => by
    have := flat_le F N hF xs
    have := hF x
    simp only [List.flatMap_cons, List.length_append, List.length_cons, Nat.mul_succ]; omega

set_option maxHeartbeats 1000000 in
theorem all_any (p : Value) (F : Int → List Lk) (hl : ∀ W : World, NoW w W → ∀ x, Calls Try.prog 15 #[p, .int .i64 x] W (ListPost W (F x))) (xs : List Int) (v : Value) (B : Nat) (hv : w.ownsRow B 3 1 v xs.length (xs.map (Value.int .i64)))
    (hx : xs.length ≤ 100) (hF : ∀ x, (F x).length ≤ 1000) : Calls Try.prog 25 #[p, v] w (ListPost w (xs.flatMap F)) := by
  obtain ⟨a, n, cap, rfl, hn, hcell⟩ : ∃ a n cap, v = .slice a n cap ∧ n = xs.length ∧ (0 < n → ∃ g, a = some ⟨g, 0, none⟩ ∧ ∀ k, k < n → w.cell? ⟨g, k, none⟩ = some (.int .i64 (xs.getD k 0))) := by
    have hc := hv
    obtain ⟨hl1, h2⟩ := hv
    rcases h2 with ⟨rfl, h0⟩ | ⟨g, cap, cur, rfl, hg, hh, hcap, hcap2, hcs, htk⟩
    · exact ⟨none, 0, 0, rfl, h0.symm, fun h => by omega⟩
    · refine ⟨_, _, cap, rfl, rfl, fun _ => ⟨g, rfl, fun k hk => ?_⟩⟩
      have := World.ownsRow.cells hc (g := g) rfl k (.int .i64 (xs.getD k 0)) (by simp [List.getElem?_map, List.getElem?_eq_getElem hk, List.getD_eq_getElem?_getD])
      have e : (⟨g, 0, none⟩ : Addr).add k = ⟨g, k, none⟩ := by unfold Addr.add; split <;> simp_all
      rwa [e] at this
  have Hn := Lib.hid hn
  have hx' : n ≤ 100 := by omega
  have Hl := Lib.hid hl
  have HF := Lib.hid hF
  have Hcell := Lib.hid hcell
  clear hl hv hn hx hF hcell
  go_enter Try.func25, Try.ntmps25
  go_wp2_with fail
  go_loopg [5, 10] (n + 1) (fun g v i wr => ∃ k v', v' = v ∧ k ≤ n ∧ g = n + 1 - k ∧ i = .int .i64 k ∧ AllInv w F xs k v' wr)
  case atStart => exact ⟨0, _, rfl, Nat.zero_le _, rfl, rfl, Fp.refl _ _, LkRow.nil _ _, by simp⟩
  case round =>
    obtain ⟨k, v', rfl, hk, hg, rfl, hinv⟩ := hrel
    have Hg := Lib.hid hg
    have Hinv := Lib.hid hinv
    clear hg hinv
    by_cases hlt : k < n
    · obtain ⟨g, rfl, hc⟩ := Hcell.out (by omega)
      have hc0 := hc k hlt
      have hfp := Hinv.out.fp
      have lg : g < w.heap.size := cell_lt hc0
      have hc1 : wr.cell? ⟨g, k, none⟩ = some (.int .i64 (xs.getD k 0)) := (hfp.cell (p := ⟨g, k, none⟩) lg id).trans hc0
      obtain ⟨x, hxd⟩ : ∃ x, x = xs.getD k 0 := ⟨_, rfl⟩
      rw [← hxd] at hc1
      have Hx := Lib.hid hxd
      clear hxd hc0 hc
      go_wp2_with fail
      refine (Hl.out wr hfp x).mono ?_
      rintro e w1 ⟨u, rfl, hu, hfp1, hunil⟩
      have hown := Hinv.out.own
      have hon := Hinv.out.nil
      have htk : xs.take (k + 1) = xs.take k ++ [x] := by
        have hkl : k < xs.length := by have := Hn.out; omega
        rw [List.take_succ_eq_append_getElem hkl, Hx.out, List.getD_eq_getElem?_getD, List.getElem?_eq_getElem hkl]; rfl
      have hfm : (xs.take (k + 1)).flatMap F = (xs.take k).flatMap F ++ F x := by rw [htk, List.flatMap_append]; simp
      have hb1 : ((xs.take k).flatMap F).length ≤ 100000 := by
        have h1 := flat_le F 1000 HF.out (xs.take k)
        have h2 : (xs.take k).length ≤ 100 := by simp; omega
        omega
      have hb2 := HF.out x
      obtain ⟨os, hos⟩ : ∃ os, os = (xs.take k).flatMap F := ⟨_, rfl⟩
      obtain ⟨fx, hfx⟩ : ∃ fx, fx = F x := ⟨_, rfl⟩
      rw [← hos] at hown hon hb1
      rw [← hos, ← hfx] at hfm
      rw [← hfx] at hu hunil hb2
      have Hfm := Lib.hid hfm
      have Hon := Lib.hid hon
      have hlto := hown.lt
      have hown1 : LkRow w1 w.heap.size v' os := ownsRow_of_block hown (fun g hg => hfp1.block g (hlto g hg).2 id)
      have Hunil := Lib.hid hunil
      clear hunil hos hfx htk hfm hon
      go_wp2_with (at_builtin; go_must (refine wp_appendR rfl _ _ 35 rfl w.heap.size 33 lz 3 Try.underlying35 infoLk rfl (by decide) v' os.length (os.flatMap lc3) rfl hown1 u fx.length wr.heap.size (fx.flatMap lc3) rfl hu lc3_one ?_ ?_ ?_))
      · omega
      · have := hfp.size; have := hfp1.size; omega
      intro v2 w2 hown2 hgrow hiff _
      have hfp2 : NoW w w2 := (hfp.trans hfp1 (fun _ _ h => h)).grown hgrow (fun g e => Or.inl (hlto g e).1)
      have Hiff := Lib.hid hiff
      clear hiff
      go_wp2_with fail
      go_roundg (n - k)
      case measure => have := Hg.out; omega
      case rel =>
        refine ⟨k + 1, _, rfl, by omega, by omega, by go_num, hfp2, ?_, ?_⟩
        · rw [Hfm.out]; unfold LkRow; rw [List.length_append, List.flatMap_append]; exact hown2
        · rw [Hfm.out]
          refine Hiff.out.trans ?_
          have h1 := Hon.out
          rw [h1]
          simp
    · obtain rfl : k = n := by omega
      go_wp2_with fail
      go_ret
      have h := Hinv.out
      have e : xs.take k = xs := by rw [Hn.out, List.take_length]
      refine ⟨v', rfl, ?_, h.fp, ?_⟩
      · have := h.own; rwa [e] at this
      · have := h.nil; rwa [e] at this
end
end Go.Proofs.Ytmhjdjndckeepaa
