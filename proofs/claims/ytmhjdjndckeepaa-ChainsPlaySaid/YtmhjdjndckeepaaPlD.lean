/- ChainsPlay: an act's link. -/
import Derived.Test.YtmhjdjndckeepaaPlV
namespace Go.Proofs.Ytmhjdjndckeepaa
set_option linter.unusedVariables false
set_option linter.unusedSimpArgs false
open Go.RowKit

structure AAct where
  kd : Int
  ch : Int
  sl : Int
  bk : Bool
  at_ : Int
  raw : Lk
structure AAct.Ok (x : AAct) : Prop where
  k0 : 0 ≤ x.kd
  k1 : x.kd < 256
  c0 : 0 ≤ x.ch
  c1 : x.ch < 256
  s0 : 0 ≤ x.sl
  s1 : x.sl < 256
  at_ : (Lit.int .i64 x.at_).wf = true
  raw : Lok x.raw
def AAct.v (x : AAct) : Value := .agg #[.int .u8 x.kd, .int .u8 x.ch, .int .u8 x.sl, .bool x.bk, .int .i64 x.at_, .int .i64 x.raw.1, .int .u32 x.raw.2.1, .bool x.raw.2.2]
def AAct.link (x : AAct) : Lk := if 5 < x.kd % 8 then x.raw else (x.sl % 12, x.sl / 12 % 2, x.bk)

set_option maxHeartbeats 1000000 in
theorem act_link (x : AAct) (hx : x.Ok) (w : World) : Calls Try.prog 18 #[x.v] w (Ret1 (lv x.link) w) := by
  obtain ⟨kd, ch, sl, bk, at_, r0, r1, r2⟩ := x
  obtain ⟨k0, k1, c0, c1, s0, s1, wa, wr⟩ := hx
  dsimp only at k0 k1 c0 c1 s0 s1
  clear wa wr
  unfold AAct.v AAct.link lv
  dsimp only
  have h1 : kd.tmod 8 = kd % 8 := Int.tmod_eq_emod_of_nonneg k0
  have h2 : sl.tmod 12 = sl % 12 := Int.tmod_eq_emod_of_nonneg s0
  have h3 : sl.tdiv 12 = sl / 12 := Int.tdiv_eq_ediv_of_nonneg s0
  have h4 : (sl / 12).tmod 2 = sl / 12 % 2 := Int.tmod_eq_emod_of_nonneg (by omega)
  have w1 : IntKind.i64.wrap (sl % 12) = sl % 12 := IntWalk.i64_in _ (by omega)
  have w2 : IntKind.u32.wrap (sl / 12 % 2) = sl / 12 % 2 := IntWalk.u32_in _ (by omega)
  go_enter Try.func18, Try.ntmps18
  by_cases hk : 5 < kd % 8
  · go_wp2_with fail
    refine bodyPost_ret (v := .agg #[.int .i64 r0, .int .u32 r1, .bool r2]) (by simp only [results, Try.results18]; go_simp) rfl ⟨rfl, ?_⟩
    exact (((Fp.refl _ _).alloc _).alloc _)
  · go_wp2_with fail
    refine bodyPost_ret (v := .agg #[.int .i64 (sl % 12), .int .u32 (sl / 12 % 2), .bool bk]) (by simp only [results, Try.results18]; go_simp) rfl ⟨rfl, ?_⟩
    exact (((Fp.refl _ _).alloc _).alloc _)

/-- A link stands at one place alone. -/
theorem lks_uniq {σ : List Row} (nd : (σ.flatten.map Prod.snd).Nodup) {i : Nat} {r1 r2 : Row} {x : Nat × Lk} (hi : σ[i]? = some (r1 ++ x :: r2)) {n k : Nat} {row : List Lk} (hn : (lks σ)[n]? = some row) (hk : row[k]? = some x.2) :
    n = i ∧ k = r1.length ∧ row = (r1 ++ x :: r2).map Prod.snd := by
  obtain ⟨r', h1, rfl⟩ := lks_get' hn
  have hxr : x.2 ∈ r'.map Prod.snd := List.mem_of_getElem? hk
  obtain ⟨y, hy, hyx⟩ := List.mem_map.1 hxr
  by_cases e : n = i
  · subst e
    rw [hi] at h1
    cases h1
    refine ⟨rfl, ?_, rfl⟩
    have hnd : ((r1 ++ x :: r2).map Prod.snd).Nodup := nd.sublist ((List.sublist_flatten_of_mem (List.mem_of_getElem? hi)).map _)
    have hk2 : ((r1 ++ x :: r2).map Prod.snd)[r1.length]? = some x.2 := by simp
    exact (List.getElem?_inj (List.getElem?_eq_some_iff.1 hk).1 hnd).1 (by rw [hk, hk2])
  · exact absurd hyx (ne_of_nodup Prod.snd nd h1 hi e hy (by simp))

theorem lks_mem {σ : List Row} {l : Lk} {n k : Nat} {row : List Lk} (hn : (lks σ)[n]? = some row) (hk : row[k]? = some l) : ∃ x, x ∈ σ.flatten ∧ x.2 = l := by
  obtain ⟨r', h1, rfl⟩ := lks_get' hn
  obtain ⟨y, hy, hyx⟩ := List.mem_map.1 (List.mem_of_getElem? hk)
  exact ⟨y, mem_flatten_of h1 hy, hyx⟩

/-- Where a link stands. -/
theorem stands {σ : List Row} {l : Lk} (h : ¬ ∀ x, x ∈ σ.flatten → x.2 ≠ l) : ∃ (i : Nat) (r1 r2 : Row) (x : Nat × Lk), σ[i]? = some (r1 ++ x :: r2) ∧ x.2 = l := by
  have : ∃ x, x ∈ σ.flatten ∧ x.2 = l := by
    apply Classical.byContradiction
    intro hne
    exact h fun x hx e => hne ⟨x, hx, e⟩
  obtain ⟨x, hx, e⟩ := this
  obtain ⟨r, hr, hxr⟩ := List.mem_flatten.1 hx
  obtain ⟨i, hi⟩ := List.mem_iff_getElem?.1 hr
  obtain ⟨r1, r2, rfl⟩ := List.append_of_mem hxr
  exact ⟨i, r1, r2, x, hi, e⟩

theorem lks_len (σ : List Row) : (lks σ).length = σ.length := by simp [lks]
theorem lks_row {σ : List Row} {row : List Lk} (h : row ∈ lks σ) : row.length ≤ σ.flatten.length := by
  obtain ⟨r, hr, rfl⟩ := List.mem_map.1 h
  rw [List.length_map]
  exact (List.sublist_flatten_of_mem hr).length_le
end Go.Proofs.Ytmhjdjndckeepaa
