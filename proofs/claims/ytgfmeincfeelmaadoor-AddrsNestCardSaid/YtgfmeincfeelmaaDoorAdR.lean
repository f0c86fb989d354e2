/- Chapter 03: the document's Point, Prefix. -/
import Derived.Test.YtgfmeincfeelmaaDoorAdQ
import Derived.Test.YtgfmeincfeelmaaDoorAdZ
namespace Go.Proofs.YtgfmeincfeelmaaDoor
set_option linter.unusedVariables false
set_option linter.unusedSimpArgs false
open Go.RowKit Go.Lib Go.Sort

theorem addrOf_nil : addrOf [] = none := by decide
theorem rcut_spec (c : UInt8) (h46 : c ≠ 46) (hd : ∀ u, c ∉ decDigits u) (M : Nat) (l : List UInt8) : ∃ x y t, cutV (cutLast c l) = .tuple #[str x, str y, .bool t] ∧ x.length ≤ l.length ∧ y.length ≤ l.length ∧ (t = false → x = []) ∧
    withOf c M l = match addrOf x, num M y with | some a, some n => some (a, n) | _, _ => none := by
  rw [← withR_eq h46 hd]
  unfold withR
  rcases h : cutLast c l with _ | ⟨x, y⟩
  · exact ⟨[], [], false, rfl, by simp, by simp, fun _ => rfl, by rw [addrOf_nil]⟩
  · have := (cutLast_some.1 h).1
    refine ⟨x, y, true, rfl, by rw [this]; simp, by rw [this]; simp; omega, (fun h => by cases h), ?_⟩
    dsimp only
    rcases addrOf x with _ | a <;> rcases num M y with _ | n <;> rfl

set_option maxHeartbeats 2000000 in
theorem rt_point (l : List UInt8) (hl : l.length ≤ 4294967000) (w : World) :
    Calls Tryd.prog 14 #[str l] w (Ret1 (ptV (withOf 58 65535 l)) w) := by
  obtain ⟨x, y, t, hcut, hx, hy, htf, hwith⟩ := rcut_spec 58 (by decide) (fun u => dec_no58) 65535 l
  have hcut2 := fun W => rt_cut l hl 58 W
  rw [hcut] at hcut2
  have Hcut := Lib.hid hcut2
  have Hwith := Lib.hid hwith
  clear hcut hcut2 hwith
  go_enter Tryd.func14, Tryd.ntmps14
  go_wp2_with fail
  have hn0 : NoW w (w.alloc (.cells #[.int .u32 0, .int .u16 0] 34)) := (Fp.refl _ _).alloc _
  have hb0 := heap_alloc_new w (.cells #[.int .u32 0, .int .u16 0] 34)
  refine (Hcut.out _).mono ?_
  rintro e w1 ⟨rfl, hp1⟩
  have hn1 := hn0.trans hp1 (fun _ _ h => h)
  have hb1 := (hp1.block _ (by simp) id).trans hb0
  have Hn1 := Lib.hid hn1
  have Hb1 := Lib.hid hb1
  clear hp1 hn1 hb1 hn0 hb0
  go_wp2_with fail
  refine (rt_parse x (by omega) _).mono ?_
  rintro e w2 ⟨rfl, hp2⟩
  have hn2 := Hn1.out.trans hp2 (fun _ _ h => h)
  have hb2 := (hp2.block _ (Array.getElem?_eq_some_iff.1 Hb1.out).1 id).trans Hb1.out
  have Hn2 := Lib.hid hn2
  have Hb2 := Lib.hid hb2
  clear hp2 hn2 hb2 Hn1 Hb1
  obtain ⟨oa, hoa⟩ : ∃ oa, oa = addrOf x := ⟨_, rfl⟩
  have htn : t = false → oa = none := fun h => by rw [hoa, htf h, addrOf_nil]
  rw [← hoa] at Hwith ⊢
  clear hoa htf
  obtain ⟨on, hon⟩ : ∃ on, on = num 65535 y := ⟨_, rfl⟩
  have hny := fun W => rt_number y (by omega) 65535 (by omega) W
  rw [← hon] at Hwith hny
  have Hny := Lib.hid hny
  have hn65 : ∀ n, on = some n → IntKind.u16.wrap (n : Int) = n := fun n e => IntWalk.u16_in _ (by have := (num_some.1 (hon.symm.trans e)).2; omega)
  clear hon hny
  rcases oa with _ | a
  all_goals
    unfold adV
    go_wp2_with fail
    refine (Hny.out _).mono ?_
    rintro e w3 ⟨rfl, hp3⟩
    have hn3 := Hn2.out.trans hp3 (fun _ _ h => h)
    have hb3 := (hp3.block _ (Array.getElem?_eq_some_iff.1 Hb2.out).1 id).trans Hb2.out
    have Hn3 := Lib.hid hn3
    have c0 : w3.cell? ⟨w.heap.size, 0, none⟩ = some (.int .u32 0) := by simp [World.cell?, hb3]
    have c1 : w3.cell? ⟨w.heap.size, 1, none⟩ = some (.int .u16 0) := by simp [World.cell?, hb3]
    have z0 : w3.frozen? ⟨w.heap.size, 0, none⟩ = false := by simp [World.frozen?, hb3]
    have z1 : w3.frozen? ⟨w.heap.size, 1, none⟩ = false := by simp [World.frozen?, hb3]
    clear hp3 hn3 hb3
    rcases on with _ | n
    all_goals
      unfold numV
      try have hwn := hn65 _ rfl
      clear hn65
      rcases t with _ | _
      all_goals first | exact absurd (htn rfl) (Option.some_ne_none _) | skip
      all_goals clear htn
      all_goals go_wp2_with fail
  all_goals first
    | (refine bodyPost_ret (v := .tuple #[.agg #[.int .u32 0, .int .u16 0], .int .i64 3]) (by simp only [results, Tryd.results14]; go_simp) rfl ⟨by rw [Hwith.out]; rfl, ?_⟩; have := Hn3.out; (repeat (first | exact Fp.refl _ _ | refine Fp.drew ?_ | refine Fp.drewN ?_ _ | refine Fp.alloc ?_ _ | (refine Fp.setCell ?_ (Or.inl (by simp)) _) | (refine Fp.setCell ?_ (Or.inl (by simp; omega)) _) | refine Fp.trans ?_ (by assumption) (fun _ _ h => h))))
    | (refine bodyPost_ret (v := .tuple #[.agg #[.int .u32 a, .int .u16 n], .int .i64 0]) (by simp only [results, Tryd.results14]; go_simp) rfl ⟨by rw [Hwith.out]; rfl, ?_⟩; have := Hn3.out; (repeat (first | exact Fp.refl _ _ | refine Fp.drew ?_ | refine Fp.drewN ?_ _ | refine Fp.alloc ?_ _ | (refine Fp.setCell ?_ (Or.inl (by simp)) _) | (refine Fp.setCell ?_ (Or.inl (by simp; omega)) _) | refine Fp.trans ?_ (by assumption) (fun _ _ h => h))))
end Go.Proofs.YtgfmeincfeelmaaDoor
