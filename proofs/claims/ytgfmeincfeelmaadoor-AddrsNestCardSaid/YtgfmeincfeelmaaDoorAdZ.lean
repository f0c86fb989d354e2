/- Chapter 03: Prefix. -/
import Derived.Test.YtgfmeincfeelmaaDoorAdY
namespace Go.Proofs.YtgfmeincfeelmaaDoor
set_option linter.unusedVariables false
set_option linter.unusedSimpArgs false
open Go.RowKit Go.Lib Go.Sort

/-- What Prefix answers. -/
def pfV : Option (Nat × Nat) → Value
  | some (a, n) => if mayB a n = true then .tuple #[.agg #[.int .u32 a, .int .i64 n], .int .i64 0] else .tuple #[.agg #[.int .u32 0, .int .i64 0], .int .i64 2]
  | none => .tuple #[.agg #[.int .u32 0, .int .i64 0], .int .i64 3]
theorem num32 (y : List UInt8) : num 32 y = match num 255 y with | some n => if n ≤ 32 then some n else none | none => none := by
  rcases h : num 255 y with _ | n
  · exact num_none.2 fun n hn => num_none.1 h n (by omega)
  · obtain ⟨rfl, hn⟩ := num_some.1 h
    by_cases h32 : n ≤ 32
    · simp only [h32, if_true]
      exact num_some.2 ⟨rfl, h32⟩
    · simp only [h32, if_false]
      exact num_none.2 fun m hm e => h32 (by rw [dec_inj e]; exact hm)

set_option maxHeartbeats 2000000 in
theorem ad_prefix (l : List UInt8) (hl : l.length ≤ 4294967000) (w : World) (ht : Tb w) :
    Calls Tryd.prog 11 #[str l] w (Ret1 (pfV (withOf 47 32 l)) w) := by
  obtain ⟨x, y, t, hcut, hx, hy, hwith⟩ := cut_spec 47 32 l
  have hcut2 := fun W hW => cut_any 47 l hl W hW hcut
  have Hcut := Lib.hid hcut2
  have Ht := Lib.hid ht
  rw [num32] at hwith
  have Hwith := Lib.hid hwith
  clear hcut hcut2 ht hwith
  go_enter Tryd.func11, Tryd.ntmps11
  go_wp2_with fail
  have hn0 : NoW w (w.alloc (.cells #[.int .u32 0, .int .i64 0] 29)) := (Fp.refl _ _).alloc _
  have hb0 := heap_alloc_new w (.cells #[.int .u32 0, .int .i64 0] 29)
  refine (Hcut.out _ (Ht.out.low hn0)).mono ?_
  rintro e w1 ⟨rfl, hp1⟩
  have hn1 := hn0.trans hp1 (fun _ _ h => h)
  have hb1 := (hp1.block _ (by simp) id).trans hb0
  have Hn1 := Lib.hid hn1
  have Hb1 := Lib.hid hb1
  clear hp1 hn1 hb1 hn0 hb0
  go_wp2_with fail
  refine (ad_parse x (by omega) _ (Ht.out.low Hn1.out)).mono ?_
  rintro e w2 ⟨rfl, hp2⟩
  have hn2 := Hn1.out.trans hp2 (fun _ _ h => h)
  have hb2 := (hp2.block _ (Array.getElem?_eq_some_iff.1 Hb1.out).1 id).trans Hb1.out
  have Hn2 := Lib.hid hn2
  have Hb2 := Lib.hid hb2
  clear hp2 hn2 hb2 Hn1 Hb1
  obtain ⟨oa, hoa⟩ : ∃ oa, oa = addrOf x := ⟨_, rfl⟩
  rw [← hoa] at Hwith ⊢
  clear hoa
  obtain ⟨on, hon⟩ : ∃ on, on = num 255 y := ⟨_, rfl⟩
  have hny := fun W hW => number8 y (by omega) W hW
  rw [← hon] at Hwith hny
  have Hny := Lib.hid hny
  have hn25 : ∀ n, on = some n → n ≤ 255 := fun n e => (num_some.1 (hon.symm.trans e)).2
  clear hon hny
  rcases oa with _ | a
  all_goals
    unfold adV
    go_wp2_with fail
    refine (Hny.out _ (Ht.out.low Hn2.out)).mono ?_
    rintro e w3 ⟨rfl, hp3⟩
    have hn3 := Hn2.out.trans hp3 (fun _ _ h => h)
    have hb3 := (hp3.block _ (Array.getElem?_eq_some_iff.1 Hb2.out).1 id).trans Hb2.out
    have Hn3 := Lib.hid hn3
    have c0 : w3.cell? ⟨w.heap.size, 0, none⟩ = some (.int .u32 0) := by simp [World.cell?, hb3]
    have c1 : w3.cell? ⟨w.heap.size, 1, none⟩ = some (.int .i64 0) := by simp [World.cell?, hb3]
    have z0 : w3.frozen? ⟨w.heap.size, 0, none⟩ = false := by simp [World.frozen?, hb3]
    have z1 : w3.frozen? ⟨w.heap.size, 1, none⟩ = false := by simp [World.frozen?, hb3]
    clear hp3 hn3 hb3
    rcases on with _ | n
    all_goals
      unfold numV
      have Hn25 := Lib.hid hn25
      clear hn25
  · go_wp2_with fail
    refine bodyPost_ret (v := .tuple #[.agg #[.int .u32 0, .int .i64 0], .int .i64 3]) (by simp only [results, Tryd.results11]; go_simp) rfl ⟨by rw [Hwith.out]; rfl, ?_⟩
    have := Hn3.out
    (repeat (first | exact Fp.refl _ _ | refine Fp.drew ?_ | refine Fp.drewN ?_ _ | refine Fp.alloc ?_ _ | (refine Fp.setCell ?_ (Or.inl (by simp)) _) | (refine Fp.setCell ?_ (Or.inl (by simp; omega)) _) | refine Fp.trans ?_ (by assumption) (fun _ _ h => h)))
  · go_wp2_with fail
    refine bodyPost_ret (v := .tuple #[.agg #[.int .u32 0, .int .i64 0], .int .i64 3]) (by simp only [results, Tryd.results11]; go_simp) rfl ⟨by rw [Hwith.out]; rfl, ?_⟩
    have := Hn3.out
    (repeat (first | exact Fp.refl _ _ | refine Fp.drew ?_ | refine Fp.drewN ?_ _ | refine Fp.alloc ?_ _ | (refine Fp.setCell ?_ (Or.inl (by simp)) _) | (refine Fp.setCell ?_ (Or.inl (by simp; omega)) _) | refine Fp.trans ?_ (by assumption) (fun _ _ h => h)))
  · go_wp2_with fail
    refine bodyPost_ret (v := .tuple #[.agg #[.int .u32 0, .int .i64 0], .int .i64 3]) (by simp only [results, Tryd.results11]; go_simp) rfl ⟨by rw [Hwith.out]; rfl, ?_⟩
    have := Hn3.out
    (repeat (first | exact Fp.refl _ _ | refine Fp.drew ?_ | refine Fp.drewN ?_ _ | refine Fp.alloc ?_ _ | (refine Fp.setCell ?_ (Or.inl (by simp)) _) | (refine Fp.setCell ?_ (Or.inl (by simp; omega)) _) | refine Fp.trans ?_ (by assumption) (fun _ _ h => h)))
  · by_cases h32 : n ≤ 32
    · have hgt : decide ((32 : Int) < (n : Int)) = false := by simp; omega
      have hwi : IntKind.i64.wrap (n : Int) = n := IntWalk.i64_in _ (by omega)
      have hsome : withOf 47 32 l = some (a, n) := by rw [Hwith.out]; simp [h32]
      have ha := (withOf_some (c := 47) (by decide) (fun u => dec_no47)).1 hsome
      have hmay := fun W => may_ok a ha.2.1 n W
      have Hsome := Lib.hid hsome
      have Hmay := Lib.hid hmay
      clear hsome hmay ha
      go_wp2_with fail
      refine (Hmay.out _).mono ?_
      rintro e w4 ⟨rfl, hp4⟩
      have lg3 : w.heap.size < w3.heap.size := cell_lt c0
      have hq4 : NoW w3 w4 := Fp.trans ((Fp.refl _ _).alloc _) hp4 (fun _ _ h => h)
      have hb4 := (hp4.block _ (by simp) id).trans (heap_alloc_new w3 _)
      have e0 : w4.cell? ⟨w3.heap.size, 0, none⟩ = some (.int .u32 a) := by simp [World.cell?, hb4]
      have e1 : w4.cell? ⟨w3.heap.size, 1, none⟩ = some (.int .i64 n) := by simp [World.cell?, hb4]
      have f0 : w4.cell? ⟨w.heap.size, 0, none⟩ = some (.int .u32 0) := (hq4.cell (p := ⟨w.heap.size, 0, none⟩) lg3 id).trans c0
      have f1 : w4.cell? ⟨w.heap.size, 1, none⟩ = some (.int .i64 0) := (hq4.cell (p := ⟨w.heap.size, 1, none⟩) lg3 id).trans c1
      have y0 : w4.frozen? ⟨w.heap.size, 0, none⟩ = false := (hq4.frozen (p := ⟨w.heap.size, 0, none⟩) lg3 id).trans z0
      have y1 : w4.frozen? ⟨w.heap.size, 1, none⟩ = false := (hq4.frozen (p := ⟨w.heap.size, 1, none⟩) lg3 id).trans z1
      have Hn4 := Lib.hid ((Hn3.out.alloc _).trans hp4 (fun _ _ h => h))
      clear hq4 hb4 hp4 c0 c1 z0 z1
      rcases hm : mayB a n with _ | _
      · have Hm := Lib.hid hm
        clear hm
        go_wp2_with fail
        refine bodyPost_ret (v := .tuple #[.agg #[.int .u32 0, .int .i64 0], .int .i64 2]) (by simp only [results, Tryd.results11]; go_simp) rfl ⟨by rw [Hsome.out]; simp [pfV, Hm.out], ?_⟩
        have := Hn4.out
        (repeat (first | exact Fp.refl _ _ | refine Fp.drew ?_ | refine Fp.drewN ?_ _ | refine Fp.alloc ?_ _ | (refine Fp.setCell ?_ (Or.inl (by simp)) _) | (refine Fp.setCell ?_ (Or.inl (by simp; omega)) _) | refine Fp.trans ?_ (by assumption) (fun _ _ h => h)))
      · have Hm := Lib.hid hm
        clear hm
        go_wp2_with fail
        refine bodyPost_ret (v := .tuple #[.agg #[.int .u32 a, .int .i64 n], .int .i64 0]) (by simp only [results, Tryd.results11]; go_simp) rfl ⟨by rw [Hsome.out]; simp [pfV, Hm.out], ?_⟩
        have := Hn4.out
        (repeat (first | exact Fp.refl _ _ | refine Fp.drew ?_ | refine Fp.drewN ?_ _ | refine Fp.alloc ?_ _ | (refine Fp.setCell ?_ (Or.inl (by simp)) _) | (refine Fp.setCell ?_ (Or.inl (by simp; omega)) _) | refine Fp.trans ?_ (by assumption) (fun _ _ h => h)))
    · have hgt : decide ((32 : Int) < (n : Int)) = true := by simp; omega
      have hnone : withOf 47 32 l = none := by rw [Hwith.out]; simp [h32]
      have Hnone := Lib.hid hnone
      clear hnone h32
      go_wp2_with fail
      refine bodyPost_ret (v := .tuple #[.agg #[.int .u32 0, .int .i64 0], .int .i64 3]) (by simp only [results, Tryd.results11]; go_simp) rfl ⟨by rw [Hnone.out]; rfl, ?_⟩
      have := Hn3.out
      (repeat (first | exact Fp.refl _ _ | refine Fp.drew ?_ | refine Fp.drewN ?_ _ | refine Fp.alloc ?_ _ | (refine Fp.setCell ?_ (Or.inl (by simp)) _) | (refine Fp.setCell ?_ (Or.inl (by simp; omega)) _) | refine Fp.trans ?_ (by assumption) (fun _ _ h => h)))
end Go.Proofs.YtgfmeincfeelmaaDoor
