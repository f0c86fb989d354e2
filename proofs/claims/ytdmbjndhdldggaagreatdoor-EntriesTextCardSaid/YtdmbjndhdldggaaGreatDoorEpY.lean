/- Chapter 18 (of chapter 03's text, by genep.py): Point, Prefix. -/
import Derived.Test.YtdmbjndhdldggaaGreatDoorEpP
namespace Go.Proofs.YtdmbjndhdldggaaGreatDoor
set_option linter.unusedVariables false
set_option linter.unusedSimpArgs false
open Go.RowKit Go.Lib Go.Sort

def ptV : Option (Nat × Nat) → Value
  | some (a, n) => .tuple #[.agg #[.int .u32 a, .int .u16 n], .int .i64 0]
  | none => .tuple #[.agg #[.int .u32 0, .int .u16 0], .int .i64 3]

theorem num_nil (M : Nat) : num M [] = none := num_none.2 fun n _ e => dec_ne n e.symm
theorem cut_spec (c : UInt8) (M : Nat) (l : List UInt8) : ∃ x y t, Lib.cut l [c] = (x, y, t) ∧ x.length ≤ l.length ∧ y.length ≤ l.length ∧
    withOf c M l = match addrOf x, num M y with | some a, some n => some (a, n) | _, _ => none := by
  rw [lib_cut]
  rcases h : cutFirst c l with _ | ⟨x, y⟩
  · refine ⟨l, [], false, rfl, Nat.le_refl _, by simp, ?_⟩
    unfold withOf
    rw [h, num_nil]
    cases addrOf l <;> rfl
  · have := (cutFirst_some.1 h).1
    refine ⟨x, y, true, rfl, by rw [this]; simp, by rw [this]; simp; omega, ?_⟩
    unfold withOf
    rw [h]
    dsimp only
    rcases addrOf x with _ | a <;> rcases num M y with _ | n <;> rfl

theorem cut_any (c : UInt8) (l : List UInt8) (hl : l.length ≤ 4294967000) (w : World) (ht : TbP w) {x y : List UInt8} {t : Bool} (h : Lib.cut l [c] = (x, y, t)) :
    Calls Tryz.prog 50 #[str l, .string ⟨#[c]⟩] w (Ret1 (.tuple #[str x, str y, .bool t]) w) := by
  obtain ⟨mm, hmx⟩ := ht.mx
  have hsz : (⟨l.toArray⟩ : ByteArray).size = l.length := by simp [ByteArray.size]
  refine (Tryz.strings_Cut ⟨l.toArray⟩ ⟨#[c]⟩ mm w (by rw [hsz]; omega) hmx).mono ?_
  rintro e w' ⟨rfl, n, rfl⟩
  have e1 : Lib.cut (⟨l.toArray⟩ : ByteArray).data.toList (⟨#[c]⟩ : ByteArray).data.toList = (x, y, t) := h
  rw [e1]
  exact ⟨rfl, (Fp.refl _ _).drewN n⟩

set_option maxHeartbeats 2000000 in
theorem ad_point (l : List UInt8) (hl : l.length ≤ 4294967000) (w : World) (ht : TbP w) :
    Calls Tryz.prog 47 #[str l] w (Ret1 (ptV (withOf 58 65535 l)) w) := by
  obtain ⟨x, y, t, hcut, hx, hy, hwith⟩ := cut_spec 58 65535 l
  have hcut2 := fun W hW => cut_any 58 l hl W hW hcut
  have Hcut := Lib.hid hcut2
  have Ht := Lib.hid ht
  have Hwith := Lib.hid hwith
  clear hcut hcut2 ht hwith
  go_enter Tryz.func47, Tryz.ntmps47
  go_wp2_with fail
  have hn0 : NoW w (w.alloc (.cells #[.int .u32 0, .int .u16 0] 26)) := (Fp.refl _ _).alloc _
  have hb0 := heap_alloc_new w (.cells #[.int .u32 0, .int .u16 0] 26)
  refine (Hcut.out _ (Ht.out.low hn0)).mono ?_
  rintro e w1 ⟨rfl, hp1⟩
  have hn1 := hn0.trans hp1 (fun _ _ h => h)
  have hb1 := (hp1.block _ (by simp) id).trans hb0
  have Hn1 := Lib.hid hn1
  have Hb1 := Lib.hid hb1
  clear hp1 hn1 hb1 hn0 hb0
  go_wp2_with fail
  refine (ad_parse x (by omega) _ (Ht.out.low Hn1.out)).mono ?_
  rintro e w2 ⟨rfl, hp2⟩
  have hn2 := Hn1.out.trans hp2 (fun _ _ h => h)
  have hb2 := (hp2.block _ (Array.getElem?_eq_some_iff.1 Hb1.out).1 id).trans Hb1.out
  have Hn2 := Lib.hid hn2
  have Hb2 := Lib.hid hb2
  clear hp2 hn2 hb2 Hn1 Hb1
  obtain ⟨oa, hoa⟩ : ∃ oa, oa = addrOf x := ⟨_, rfl⟩
  rw [← hoa] at Hwith ⊢
  clear hoa
  obtain ⟨on, hon⟩ : ∃ on, on = num 65535 y := ⟨_, rfl⟩
  have hny := fun W hW => number16 y (by omega) W hW
  rw [← hon] at Hwith hny
  have Hny := Lib.hid hny
  have hn65 : ∀ n, on = some n → n ≤ 65535 := fun n e => (num_some.1 (hon.symm.trans e)).2
  clear hon hny
  rcases oa with _ | a
  all_goals
    unfold adV
    go_wp2_with fail
    refine (Hny.out _ (Ht.out.low Hn2.out)).mono ?_
    rintro e w3 ⟨rfl, hp3⟩
    have hn3 := Hn2.out.trans hp3 (fun _ _ h => h)
    have hb3 := (hp3.block _ (Array.getElem?_eq_some_iff.1 Hb2.out).1 id).trans Hb2.out
    have Hn3 := Lib.hid hn3
    have c0 : w3.cell? ⟨w.heap.size, 0, none⟩ = some (.int .u32 0) := by simp [World.cell?, hb3]
    have c1 : w3.cell? ⟨w.heap.size, 1, none⟩ = some (.int .u16 0) := by simp [World.cell?, hb3]
    have z0 : w3.frozen? ⟨w.heap.size, 0, none⟩ = false := by simp [World.frozen?, hb3]
    have z1 : w3.frozen? ⟨w.heap.size, 1, none⟩ = false := by simp [World.frozen?, hb3]
    clear hp3 hn3 hb3
    rcases on with _ | n
    all_goals
      unfold numV
      have Hn65 := Lib.hid hn65
      clear hn65
      go_wp2_with fail
  · refine bodyPost_ret (v := .tuple #[.agg #[.int .u32 0, .int .u16 0], .int .i64 3]) (by simp only [results, Tryz.results47]; go_simp) rfl ⟨by rw [Hwith.out]; rfl, ?_⟩
    have := Hn3.out
    (repeat (first | exact Fp.refl _ _ | refine Fp.drew ?_ | refine Fp.drewN ?_ _ | refine Fp.alloc ?_ _ | (refine Fp.setCell ?_ (Or.inl (by simp)) _) | (refine Fp.setCell ?_ (Or.inl (by simp; omega)) _) | refine Fp.trans ?_ (by assumption) (fun _ _ h => h)))
  · refine bodyPost_ret (v := .tuple #[.agg #[.int .u32 0, .int .u16 0], .int .i64 3]) (by simp only [results, Tryz.results47]; go_simp) rfl ⟨by rw [Hwith.out]; rfl, ?_⟩
    have := Hn3.out
    (repeat (first | exact Fp.refl _ _ | refine Fp.drew ?_ | refine Fp.drewN ?_ _ | refine Fp.alloc ?_ _ | (refine Fp.setCell ?_ (Or.inl (by simp)) _) | (refine Fp.setCell ?_ (Or.inl (by simp; omega)) _) | refine Fp.trans ?_ (by assumption) (fun _ _ h => h)))
  · refine bodyPost_ret (v := .tuple #[.agg #[.int .u32 0, .int .u16 0], .int .i64 3]) (by simp only [results, Tryz.results47]; go_simp) rfl ⟨by rw [Hwith.out]; rfl, ?_⟩
    have := Hn3.out
    (repeat (first | exact Fp.refl _ _ | refine Fp.drew ?_ | refine Fp.drewN ?_ _ | refine Fp.alloc ?_ _ | (refine Fp.setCell ?_ (Or.inl (by simp)) _) | (refine Fp.setCell ?_ (Or.inl (by simp; omega)) _) | refine Fp.trans ?_ (by assumption) (fun _ _ h => h)))
  · refine bodyPost_ret (v := .tuple #[.agg #[.int .u32 a, .int .u16 n], .int .i64 0]) (by simp only [results, Tryz.results47]; go_simp) rfl ⟨by rw [Hwith.out]; rfl, ?_⟩
    have := Hn3.out
    (repeat (first | exact Fp.refl _ _ | refine Fp.drew ?_ | refine Fp.drewN ?_ _ | refine Fp.alloc ?_ _ | (refine Fp.setCell ?_ (Or.inl (by simp)) _) | (refine Fp.setCell ?_ (Or.inl (by simp; omega)) _) | refine Fp.trans ?_ (by assumption) (fun _ _ h => h)))
end Go.Proofs.YtdmbjndhdldggaaGreatDoor
