/- Texts of this proof, merged: Si Sj Sk Sl Rs Tfs Tls. -/
import Derived.Test.YthmokdfigjffjaaGreatDoorMav
import Derived.Test.YthmokdfigjffjaaGreatDoorMax
import Derived.Test.YthmokdfigjffjaaGreatDoorMar
import Derived.Test.YthmokdfigjffjaaGreatDoorMas
namespace Go.Proofs.YthmokdfigjffjaaGreatDoor
set_option linter.unusedVariables false
set_option linter.unusedSimpArgs false
open Go.RowKit Go.Lib
set_option maxHeartbeats 4000000 in
theorem slab_bad (x : Int) (hx : x < 1 ∨ 256 < x) (w : World) : Calls Tryz.prog 26 #[.int .i64 x] w (Ret1 (.tuple #[.pointer none, .int .i64 2]) w) := by
  go_enter Tryz.func26, Tryz.ntmps26
  by_cases h : x < 1
  · go_wp2_with fail
    go_ret2
    exact ⟨rfl, Fp.refl _ _⟩
  · have h2 : 256 < x := by omega
    go_wp2_with fail
    go_ret2
    exact ⟨rfl, Fp.refl _ _⟩
set_option maxHeartbeats 4000000 in
theorem wheels_bad (x : Int) (hx : x < 1 ∨ 64 < x) (w : World) : Calls Tryz.prog 29 #[.int .i64 x] w (Ret1 (.tuple #[.pointer none, .int .i64 2]) w) := by
  go_enter Tryz.func29, Tryz.ntmps29
  by_cases h : x < 1
  · go_wp2_with fail
    go_ret2
    exact ⟨rfl, Fp.refl _ _⟩
  · have h2 : 64 < x := by omega
    go_wp2_with fail
    go_ret2
    exact ⟨rfl, Fp.refl _ _⟩
set_option maxHeartbeats 4000000 in
theorem epochs_bad (x : Int) (hx : x < 1 ∨ 64 < x) (w : World) : Calls Tryz.prog 28 #[.int .i64 x] w (Ret1 (.tuple #[.pointer none, .int .i64 2]) w) := by
  go_enter Tryz.func28, Tryz.ntmps28
  by_cases h : x < 1
  · go_wp2_with fail
    go_ret2
    exact ⟨rfl, Fp.refl _ _⟩
  · have h2 : 64 < x := by omega
    go_wp2_with fail
    go_ret2
    exact ⟨rfl, Fp.refl _ _⟩
set_option maxHeartbeats 4000000 in
set_option maxRecDepth 100000 in
theorem rules_bad (o ip : Nat) (bits : Int) (ho : o < 4294967296) (hip : ip < 4294967296) (hx : mayB ip bits = false ∨ hasB ip bits o = true) (w : World) : Calls Tryz.prog 25 #[.int .u32 o, .agg #[.int .u32 ip, .int .i64 bits]] w (fun e w' => e = .returned (.tuple #[.pointer none, .int .i64 2]) ∧ NoW w w') := by
  have K1 := Lib.hid (fun W => may_ok ip hip bits W)
  have K2 := Lib.hid (fun W => has_ok ip hip bits o ho W)
  have hh : mayB ip bits = true → hasB ip bits o = true := fun h => hx.elim (fun q => by rw [q] at h; cases h) id
  clear ho hip hx
  go_enter Tryz.func25, Tryz.ntmps25
  go_upto_region 1 with fail
  refine wp_gen (fun x1 hW => ?_)
  have hp := new_now hW
  have hB := new_blk hW
  clear hW
  obtain ⟨g, hg⟩ : ∃ g, g = w.heap.size := ⟨_, rfl⟩
  rw [← hg] at hB ⊢
  have HN := Lib.hid hp
  clear hp hg
  have c0 := cell_at hB 0 rfl
  have c1 := cell_at hB 1 rfl
  have lg := hid_lt hB
  by_cases hm : mayB ip bits = true
  · have hh2 := hh hm
    rw [hm] at K1
    rw [hh2] at K2
    clear hm hh hh2
    go_wp2_with fail
    refine (K1.out _).mono ?_
    rintro e x2 ⟨rfl, hp⟩
    replace HN := hid_now HN hp
    replace hB := hid_blk hB hp
    clear hp c0 c1 lg
    have c0 := cell_at hB 0 rfl
    have c1 := cell_at hB 1 rfl
    have lg := hid_lt hB
    go_wp2_with fail
    refine (K2.out _).mono ?_
    rintro e x3 ⟨rfl, hp⟩
    replace HN := hid_now HN hp
    replace hB := hid_blk hB hp
    clear hp c0 c1 lg
    go_wp2_with fail
    go_ret2
    exact ⟨rfl, HN.out⟩
  · have hm2 : mayB ip bits = false := Bool.eq_false_iff.2 hm
    rw [hm2] at K1
    clear hm hh hm2 K2
    go_wp2_with fail
    refine (K1.out _).mono ?_
    rintro e x2 ⟨rfl, hp⟩
    replace HN := hid_now HN hp
    clear hp c0 c1 lg
    go_wp2_with fail
    go_ret2
    exact ⟨rfl, HN.out⟩
end Go.Proofs.YthmokdfigjffjaaGreatDoor

namespace Go.Proofs.YthmokdfigjffjaaGreatDoor
set_option linter.unusedVariables false
set_option linter.unusedSimpArgs false
open Go.RowKit Go.Lib
def err5 (E : Nat → Int) : Int := if E 0 = 0 ∧ E 1 = 0 ∧ E 2 = 0 ∧ E 3 = 0 ∧ E 4 = 0 then 0 else 2
theorem err5_no {E : Nat → Int} {k : Nat} (hk : k < 5) (h : E k ≠ 0) : err5 E = 2 := by
  unfold err5
  rw [if_neg]
  rintro ⟨h0, h1, h2, h3, h4⟩
  rcases k with _ | _ | _ | _ | _ | k
  · exact h h0
  · exact h h1
  · exact h h2
  · exact h h3
  · exact h h4
  · omega
theorem err5_all {E : Nat → Int} (h : ∀ k, k < 5 → E k = 0) : err5 E = 0 := by
  unfold err5
  rw [if_pos ⟨h 0 (by omega), h 1 (by omega), h 2 (by omega), h 3 (by omega), h 4 (by omega)⟩]
set_option maxHeartbeats 4000000 in
set_option maxRecDepth 100000 in
theorem first_any (E : Nat → Int) (hE : ∀ k, E k = 0 ∨ E k = 2) (g : Nat) (w : World) (B_g : Hid (w.heap[g]? = some (.cells #[.int .i64 (E 0), .int .i64 (E 1), .int .i64 (E 2), .int .i64 (E 3), .int .i64 (E 4)] 51 (0, 0)))) : Calls Tryz.prog 30 #[.slice (some ⟨g, 0, none⟩) 5 5] w (Ret1 (.int .i64 (err5 E)) w) := by
  obtain ⟨res, hr⟩ : ∃ r, r = err5 E := ⟨_, rfl⟩
  rw [← hr]
  have HR := Lib.hid hr
  clear hr
  have HE := Lib.hid hE
  clear hE
  go_enter Tryz.func30, Tryz.ntmps30
  go_wp2_with fail
  go_loopg [7, 4] 6 (fun gg kv ev wx => ∃ (k : Nat), k ≤ 5 ∧ gg = 6 - k ∧ kv = .int .i64 (k : Int) ∧ wx = w ∧ ∀ j, j < k → E j = 0)
  case atStart => exact ⟨0, by omega, by omega, rfl, rfl, fun j hj => by omega⟩
  case round =>
    obtain ⟨k, hk, hg, rfl, hw, hz⟩ := hrel
    subst hw
    have Hg := Lib.hid hg
    have HZ := Lib.hid hz
    clear hg hz
    by_cases hlt : k < 5
    · have ck : (k : Int) < 5 := by omega
      have cg : wr.cell? ⟨g, k, none⟩ = some (.int .i64 (E k)) := cell_at B_g k (by rcases k with _ | _ | _ | _ | _ | k <;> first | rfl | omega)
      have lg := hid_lt B_g
      rcases HE.out k with e0 | e0
      · rw [e0] at cg
        have HK := Lib.hid e0
        clear e0
        go_wp2_with fail
        go_roundg (5 - k)
        case measure => have := Hg.out; omega
        case rel => exact ⟨k + 1, by omega, by omega, by go_num, rfl, fun j hj => (Nat.lt_or_ge j k).elim (fun h => HZ.out j h) (fun h => (show j = k by omega) ▸ HK.out)⟩
      · rw [e0] at cg
        obtain rfl : res = 2 := HR.out.trans (err5_no hlt (by rw [e0]; decide))
        clear e0
        go_wp2_with fail
        go_ret
        exact ⟨rfl, Fp.refl _ _⟩
    · obtain rfl : k = 5 := by omega
      obtain rfl : res = 0 := HR.out.trans (err5_all HZ.out)
      go_wp2_with fail
      go_ret
      exact ⟨rfl, Fp.refl _ _⟩
end Go.Proofs.YthmokdfigjffjaaGreatDoor

namespace Go.Proofs.YthmokdfigjffjaaGreatDoor
set_option linter.unusedVariables false
set_option linter.unusedSimpArgs false
open Go.RowKit Go.Lib
set_option maxHeartbeats 8000000 in
set_option maxRecDepth 100000 in
theorem shared_new_no (o ip : Nat) (bits ns nb nw wh : Int) (E : Nat → Int) (HE : ∀ k, E k = 0 ∨ E k = 2) (h5 : err5 E = 2)
    (K1 : ∀ W, Calls Tryz.prog 25 #[.int .u32 o, .agg #[.int .u32 ip, .int .i64 bits]] W fun e W' => ∃ p, e = .returned (.tuple #[p, .int .i64 (E 0)]) ∧ NoW W W')
    (K2 : ∀ W, Calls Tryz.prog 26 #[.int .i64 ns] W fun e W' => ∃ p, e = .returned (.tuple #[p, .int .i64 (E 1)]) ∧ NoW W W')
    (K3 : ∀ W, Calls Tryz.prog 27 #[.int .i64 nb] W fun e W' => ∃ p, e = .returned (.tuple #[p, .int .i64 (E 2)]) ∧ NoW W W')
    (K4 : ∀ W, Calls Tryz.prog 28 #[.int .i64 nw] W fun e W' => ∃ p, e = .returned (.tuple #[p, .int .i64 (E 3)]) ∧ NoW W W')
    (K5 : ∀ W, Calls Tryz.prog 29 #[.int .i64 wh] W fun e W' => ∃ p, e = .returned (.tuple #[p, .int .i64 (E 4)]) ∧ NoW W W') (w : World) :
    Calls Tryz.prog 4 #[.agg #[.int .u32 o, .int .u32 ip, .int .i64 bits, .int .i64 ns, .int .i64 nb, .int .i64 nw, .int .i64 wh]] w fun e w' => e = .returned (.tuple #[.pointer none, .int .i64 2]) ∧ NoW w w' := by
  replace K1 := Lib.hid K1
  replace K2 := Lib.hid K2
  replace K3 := Lib.hid K3
  replace K4 := Lib.hid K4
  replace K5 := Lib.hid K5
  replace HE := Lib.hid HE
  replace h5 := Lib.hid h5
  go_enter Tryz.func4, Tryz.ntmps4
  have HN := Lib.hid (Fp.refl (fun _ => False) w)
  go_upto_region 1 with fail
  refine wp_gen (fun z1 hW => ?_)
  have hp := new_now hW
  have hB := new_blk hW
  clear hW
  have hGe := hid_ge HN
  replace HN := hid_now HN hp
  obtain ⟨gC, hgC⟩ : ∃ gC, gC = w.heap.size := ⟨_, rfl⟩
  have G_gC := Lib.hid (Nat.le_trans hGe (Nat.le_of_eq hgC.symm))
  rw [← hgC] at hB ⊢
  have B_gC := hB
  clear hB hGe hgC
  clear hp
  have cgC0 := cell_at B_gC 0 rfl
  have cgC1 := cell_at B_gC 1 rfl
  have cgC2 := cell_at B_gC 2 rfl
  have cgC3 := cell_at B_gC 3 rfl
  have cgC4 := cell_at B_gC 4 rfl
  have cgC5 := cell_at B_gC 5 rfl
  have cgC6 := cell_at B_gC 6 rfl
  have zgC := froz_at B_gC
  have lgC := hid_lt B_gC
  go_wp2_with fail
  refine (show Calls _ _ _ _ _ from K1.out _).mono ?_
  rintro e z2 ⟨p1, rfl, hp⟩
  replace HN := hid_now HN hp
  replace B_gC := hid_blk B_gC hp
  clear hp
  clear cgC0 cgC1 cgC2 cgC3 cgC4 cgC5 cgC6 zgC lgC
  have cgC0 := cell_at B_gC 0 rfl
  have cgC1 := cell_at B_gC 1 rfl
  have cgC2 := cell_at B_gC 2 rfl
  have cgC3 := cell_at B_gC 3 rfl
  have cgC4 := cell_at B_gC 4 rfl
  have cgC5 := cell_at B_gC 5 rfl
  have cgC6 := cell_at B_gC 6 rfl
  have zgC := froz_at B_gC
  have lgC := hid_lt B_gC
  go_wp2_with fail
  refine (show Calls _ _ _ _ _ from K2.out _).mono ?_
  rintro e z3 ⟨p2, rfl, hp⟩
  replace HN := hid_now HN hp
  replace B_gC := hid_blk B_gC hp
  clear hp
  clear cgC0 cgC1 cgC2 cgC3 cgC4 cgC5 cgC6 zgC lgC
  have cgC0 := cell_at B_gC 0 rfl
  have cgC1 := cell_at B_gC 1 rfl
  have cgC2 := cell_at B_gC 2 rfl
  have cgC3 := cell_at B_gC 3 rfl
  have cgC4 := cell_at B_gC 4 rfl
  have cgC5 := cell_at B_gC 5 rfl
  have cgC6 := cell_at B_gC 6 rfl
  have zgC := froz_at B_gC
  have lgC := hid_lt B_gC
  go_wp2_with fail
  refine (show Calls _ _ _ _ _ from K3.out _).mono ?_
  rintro e z4 ⟨p3, rfl, hp⟩
  replace HN := hid_now HN hp
  replace B_gC := hid_blk B_gC hp
  clear hp
  clear cgC0 cgC1 cgC2 cgC3 cgC4 cgC5 cgC6 zgC lgC
  have cgC0 := cell_at B_gC 0 rfl
  have cgC1 := cell_at B_gC 1 rfl
  have cgC2 := cell_at B_gC 2 rfl
  have cgC3 := cell_at B_gC 3 rfl
  have cgC4 := cell_at B_gC 4 rfl
  have cgC5 := cell_at B_gC 5 rfl
  have cgC6 := cell_at B_gC 6 rfl
  have zgC := froz_at B_gC
  have lgC := hid_lt B_gC
  go_wp2_with fail
  refine (show Calls _ _ _ _ _ from K4.out _).mono ?_
  rintro e z5 ⟨p4, rfl, hp⟩
  replace HN := hid_now HN hp
  replace B_gC := hid_blk B_gC hp
  clear hp
  clear cgC0 cgC1 cgC2 cgC3 cgC4 cgC5 cgC6 zgC lgC
  have cgC0 := cell_at B_gC 0 rfl
  have cgC1 := cell_at B_gC 1 rfl
  have cgC2 := cell_at B_gC 2 rfl
  have cgC3 := cell_at B_gC 3 rfl
  have cgC4 := cell_at B_gC 4 rfl
  have cgC5 := cell_at B_gC 5 rfl
  have cgC6 := cell_at B_gC 6 rfl
  have zgC := froz_at B_gC
  have lgC := hid_lt B_gC
  go_wp2_with fail
  refine (show Calls _ _ _ _ _ from K5.out _).mono ?_
  rintro e z6 ⟨p5, rfl, hp⟩
  replace HN := hid_now HN hp
  replace B_gC := hid_blk B_gC hp
  clear hp
  clear cgC0 cgC1 cgC2 cgC3 cgC4 cgC5 cgC6 zgC lgC
  have cgC0 := cell_at B_gC 0 rfl
  have cgC1 := cell_at B_gC 1 rfl
  have cgC2 := cell_at B_gC 2 rfl
  have cgC3 := cell_at B_gC 3 rfl
  have cgC4 := cell_at B_gC 4 rfl
  have cgC5 := cell_at B_gC 5 rfl
  have cgC6 := cell_at B_gC 6 rfl
  have zgC := froz_at B_gC
  have lgC := hid_lt B_gC
  go_wp2_with fail
  refine calls_gen (fun z7 hW => ?_)
  have l2gC := hid_lt B_gC
  have hp := new_now hW
  have hB := new_blk hW
  clear hW
  have hGe := hid_ge HN
  replace HN := hid_now HN hp
  replace B_gC := hid_blk B_gC hp
  obtain ⟨gF, hgF⟩ : ∃ gF, gF = z6.heap.size := ⟨_, rfl⟩
  have G_gF := Lib.hid (Nat.le_trans hGe (Nat.le_of_eq hgF.symm))
  have n_gC_gF : ¬ gC = gF := by omega
  have n_gF_gC : ¬ gF = gC := by omega
  clear l2gC
  rw [← hgF] at hB ⊢
  have B_gF := hB
  clear hB hGe hgF
  clear hp
  refine (show Calls _ _ _ _ _ from first_any E HE.out gF _ B_gF).mono ?_
  rintro e z8 ⟨rfl, hp⟩
  replace HN := hid_now HN hp
  replace B_gC := hid_blk B_gC hp
  replace B_gF := hid_blk B_gF hp
  clear hp
  clear cgC0 cgC1 cgC2 cgC3 cgC4 cgC5 cgC6 zgC lgC
  clear B_gF
  have cgC0 := cell_at B_gC 0 rfl
  have cgC1 := cell_at B_gC 1 rfl
  have cgC2 := cell_at B_gC 2 rfl
  have cgC3 := cell_at B_gC 3 rfl
  have cgC4 := cell_at B_gC 4 rfl
  have cgC5 := cell_at B_gC 5 rfl
  have cgC6 := cell_at B_gC 6 rfl
  have zgC := froz_at B_gC
  have lgC := hid_lt B_gC
  rw [h5.out]
  go_wp2_with fail
  go_ret2
  exact ⟨rfl, HN.out⟩
end Go.Proofs.YthmokdfigjffjaaGreatDoor

namespace Go.Proofs.YthmokdfigjffjaaGreatDoor
set_option linter.unusedVariables false
set_option linter.unusedSimpArgs false
open Go.RowKit Go.Lib
/-- What each part says of a configuration. -/
def cfgE (o ip : Nat) (bits ns nb nw wh : Int) : Nat → Int
  | 0 => if mayB ip bits = true ∧ hasB ip bits o = false then 0 else 2
  | 1 => if 1 ≤ ns ∧ ns ≤ 256 then 0 else 2
  | 2 => if 1 ≤ nb ∧ nb ≤ 64 then 0 else 2
  | 3 => if 1 ≤ nw ∧ nw ≤ 64 then 0 else 2
  | _ => if 1 ≤ wh ∧ wh ≤ 64 then 0 else 2
theorem cfgE_two (o ip : Nat) (bits ns nb nw wh : Int) (k : Nat) : cfgE o ip bits ns nb nw wh k = 0 ∨ cfgE o ip bits ns nb nw wh k = 2 := by
  unfold cfgE
  repeat' split
  all_goals simp
theorem cfg_calls {F : FuncId} {a : Array Value} {e : Int} (c : Prop) [Decidable c]
    (h1 : c → ∀ W, Calls Tryz.prog F a W fun x W' => ∃ p, x = .returned (.tuple #[p, .int .i64 0]) ∧ NoW W W')
    (h2 : ¬ c → ∀ W, Calls Tryz.prog F a W fun x W' => ∃ p, x = .returned (.tuple #[p, .int .i64 2]) ∧ NoW W W') (he : e = if c then 0 else 2) :
    ∀ W, Calls Tryz.prog F a W fun x W' => ∃ p, x = .returned (.tuple #[p, .int .i64 e]) ∧ NoW W W' := by
  subst he
  by_cases h : c
  · rw [if_pos h]; exact h1 h
  · rw [if_neg h]; exact h2 h
theorem shared_new_bad (o ip : Nat) (bits ns nb nw wh : Int) (ho : o < 4294967296) (hip : ip < 4294967296) (h5 : err5 (cfgE o ip bits ns nb nw wh) = 2) (w : World) :
    Calls Tryz.prog 4 #[.agg #[.int .u32 o, .int .u32 ip, .int .i64 bits, .int .i64 ns, .int .i64 nb, .int .i64 nw, .int .i64 wh]] w fun e w' => e = .returned (.tuple #[.pointer none, .int .i64 2]) ∧ NoW w w' := by
  refine shared_new_no o ip bits ns nb nw wh _ (cfgE_two o ip bits ns nb nw wh) h5
    (cfg_calls (mayB ip bits = true ∧ hasB ip bits o = false) (fun h W => (rules_new o ip bits ho hip h.1 h.2 W).mono ?_) (fun h W => (rules_bad o ip bits ho hip ?_ W).mono ?_) rfl)
    (cfg_calls (1 ≤ ns ∧ ns ≤ 256) (fun h W => ?_) (fun h W => (slab_bad ns (by omega) W).mono ?_) rfl)
    (cfg_calls (1 ≤ nb ∧ nb ≤ 64) (fun h W => ?_) (fun h W => (new_bad nb (by omega) W).mono ?_) rfl)
    (cfg_calls (1 ≤ nw ∧ nw ≤ 64) (fun h W => ?_) (fun h W => (epochs_bad nw (by omega) W).mono ?_) rfl)
    (cfg_calls (1 ≤ wh ∧ wh ≤ 64) (fun h W => ?_) (fun h W => (wheels_bad wh (by omega) W).mono ?_) rfl) w
  · rintro e w' ⟨g, rfl, _, _, hp⟩; exact ⟨_, rfl, hp⟩
  · rcases hm : mayB ip bits with _ | _
    · exact Or.inl rfl
    · rcases hh : hasB ip bits o with _ | _
      · exact (h ⟨hm, hh⟩).elim
      · exact Or.inr rfl
  · rintro e w' ⟨rfl, hp⟩; exact ⟨_, rfl, hp⟩
  · obtain ⟨n, rfl⟩ : ∃ n : Nat, ns = n := ⟨ns.toNat, by omega⟩
    refine (slab_new n (by omega) (by omega) W).mono ?_
    rintro e w' ⟨g, rfl, _, _, hp⟩; exact ⟨_, rfl, hp⟩
  · rintro e w' ⟨rfl, hp⟩; exact ⟨_, rfl, hp⟩
  · obtain ⟨n, rfl⟩ : ∃ n : Nat, nb = n := ⟨nb.toNat, by omega⟩
    refine (new_ok n (by omega) (by omega) W).mono ?_
    rintro e w' ⟨bc, bf, bm, rfl, _, _, _, _, hp⟩; exact ⟨_, rfl, hp⟩
  · rintro e w' ⟨rfl, rfl⟩; exact ⟨_, rfl, Fp.refl _ _⟩
  · obtain ⟨n, rfl⟩ : ∃ n : Nat, nw = n := ⟨nw.toNat, by omega⟩
    refine (epochs_new n (by omega) (by omega) W).mono ?_
    rintro e w' ⟨g, g2, rfl, _, _, _, _, hp⟩; exact ⟨_, rfl, hp⟩
  · rintro e w' ⟨rfl, hp⟩; exact ⟨_, rfl, hp⟩
  · obtain ⟨n, rfl⟩ : ∃ n : Nat, wh = n := ⟨wh.toNat, by omega⟩
    refine (wheels_new n (by omega) (by omega) W).mono ?_
    rintro e w' ⟨g, gp, gm, rfl, _, _, _, _, _, _, hp⟩; exact ⟨_, rfl, hp⟩
  · rintro e w' ⟨rfl, hp⟩; exact ⟨_, rfl, hp⟩
end Go.Proofs.YthmokdfigjffjaaGreatDoor

namespace Go.Proofs.YthmokdfigjffjaaGreatDoor
set_option linter.unusedVariables false
set_option linter.unusedSimpArgs false
open Go.RowKit Go.Lib
def eCfg (o ip : Nat) (bits ns nb nw wh : Int) : Int := if eTb o ip bits = 0 ∧ (1 ≤ ns ∧ ns ≤ 256) ∧ (1 ≤ nb ∧ nb ≤ 64) ∧ (1 ≤ nw ∧ nw ≤ 64) ∧ (1 ≤ wh ∧ wh ≤ 64) then 0 else 2
theorem eTb_two (o ip : Nat) (bits : Int) (h : eTb o ip bits ≠ 0) : eTb o ip bits = 2 := by
  unfold eTb at *; split at h
  · exact absurd rfl h
  · rename_i q; rw [if_neg q]
theorem pe_call {σ : Hs} {f : FuncId} {az : List SV} {W : Wk} {K : SV → Hs → Prop} {E : Int} (h : ∀ w, Calls Tryz.prog f (az.map SV.den).toArray w (PE E w)) (k : ∀ p : Option Addr, K (.t [.c (.v (.pointer p)), .c (.i .i64 E)]) σ) : CallN Tryz.prog f az W σ K :=
  callX (C := fun v => ∃ p : Option Addr, v = .t [.c (.v (.pointer p)), .c (.i .i64 E)]) (fun w _ => (h w).mono fun e w' ⟨p, he, hp⟩ => ⟨.t [.c (.v (.pointer p)), .c (.i .i64 E)], he, (fun x hx => by
    simp only [List.mem_cons, List.not_mem_nil, or_false] at hx
    rcases hx with rfl | rfl
    · rfl
    · trivial), ⟨p, rfl⟩, hp⟩) fun v ⟨p, hv⟩ => hv ▸ k p
theorem r22_bad (o ip : Nat) (bits ns nb nw wh : Int) (ho : o < 4294967296) (hip : ip < 4294967296) (h : ¬ (eTb o ip bits = 0 ∧ (1 ≤ ns ∧ ns ≤ 256) ∧ (1 ≤ nb ∧ nb ≤ 64) ∧ (1 ≤ nw ∧ nw ≤ 64) ∧ (1 ≤ wh ∧ wh ≤ 64))) (w : World) :
    Calls Tryz.prog 5 #[.agg #[.int .u32 o, .int .u32 ip, .int .i64 bits, .int .i64 ns, .int .i64 nb, .int .i64 nw, .int .i64 wh]] w (Ret1 (.tuple #[.pointer none, .int .i64 2]) w) := by
  refine enterS cx Tryz.func5 rfl rfl rfl [.e (.a [.i .u32 o, .i .u32 ip, .i .i64 bits, .i .i64 ns, .i .i64 nb, .i .i64 nw, .i .i64 wh])] _ (st0 w) (okc (by simp [SV.ok, EV.ok, CV.ok]) okn) rfl ?_
  intro b hb
  have hn := fun cs T => newb (u := 0) (cs := cs) (T := T) hb New.nil
  refine pe_call (fun w1 => r11_new o ip bits ho hip w1) fun p1 => ?_
  by_cases h1 : eTb o ip bits = 0
  case neg => rw [eTb_two _ _ _ h1]; exact Br.yes rfl (finw (hn _ _) rfl)
  rw [h1]
  refine Br.no rfl ?_
  refine pe_call (fun w1 => r13_new ns w1) fun p2 => ?_
  by_cases h2 : 1 ≤ ns ∧ ns ≤ 256
  case neg => rw [eIn, if_neg h2]; exact Br.yes rfl (finw (hn _ _) rfl)
  rw [eIn, if_pos h2]
  refine Br.no rfl ?_
  refine pe_call (fun w1 => r19_new nb w1) fun p3 => ?_
  by_cases h3 : 1 ≤ nb ∧ nb ≤ 64
  case neg => rw [eIn, if_neg h3]; exact Br.yes rfl (finw (hn _ _) rfl)
  rw [eIn, if_pos h3]
  refine Br.no rfl ?_
  refine pe_call (fun w1 => r14_new nw w1) fun p4 => ?_
  by_cases h4 : 1 ≤ nw ∧ nw ≤ 64
  case neg => rw [eIn, if_neg h4]; exact Br.yes rfl (finw (hn _ _) rfl)
  rw [eIn, if_pos h4]
  refine Br.no rfl ?_
  refine pe_call (fun w1 => r15_new wh w1) fun p5 => ?_
  by_cases h5 : 1 ≤ wh ∧ wh ≤ 64
  case neg => rw [eIn, if_neg h5]; exact Br.yes rfl (finw (hn _ _) rfl)
  exact absurd ⟨h1, h2, h3, h4, h5⟩ h
theorem rf_good (o ip : Nat) (bits ns nb nw wh : Int) (ho : o < 4294967296) (hip : ip < 4294967296) (h : eCfg o ip bits ns nb nw wh = 0) (w : World) :
    Calls Tryz.prog 5 #[.agg #[.int .u32 o, .int .u32 ip, .int .i64 bits, .int .i64 ns, .int .i64 nb, .int .i64 nw, .int .i64 wh]] w fun e w' => ∃ g, e = .returned (.tuple #[.pointer (some ⟨g, 0, none⟩), .int .i64 0]) ∧ NoW w w' := by
  unfold eCfg at h
  split at h
  · rename_i q
    obtain ⟨h1, h2, h3, h4, h5⟩ := q
    obtain ⟨a, rfl⟩ := Int.eq_ofNat_of_zero_le (show 0 ≤ ns by omega)
    obtain ⟨b, rfl⟩ := Int.eq_ofNat_of_zero_le (show 0 ≤ nb by omega)
    obtain ⟨c, rfl⟩ := Int.eq_ofNat_of_zero_le (show 0 ≤ nw by omega)
    exact r22_good o ip bits wh a b c h1 (by omega) (by omega) (by omega) h5 ho hip w
  · cases h
theorem rf_bad (o ip : Nat) (bits ns nb nw wh : Int) (ho : o < 4294967296) (hip : ip < 4294967296) (h : eCfg o ip bits ns nb nw wh ≠ 0) (w : World) :
    Calls Tryz.prog 5 #[.agg #[.int .u32 o, .int .u32 ip, .int .i64 bits, .int .i64 ns, .int .i64 nb, .int .i64 nw, .int .i64 wh]] w (Ret1 (.tuple #[.pointer none, .int .i64 2]) w) := by
  refine r22_bad o ip bits ns nb nw wh ho hip (fun q => h ?_) w
  unfold eCfg; rw [if_pos q]
theorem sh_good (o ip : Nat) (bits ns nb nw wh : Int) (ho : o < 4294967296) (hip : ip < 4294967296) (h : eCfg o ip bits ns nb nw wh = 0) (w : World) :
    Calls Tryz.prog 4 #[.agg #[.int .u32 o, .int .u32 ip, .int .i64 bits, .int .i64 ns, .int .i64 nb, .int .i64 nw, .int .i64 wh]] w fun e w' => ∃ g, e = .returned (.tuple #[.pointer (some ⟨g, 0, none⟩), .int .i64 0]) ∧ NoW w w' := by
  unfold eCfg at h
  split at h
  · rename_i q
    obtain ⟨h1, h2, h3, h4, h5⟩ := q
    obtain ⟨a, rfl⟩ := Int.eq_ofNat_of_zero_le (show 0 ≤ ns by omega)
    obtain ⟨b, rfl⟩ := Int.eq_ofNat_of_zero_le (show 0 ≤ nb by omega)
    obtain ⟨c, rfl⟩ := Int.eq_ofNat_of_zero_le (show 0 ≤ nw by omega)
    obtain ⟨d, rfl⟩ := Int.eq_ofNat_of_zero_le (show 0 ≤ wh by omega)
    have hm : mayB ip bits = true ∧ hasB ip bits o = false := by
      unfold eTb at h1; split at h1
      · assumption
      · cases h1
    refine (shared_new o ip bits a b c d ho hip hm.1 hm.2 (by omega) (by omega) (by omega) (by omega) (by omega) (by omega) (by omega) (by omega) w).mono ?_
    rintro e w' ⟨g, _, _, _, _, _, _, _, _, _, _, _, rfl, _, _, _, _, _, _, _, hp⟩
    exact ⟨g, rfl, hp⟩
  · cases h
theorem sh_bad (o ip : Nat) (bits ns nb nw wh : Int) (ho : o < 4294967296) (hip : ip < 4294967296) (h : eCfg o ip bits ns nb nw wh ≠ 0) (w : World) :
    Calls Tryz.prog 4 #[.agg #[.int .u32 o, .int .u32 ip, .int .i64 bits, .int .i64 ns, .int .i64 nb, .int .i64 nw, .int .i64 wh]] w fun e w' => e = .returned (.tuple #[.pointer none, .int .i64 2]) ∧ NoW w w' := by
  refine shared_new_bad o ip bits ns nb nw wh ho hip ?_ w
  by_cases q : cfgE o ip bits ns nb nw wh 0 = 0 ∧ cfgE o ip bits ns nb nw wh 1 = 0 ∧ cfgE o ip bits ns nb nw wh 2 = 0 ∧ cfgE o ip bits ns nb nw wh 3 = 0 ∧ cfgE o ip bits ns nb nw wh 4 = 0
  · refine absurd ?_ h
    obtain ⟨q0, q1, q2, q3, q4⟩ := q
    simp only [cfgE] at q0 q1 q2 q3 q4
    have g : ∀ (c : Prop) [Decidable c], (if c then (0 : Int) else 2) = 0 → c := fun c _ q => by
      by_cases hc : c
      · exact hc
      · rw [if_neg hc] at q; cases q
    unfold eCfg
    rw [if_pos ⟨q0, g _ q1, g _ q2, g _ q3, g _ q4⟩]
  · exact if_neg q
theorem eCfg_two (o ip : Nat) (bits ns nb nw wh : Int) : eCfg o ip bits ns nb nw wh = 0 ∨ eCfg o ip bits ns nb nw wh = 2 := by
  unfold eCfg; split <;> simp
end Go.Proofs.YthmokdfigjffjaaGreatDoor

namespace Go.Proofs.YthmokdfigjffjaaGreatDoor
set_option linter.unusedVariables false
set_option linter.unusedSimpArgs false
open Go.RowKit Go.Lib Go.Sort
theorem set5 (w : World) (g : Nat) (T : TypeId) (z0 z1 z2 z3 z4 : Value) (h : w.heap[g]? = some (.cells #[z0, z1, z2, z3, z4] T (0, 0))) (x0 x1 x2 x3 x4 : Value) :
    ∃ W, W = (((((w.setCell ⟨g, 0, none⟩ x0).setCell ⟨g, 1, none⟩ x1).setCell ⟨g, 2, none⟩ x2).setCell ⟨g, 3, none⟩ x3).setCell ⟨g, 4, none⟩ x4) ∧ W.heap[g]? = some (.cells #[x0, x1, x2, x3, x4] T (0, 0)) ∧ Fp (fun k => k = g) w W := by
  refine ⟨_, rfl, ?_, ?_⟩
  · have h0 := heap_set w g 0 _ T x0 h
    have h1 := heap_set _ g 1 _ T x1 h0
    have h2 := heap_set _ g 2 _ T x2 h1
    have h3 := heap_set _ g 3 _ T x3 h2
    have h4 := heap_set _ g 4 _ T x4 h3
    rw [h4]; simp
  · exact ((((((Fp.refl (fun k => k = g) w).setCell (p := ⟨g, 0, none⟩) (Or.inr rfl) x0).setCell (p := ⟨g, 1, none⟩) (Or.inr rfl) x1).setCell (p := ⟨g, 2, none⟩) (Or.inr rfl) x2).setCell (p := ⟨g, 3, none⟩) (Or.inr rfl) x3).setCell (p := ⟨g, 4, none⟩) (Or.inr rfl) x4)

theorem heap_set_other (w : World) (g b i : Nat) (v : Value) (hne : g ≠ b) : (w.setCell ⟨g, i, none⟩ v).heap[b]? = w.heap[b]? := by
  by_cases hb : b < w.heap.size
  · exact ((Fp.refl (fun k => k = g) w).setCell (p := ⟨g, i, none⟩) (Or.inr rfl) v).block b hb (fun e => hne e.symm)
  · rw [Array.getElem?_eq_none (by simp [World.setCell] at *; omega), Array.getElem?_eq_none (by omega)]
end Go.Proofs.YthmokdfigjffjaaGreatDoor

namespace Go.Proofs.YthmokdfigjffjaaGreatDoor
set_option linter.unusedVariables false
set_option linter.unusedSimpArgs false
open Go.RowKit Go.Lib Go.Sort

theorem bytes2 (w : World) {a b : Nat} (ha : a < 256) (hb : b < 256) : (convert 355 9 (.slice (some ⟨w.heap.size, 0, none⟩) 2 2)).run Tryz.prog (w.alloc (.cells #[.int .u8 (a : Nat), .int .u8 (b : Nat)] 5)) = .ok (str [UInt8.ofNat a, UInt8.ofNat b]) (w.alloc (.cells #[.int .u8 (a : Nat), .int .u8 (b : Nat)] 5)) := by
  have e0 : (UInt8.ofNat a).toNat = a := by rw [UInt8.toNat_ofNat']; omega
  have e1 : (UInt8.ofNat b).toNat = b := by rw [UInt8.toNat_ofNat']; omega
  have h := run_convert_bytes_back (P := Tryz.prog) (w.alloc (.cells #[.int .u8 (a : Nat), .int .u8 (b : Nat)] 5)) 355 9 5 ⟨w.heap.size, 0, none⟩ 2 [UInt8.ofNat a, UInt8.ofNat b] Tryz.underlying355 Tryz.underlying5 Tryz.underlying9 (fun j hj => by
    have : j = 0 ∨ j = 1 := by simp at hj; omega
    rcases this with rfl | rfl
    · rw [add_eq, World.cell?_alloc_new]; simp [e0]
    · rw [add_eq, World.cell?_alloc_new]; simp [e1])
  exact h
theorem r01_put16 (n : Nat) (hn : n < 65536) (w : World) : Calls Tryz.prog 165 #[.int .u16 n] w (Ret1 (str (b16 n)) w) := by
  have c0 : (n : Int).tdiv 256 = ((n / 256 : Nat) : Int) := by rw [Int.tdiv_eq_ediv_of_nonneg (by omega)]; omega
  have c1 : (n : Int).tmod 256 = ((n % 256 : Nat) : Int) := by rw [Int.tmod_eq_emod_of_nonneg (by omega)]; omega
  have hb := fun W => bytes2 W (a := n / 256) (b := n % 256) (by omega) (by omega)
  have e : b16 n = [UInt8.ofNat (n / 256), UInt8.ofNat (n % 256)] := rfl
  rw [e]
  obtain ⟨a, ha⟩ : ∃ a, a = n / 256 := ⟨_, rfl⟩
  obtain ⟨b, hbb⟩ : ∃ b, b = n % 256 := ⟨_, rfl⟩
  rw [← ha, ← hbb] at hb ⊢
  rw [← ha] at c0
  rw [← hbb] at c1
  have c2 : IntKind.u8.wrap (a : Int) = (a : Int) := IntWalk.u8_in _ (by omega)
  have c3 : IntKind.u8.wrap (b : Int) = (b : Int) := IntWalk.u8_in _ (by omega)
  have c4 : IntKind.u16.wrap (a : Int) = (a : Int) := IntWalk.u16_in _ (by omega)
  have d0 : (n : Int) / 256 = (a : Int) := by omega
  have d1 : (n : Int) % 256 = (b : Int) := by omega
  clear ha hbb e
  go_enter Tryz.func165, Tryz.ntmps165
  go_wp2_with fail
  go_ret
  exact ⟨rfl, (Fp.refl _ _).alloc _⟩
theorem r01_put32 (n : Nat) (hn : n < 4294967296) (w : World) : Calls Tryz.prog 226 #[.int .u32 n] w (Ret1 (str (b32 n)) w) := by
  have c0 : (n : Int).tdiv 65536 = ((n / 65536 : Nat) : Int) := by rw [Int.tdiv_eq_ediv_of_nonneg (by omega)]; omega
  have c1 : (n : Int).tmod 65536 = ((n % 65536 : Nat) : Int) := by rw [Int.tmod_eq_emod_of_nonneg (by omega)]; omega
  have e : b32 n = b16 (n / 65536) ++ b16 (n % 65536) := rfl
  rw [e]
  obtain ⟨a, ha⟩ : ∃ a, a = n / 65536 := ⟨_, rfl⟩
  obtain ⟨b, hbb⟩ : ∃ b, b = n % 65536 := ⟨_, rfl⟩
  rw [← ha, ← hbb]
  rw [← ha] at c0
  rw [← hbb] at c1
  have K0 := Lib.hid (fun W => r01_put16 a (by omega) W)
  have K1 := Lib.hid (fun W => r01_put16 b (by omega) W)
  have c2 : IntKind.u16.wrap (a : Int) = (a : Int) := IntWalk.u16_in _ (by omega)
  have c3 : IntKind.u16.wrap (b : Int) = (b : Int) := IntWalk.u16_in _ (by omega)
  have c4 : IntKind.u32.wrap (a : Int) = (a : Int) := IntWalk.u32_in _ (by omega)
  have d0 : (n : Int) / 65536 = (a : Int) := by omega
  have d1 : (n : Int) % 65536 = (b : Int) := by omega
  have s := fun W => run_string_add_lists (P := Tryz.prog) W (b16 a) (b16 b) (by simp [b16_len]) (by simp [b16_len])
  have l0 : (b16 a).length = 2 := rfl
  have l1 : (b16 b).length = 2 := rfl
  clear ha hbb e
  generalize b16 a = x at *
  generalize b16 b = y at *
  go_enter Tryz.func226, Tryz.ntmps226
  go_wp2_with fail
  refine (K0.out _).mono ?_
  rintro e w1 ⟨rfl, hp⟩
  go_wp2_with fail
  refine (K1.out _).mono ?_
  rintro e w2 ⟨rfl, hp2⟩
  go_wp2_with fail
  go_ret
  exact ⟨rfl, hp.trans hp2 (fun _ _ h => h)⟩
set_option maxHeartbeats 1000000 in
theorem r01_word (g c : Nat) (ws : List Nat) (hw : ∀ x, x ∈ ws → x < 65536) (hl : ws.length ≤ 100) (w : World) (hc : ∀ j x, ws[j]? = some x → w.cell? ⟨g, j, none⟩ = some (.int .u16 (x : Nat))) (hg : g < w.heap.size) :
    Calls Tryz.prog 225 #[.slice (some ⟨g, 0, none⟩) ws.length c] w (Ret1 (str (wordsB ws)) w) := by
  have HC := Lib.hid hc
  have HW := Lib.hid hw
  clear hc hw
  obtain ⟨n, hn⟩ : ∃ n, n = ws.length := ⟨_, rfl⟩
  have Hn := Lib.hid hn
  rw [← hn] at hl ⊢
  clear hn
  go_enter Tryz.func225, Tryz.ntmps225
  go_wp2_with fail
  go_loopw [3, 4] (fun s i wr => ∃ k : Nat, k ≤ n ∧ s = str (wordsB (ws.take k)) ∧ i = .int .i64 (k : Int) ∧ NoW w wr) (fun _ i _ => n - (RowKit.intOf i).toNat)
  case atStart => exact ⟨0, Nat.zero_le _, by simp [wordsB], rfl, Fp.refl _ _⟩
  case round =>
    obtain ⟨k, hk, rfl, rfl, hf⟩ := hrel
    by_cases hlt : k < n
    · have hkl : k < ws.length := by rw [← Hn.out]; exact hlt
      have hx : ws[k]? = some ws[k] := List.getElem?_eq_getElem hkl
      have hcell := (hf.cell (p := ⟨g, k, none⟩) hg id).trans (HC.out k _ hx)
      have hgr : g < wr.heap.size := Nat.lt_of_lt_of_le hg hf.size
      have hsn := wordsB_snoc ws k hkl
      have hb := HW.out _ (List.getElem_mem hkl)
      have l0 : (wordsB (ws.take k)).length ≤ 200 := by rw [wordsB_len, List.length_take]; omega
      have s := fun W => run_string_add_lists (P := Tryz.prog) W (wordsB (ws.take k)) (b16 ws[k]) (by omega) (by simp [b16_len])
      have K := Lib.hid (fun W => r01_put16 ws[k] hb W)
      rw [← hsn] at s
      have hkn : (k : Int) < (n : Int) := by omega
      have hsl : (wordsB (ws.take (k + 1))).length ≤ 202 := by rw [wordsB_len, List.length_take]; omega
      obtain ⟨y, hy⟩ : ∃ y, y = wordsB (ws.take (k + 1)) := ⟨_, rfl⟩
      rw [← hy] at s hsl
      have Hy := Lib.hid hy
      clear hx hsn hy
      generalize wordsB (ws.take k) = x at *
      generalize ws[k] = v at *
      go_wp2_with fail
      refine (K.out _).mono ?_
      rintro e w2 ⟨rfl, hp⟩
      go_wp2_with fail
      go_roundw
      case rel => exact ⟨k + 1, by omega, by rw [Hy.out], by go_num, hf.trans hp (fun _ _ h => h)⟩
      case measure => simp [RowKit.intOf]; omega
    · obtain rfl : k = n := by omega
      have he : wordsB (ws.take k) = wordsB ws := by rw [Hn.out, List.take_length]
      rw [he]
      clear he
      go_wp2_with fail
      go_ret
      exact ⟨rfl, hf⟩
theorem r02_add (a b : Nat) (ha : a < 65536) (hb : b < 65536) (w : World) : Calls Tryz.prog 223 #[.int .u16 a, .int .u16 b] w fun e w' => e = .returned (.int .u16 (addC a b : Nat)) ∧ w' = w := by
  have c0 : IntKind.u32.wrap (a : Int) = (a : Int) := IntWalk.u32_in _ (by omega)
  have c1 : IntKind.u32.wrap (b : Int) = (b : Int) := IntWalk.u32_in _ (by omega)
  obtain ⟨n, hn⟩ : ∃ n, n = a + b := ⟨_, rfl⟩
  have c2 : IntKind.u32.wrap ((a : Int) + (b : Int)) = (n : Int) := (IntWalk.u32_in _ (by omega)).trans (by omega)
  by_cases h : 65535 < n
  · have c3 : IntKind.u32.wrap ((n : Int) - 65535) = ((n - 65535 : Nat) : Int) := (IntWalk.u32_in _ (by omega)).trans (by omega)
    have hr : addC a b = n - 65535 := by unfold addC; rw [if_pos (by omega)]; omega
    rw [hr]
    obtain ⟨m, hm⟩ : ∃ m, m = n - 65535 := ⟨_, rfl⟩
    rw [← hm] at c3 ⊢
    have c4 : IntKind.u16.wrap (m : Int) = (m : Int) := IntWalk.u16_in _ (by omega)
    have g : (65535 : Int) < (n : Int) := by omega
    clear hm hr hn
    go_enter Tryz.func223, Tryz.ntmps223
    go_wp2_with fail
    go_ret
    exact ⟨rfl, rfl⟩
  · have hr : addC a b = n := by unfold addC; rw [if_neg (by omega)]; omega
    rw [hr]
    have c4 : IntKind.u16.wrap (n : Int) = (n : Int) := IntWalk.u16_in _ (by omega)
    have g : (n : Int) ≤ 65535 := by omega
    have g2 : n ≤ 65535 := by omega
    clear hr hn
    go_enter Tryz.func223, Tryz.ntmps223
    go_wp2_with fail
    go_ret
    exact ⟨rfl, rfl⟩
theorem r01_there (l : List UInt8) (i m : Nat) (hl : l.length ≤ 1000000) (hi : i ≤ 1000000) (hm : m ≤ 1000000) (w : World) :
    Calls Tryz.prog 295 #[str l, .int .i64 i, .int .i64 m] w fun e w' => e = .returned (.bool (decide (i + m ≤ l.length))) ∧ w' = w := by
  have wr : IntKind.i64.wrap ((l.length : Int) - (m : Int)) = (l.length : Int) - (m : Int) := IntWalk.i64_in _ (by omega)
  go_enter Tryz.func295, Tryz.ntmps295
  go_wp2_with fail
  all_goals go_ret
  all_goals exact ⟨ret_b (by simp; try omega), rfl⟩

/-- The number of so many bytes at a place. -/
def valN (l : List UInt8) (i : Nat) : Nat → Nat
  | 0 => 0
  | k + 1 => valN l i k * 256 + byt l (i + k)
theorem valN_lt (l : List UInt8) (i : Nat) : ∀ k, valN l i k < 256 ^ k
  | 0 => by simp [valN]
  | k + 1 => by have := valN_lt l i k; have := byt_lt l (i + k); rw [valN, Nat.pow_succ]; omega
theorem valN2 {l : List UInt8} {i : Nat} (h : i + 2 ≤ l.length) : valN l i 2 = g16 l i := by rw [g16, if_pos h]; simp [valN]
set_option maxHeartbeats 1000000 in
theorem r01_get (l : List UInt8) (i m : Nat) (hl : l.length ≤ 1000000) (hi : i ≤ 800000) (hm : m ≤ 4) (w : World) :
    Calls Tryz.prog 289 #[str l, .int .i64 i, .int .i64 m] w fun e w' => e = .returned (.tuple #[.int .u32 (if i + m ≤ l.length then valN l i m else 0 : Nat), .bool (decide (i + m ≤ l.length))]) ∧ w' = w := by
  have K := r01_there l i m hl (by omega) (by omega) w
  by_cases h : i + m ≤ l.length
  · rw [decide_eq_true h] at K ⊢
    rw [if_pos h]
    go_enter Tryz.func289, Tryz.ntmps289
    go_wp2_with fail
    refine K.mono ?_
    rintro e w' ⟨rfl, rfl⟩
    clear K
    go_wp2_with fail
    go_loop [8, 9] (fun v j => ∃ k : Nat, k ≤ m ∧ v = .int .u32 (valN l i k : Nat) ∧ j = .int .i64 (k : Int)) (fun _ j => m - (RowKit.intOf j).toNat)
    case atStart => exact ⟨0, Nat.zero_le _, rfl, rfl⟩
    case round =>
      obtain ⟨k, hk, rfl, rfl⟩ := hrel
      by_cases hlt : k < m
      · have x0 := run_byte l (i := i + k) (z := (i : Int) + (k : Int)) (by omega) (by omega)
        have wr : IntKind.i64.wrap ((i : Int) + (k : Int)) = (i : Int) + (k : Int) := IntWalk.i64_in _ (by omega)
        have b0 := byt_lt l (i + k)
        have b1 := valN_lt l i k
        have b2 : 256 ^ k ≤ 256 ^ 3 := Nat.pow_le_pow_right (by omega) (by omega)
        have hs : valN l i (k + 1) = valN l i k * 256 + byt l (i + k) := rfl
        have b3 : valN l i k < 16777216 := by omega
        have Hs := Lib.hid hs
        clear hs b1 b2
        generalize valN l i k = v at *
        generalize byt l (i + k) = b at *
        have c0 : IntKind.u32.wrap ((v : Int) * 256) = (v : Int) * 256 := IntWalk.u32_in _ (by omega)
        have c1 : IntKind.u32.wrap (b : Int) = (b : Int) := IntWalk.u32_in _ (by omega)
        have c2 : IntKind.u32.wrap ((v : Int) * 256 + (b : Int)) = (v : Int) * 256 + (b : Int) := IntWalk.u32_in _ (by omega)
        have hkm : (k : Int) < (m : Int) := by omega
        go_wp2_with fail
        go_round
        case rel => exact ⟨k + 1, by omega, by rw [Hs.out]; go_num, by go_num⟩
        case measure => simp [RowKit.intOf]; omega
      · obtain rfl : k = m := by omega
        go_wp2_with fail
        refine bodyPost_ret (v := .tuple #[.int .u32 (valN l i k : Nat), .bool true]) (by simp [results, Tryz.results289, go_sem]) rfl ⟨rfl, rfl⟩
  · rw [decide_eq_false h] at K ⊢
    rw [if_neg h]
    go_enter Tryz.func289, Tryz.ntmps289
    go_wp2_with fail
    refine K.mono ?_
    rintro e w' ⟨rfl, rfl⟩
    go_wp2_with fail
    refine bodyPost_ret (v := .tuple #[.int .u32 0, .bool false]) (by simp [results, Tryz.results289, go_sem]) rfl ⟨rfl, rfl⟩
theorem r01_get16 (l : List UInt8) (i : Nat) (hl : l.length ≤ 1000000) (hi : i ≤ 800000) (w : World) :
    Calls Tryz.prog 269 #[str l, .int .i64 i] w fun e w' => e = .returned (.tuple #[.int .u16 (g16 l i : Nat), .bool (decide (i + 2 ≤ l.length))]) ∧ w' = w := by
  have K := r01_get l i 2 hl hi (by omega) w
  have hv : (if i + 2 ≤ l.length then valN l i 2 else 0) = g16 l i := by
    by_cases h : i + 2 ≤ l.length
    · rw [if_pos h, valN2 h]
    · rw [if_neg h, g16, if_neg h]
  rw [hv] at K
  have b0 := g16_lt l i
  have c0 : IntKind.u16.wrap (g16 l i : Int) = (g16 l i : Int) := IntWalk.u16_in _ (by omega)
  generalize decide (i + 2 ≤ l.length) = B at *
  clear hv
  generalize g16 l i = v at *
  go_enter Tryz.func269, Tryz.ntmps269
  go_wp2_with fail
  refine K.mono ?_
  rintro e w' ⟨rfl, rfl⟩
  go_wp2_with fail
  refine bodyPost_ret (v := .tuple #[.int .u16 (v : Nat), .bool B]) (by simp [results, Tryz.results269, go_sem]) rfl ⟨rfl, rfl⟩
theorem byt_snoc (l : List UInt8) {i : Nat} (h : i < l.length) : byt (l ++ [0]) i = byt l i := by
  unfold byt; rw [List.getElem?_append_left h]
/-- The word of a text that begins at a place. -/
def wordA (l : List UInt8) (i : Nat) : Nat := if i + 2 ≤ l.length then g16 l i else byt l i * 256
theorem wordA_eq {l : List UInt8} {i : Nat} (h : i < l.length) : g16 (l ++ [0]) i = wordA l i := by
  unfold wordA g16
  rw [if_pos (by simp; omega), byt_snoc l h]
  by_cases h2 : i + 2 ≤ l.length
  · rw [if_pos h2, if_pos h2, byt_snoc l (by omega)]
  · rw [if_neg h2]
    have : byt (l ++ [0]) (i + 1) = 0 := by
      unfold byt
      rw [List.getElem?_append_right (by omega), show i + 1 - l.length = 0 by omega]
      rfl
    rw [this]
    omega
theorem wordA_lt (l : List UInt8) (i : Nat) : wordA l i < 65536 := by unfold wordA; have := g16_lt l i; have := byt_lt l i; split <;> omega
theorem sumW_word {l : List UInt8} {i s : Nat} (h : i < l.length) : sumW s (l.drop i) = sumW (addC s (wordA l i)) (l.drop (i + 2)) := by
  unfold wordA
  by_cases h2 : i + 2 ≤ l.length
  · rw [if_pos h2, sumW_step h2]
  · rw [if_neg h2, sumW_one (by omega), sumW_end (by omega)]
theorem r02_word (l : List UInt8) (i : Nat) (hl : l.length ≤ 900000) (hi : i < l.length) (h8 : i ≤ 700000) (w : World) :
    Calls Tryz.prog 224 #[str l, .int .i64 i] w fun e w' => e = .returned (.int .u16 (wordA l i : Nat)) ∧ w' = w := by
  have K := r01_get16 (l ++ [0]) i (by simp; omega) (by omega) w
  rw [wordA_eq hi, decide_eq_true (show i + 2 ≤ (l ++ [(0 : UInt8)]).length by simp; omega)] at K
  have s : ∀ W, (Op.stringOp .add ⟨l.toArray⟩ ⟨#[0]⟩).run Tryz.prog W = .ok (str (l ++ [0])) W := fun W => run_string_add_lists (P := Tryz.prog) W l [0] (by omega) (by simp)
  generalize l ++ [0] = y at *
  generalize wordA l i = v at *
  go_enter Tryz.func224, Tryz.ntmps224
  go_wp2_with fail
  refine K.mono ?_
  rintro e w' ⟨rfl, rfl⟩
  go_wp2_with fail
  go_ret
  exact ⟨rfl, rfl⟩
theorem sumL_snoc (s : Nat) (ls : List (List UInt8)) (x : List UInt8) : sumL s (ls ++ [x]) = sumW (sumL s ls) x := by
  induction ls generalizing s with
  | nil => rfl
  | cons a t ih => exact ih _
set_option maxHeartbeats 1000000 in
theorem r02_sum (g c : Nat) (ls : List (List UInt8)) (hw : ∀ x, x ∈ ls → x.length ≤ 600000) (hl : ls.length ≤ 100) (w : World) (hc : ∀ j x, ls[j]? = some x → w.cell? ⟨g, j, none⟩ = some (str x)) (hg : g < w.heap.size) :
    Calls Tryz.prog 166 #[.slice (some ⟨g, 0, none⟩) ls.length c] w fun e w' => e = .returned (.int .u16 (csum ls : Nat)) ∧ w' = w := by
  have HC := Lib.hid hc
  have HW := Lib.hid hw
  clear hc hw
  obtain ⟨n, hn⟩ : ∃ n, n = ls.length := ⟨_, rfl⟩
  have Hn := Lib.hid hn
  rw [← hn] at hl ⊢
  clear hn
  go_enter Tryz.func166, Tryz.ntmps166
  go_wp2_with fail
  go_loop [3, 4] (fun s i => ∃ k : Nat, k ≤ n ∧ s = .int .u16 (sumL 0 (ls.take k) : Nat) ∧ i = .int .i64 (k : Int)) (fun _ i => n - (RowKit.intOf i).toNat)
  case atStart => exact ⟨0, Nat.zero_le _, by simp [sumL], rfl⟩
  case round =>
    obtain ⟨k, hk, rfl, rfl⟩ := hrel
    by_cases hlt : k < n
    · have hkl : k < ls.length := by rw [← Hn.out]; exact hlt
      have hx : ls[k]? = some ls[k] := List.getElem?_eq_getElem hkl
      have hcell := HC.out k _ hx
      have hsn : sumL 0 (ls.take (k + 1)) = sumW (sumL 0 (ls.take k)) ls[k] := by rw [List.take_succ_eq_append_getElem hkl, sumL_snoc]
      have hb := HW.out _ (List.getElem_mem hkl)
      have hkn : (k : Int) < (n : Int) := by omega
      have Hsn := Lib.hid hsn
      have b0 := sumL_lt (ls.take k) 0 (by omega)
      obtain ⟨x, hxx⟩ : ∃ x, x = ls[k] := ⟨_, rfl⟩
      rw [← hxx] at hcell hb Hsn
      clear hx hsn hkl hxx
      generalize sumL 0 (ls.take k) = s0 at *
      go_wp2_with fail
      go_loop [3, 5] (fun s a => ∃ (j v : Nat), j ≤ x.length ∧ v < 65536 ∧ s = .int .u16 (v : Nat) ∧ a = .int .i64 ((2 * j : Nat) : Int) ∧ sumW v (x.drop (2 * j)) = sumW s0 x) (fun _ a => 1000000 - (RowKit.intOf a).toNat)
      case atStart => exact ⟨0, s0, Nat.zero_le _, b0, rfl, rfl, by simp⟩
      case round =>
        obtain ⟨j, v, hj, hv, rfl, rfl, hs⟩ := hrel
        have HS := Lib.hid hs
        clear hs
        by_cases hjl : 2 * j < x.length
        · have K := Lib.hid (fun W => r02_word x (2 * j) (by omega) hjl (by omega) W)
          have KA := Lib.hid (fun W => r02_add v (wordA x (2 * j)) hv (wordA_lt _ _) W)
          have hst := Lib.hid ((sumW_word (s := v) hjl).symm.trans HS.out)
          have hlt2 := Lib.hid (addC_lt hv (wordA_lt x (2 * j)))
          have hjx : ((2 * j : Nat) : Int) < (x.length : Int) := by omega
          have hjx2 : (2 : Int) * (j : Int) < (x.length : Int) := by omega
          have wr : IntKind.i64.wrap ((2 : Int) * (j : Int) + 2) = (2 : Int) * (j : Int) + 2 := IntWalk.i64_in _ (by omega)
          clear HS
          generalize wordA x (2 * j) = y at *
          generalize addC v y = z at *
          go_wp2_with fail
          refine (K.out _).mono ?_
          rintro e w' ⟨rfl, rfl⟩
          go_wp2_with fail
          refine (KA.out _).mono ?_
          rintro e w' ⟨rfl, rfl⟩
          go_wp2_with fail
          go_round
          case rel => exact ⟨j + 1, z, by omega, hlt2.out, rfl, by go_num, hst.out⟩
          case measure => simp [RowKit.intOf]; omega
        · have hjx2 : (x.length : Int) ≤ (2 : Int) * (j : Int) := by omega
          have hfin : v = sumL 0 (ls.take (k + 1)) := by rw [Hsn.out, ← HS.out, sumW_end (by omega)]
          have Hf := Lib.hid hfin
          clear hfin
          go_wp2_with fail
          go_round
          case rel => exact ⟨k + 1, by omega, by rw [← Hf.out], by go_num⟩
          case measure => simp [RowKit.intOf]; omega
    · obtain rfl : k = n := by omega
      have he : csum ls = 65535 - sumL 0 (ls.take k) := by rw [Hn.out, List.take_length]; rfl
      have He := Lib.hid he
      have b0 := sumL_lt (ls.take k) 0 (by omega)
      clear he
      generalize sumL 0 (ls.take k) = s0 at *
      have c0 : IntKind.u16.wrap (65535 - (s0 : Int)) = ((65535 - s0 : Nat) : Int) := (IntWalk.u16_in _ (by omega)).trans (by omega)
      go_wp2_with fail
      go_ret
      exact ⟨by rw [He.out]; rfl, rfl⟩
end Go.Proofs.YthmokdfigjffjaaGreatDoor
