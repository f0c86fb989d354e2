/- Chapter 18, EntriesAmong: the library's symMerge, the general case (written by genamc.py). -/
import Derived.Test.YtaiimkcmgiceeaaDoorAmT
import Derived.Deep.Cut
namespace Go.Proofs.YtaiimkcmgiceeaaDoor
set_option linter.unusedVariables false
set_option linter.unusedSimpArgs false
open Go.RowKit Go.Lib Go.Sort Go.Shelf
variable {α : Type} [Inhabited α]
/-- What is done behind the search: the middle changes places; then both halves. -/
def symR (m mid n b st a : Nat) (rec : Array α → Nat → Nat → Nat → Array α) (d : Array α) : Array α :=
  let d1 := if st < m ∧ m < n - st then rotL m (n - st - st) (m - st) (n - st - m) d else d
  let d2 := if a < st ∧ st < mid then rec d1 a st mid else d1
  if mid < n - st ∧ n - st < b then rec d2 mid (n - st) b else d2
set_option maxHeartbeats 64000000 in
set_option maxRecDepth 1000000 in
theorem sym_c1 {P : Program} {k : Nat} (L : SrtL P k) (enc : α → List Value) (cf : α → α → Int) (g : Nat) (cb : Array Value) (blk off cap a m b : Nat) (d0 d : Array α) (w0 w : World) (eg : ∀ args w, (callFunc g args).run P w = .ok (.enter g args) w) (hcmp : CmpLays P g cb enc k cf blk off d0.size w0) (R : RowK enc k w0 blk off d0) (hs : d0.size = d.size) (S : SWK enc k w0 blk off d w)
    (ham : a < m) (hmb : m < b) (hb : b ≤ d.size) (hsz : d.size < 2305843009213693952) (h1 : m ≠ a + 1) (h2 : b ≠ m + 1) (mid n : Nat) (hmid : mid = (a + b) / 2) (hn : n = mid + m) (hbig : mid < m) (rec : Array α → Nat → Nat → Nat → Array α) (hrs : ∀ dk x y z, (rec dk x y z).size = dk.size)
    (hrec : ∀ (x y z : Nat) (dk : Array α) (W : World), dk.size = d.size → SWK enc k w0 blk off dk W → x < y → y < z → z ≤ b → z - x < b - a →
      Calls P 56 #[.slice (some ⟨blk, off, none⟩) d.size cap, .int .i64 x, .int .i64 y, .int .i64 z, .func (.func g) #[] cb] W fun e w' => e = .returned (.tuple #[]) ∧ SWK enc k w0 blk off (rec dk x y z) w') :
    Calls P 56 #[.slice (some ⟨blk, off, none⟩) d.size cap, .int .i64 a, .int .i64 m, .int .i64 b, .func (.func g) #[] cb] w fun e w' => e = .returned (.tuple #[]) ∧ SWK enc k w0 blk off (symR m mid n b (bs (fun h => !decide (cf d[n - 1 - h]! d[h]! < 0)) ((mid) - (n - b)) (n - b) (mid)) a rec d) w' := by
  have mixed := L.mixed; have t0 := L.t0; have a0 := L.a0; have z0 := L.z0; have v0 := L.v0; have t3 := L.t3; have a3 := L.a3; have z3 := L.z3; have v3 := L.v3; have t4 := L.t4; have a4 := L.a4; have z4 := L.z4; have v4 := L.v4; have t5 := L.t5; have a5 := L.a5; have z5 := L.z5; have t22 := L.t22; have a22 := L.a22; have z22 := L.z22; have v22 := L.v22; have t25 := L.t25; have a25 := L.a25; have z25 := L.z25; have v25 := L.v25; have aE := L.aE; have zE := L.zE
  have u22 := run_underlying L.t22; have u3 := run_underlying L.t3; have u4 := run_underlying L.t4; have u5 := run_underlying L.t5
  have HC : Aside _ := hcmp
  have S0 : Aside _ := S
  clear S hcmp
  have er : ∀ args w, (callFunc 64 args).run P w = .ok (.enter 64 args) w := enters_of L.fro (by kernel_rfl) rfl
  have ey : ∀ args w, (callFunc 56 args).run P w = .ok (.enter 56 args) w := enters_of L.fsy (by kernel_rfl) rfl
  have KR := Lib.hid (fun (x y z : Nat) (dk : Array α) (W : World) (h : dk.size = d.size) (S : SWK enc k w0 blk off dk W) (hx : x < y) (hy : y < z) (hz : z ≤ dk.size) => h ▸ rot_ok L enc (.func (.func g) #[] cb) blk off cap x y z d0 dk w0 W R (by omega) S hx hy hz (by omega))
  have IH := Lib.hid hrec
  have HRS := Lib.hid hrs
  clear hrec hrs
  have FG := L.fsy
  have rma : IntKind.i64.wrap ((m : Int) - (a : Int)) = (m : Int) - (a : Int) := by rw [IntKind.wrap_i64]; omega
  have nma : ((m : Int) - (a : Int) == 1) = false := beq_eq_false_iff_ne.2 (by omega)
  have rbm : IntKind.i64.wrap ((b : Int) - (m : Int)) = (b : Int) - (m : Int) := by rw [IntKind.wrap_i64]; omega
  have nbm : ((b : Int) - (m : Int) == 1) = false := beq_eq_false_iff_ne.2 (by omega)
  have rab : IntKind.i64.wrap ((a : Int) + (b : Int)) = (a : Int) + (b : Int) := by rw [IntKind.wrap_i64]; omega
  have ru : IntKind.u64.wrap ((a : Int) + (b : Int)) = (a : Int) + (b : Int) := by rw [IntKind.wrap_u64]; omega
  have zab : ((a : Int) + (b : Int)) / 2 = (mid : Int) := by omega
  have rmm : IntKind.i64.wrap ((mid : Int) + (m : Int)) = (n : Int) := by rw [IntKind.wrap_i64]; omega
  have zbig : (mid : Int) < (m : Int) := by omega
  obtain ⟨s0, hs0⟩ : ∃ s0, s0 = n - b := ⟨_, rfl⟩
  rw [← hs0]
  have rnb : IntKind.i64.wrap ((n : Int) - (b : Int)) = (s0 : Int) := by rw [IntKind.wrap_i64]; omega
  have q0 : a ≤ s0 := by omega
  have q3 : s0 ≤ mid := by omega
  obtain ⟨pp, hpp⟩ : ∃ pp, pp = n - 1 := ⟨_, rfl⟩
  have rpp : IntKind.i64.wrap ((n : Int) - 1) = (pp : Int) := by rw [IntKind.wrap_i64]; omega
  have q1 : a < mid := by omega
  have q2 : mid < b := by omega
  have QN := Lib.hid (show mid + m = n ∧ a + b ≤ 2 * mid + 1 ∧ 2 * mid ≤ a + b ∧ pp + 1 = n ∧ s0 + b = n by omega)
  have HPP := Lib.hid hpp
  clear h1 h2 hmid hn hpp hs0
  go_enter FG, Tryd.ntmps56
  go_wp2
  clear rma nma rbm nbm rab ru zab rmm rnb rpp
  have qn := QN.out
  go_loopg [20, 21] ((mid) - (s0)) (fun g1 vi vj wr => ∃ (i j f : Nat), vi = .int .i64 i ∧ vj = .int .i64 j ∧ s0 ≤ i ∧ i ≤ j ∧ j ≤ mid ∧ j - i ≤ f ∧ j - i ≤ g1 ∧ Aside (SWK enc k w0 blk off d wr) ∧ Hid (bs (fun h => !decide (cf d[n - 1 - h]! d[h]! < 0)) f i j = bs (fun h => !decide (cf d[n - 1 - h]! d[h]! < 0)) ((mid) - (s0)) (s0) (mid)))
  case atStart => exact ⟨s0, mid, (mid) - (s0), by first | rfl | go_num | (congr 1; omega), by first | rfl | go_num | (congr 1; omega), by omega, by omega, by omega, by omega, by omega, S0, rfl⟩
  case round =>
    clear S0
    obtain ⟨i, j, f, rfl, rfl, hi0, hij, hj0, hf, hg1, S1, HO⟩ := hrel
    by_cases hlt : i < j
    · have hltz : (i : Int) < (j : Int) := by omega
      obtain ⟨f', rfl⟩ : ∃ f', f = f' + 1 := ⟨f - 1, by omega⟩
      obtain ⟨h, hh⟩ : ∃ h, h = (i + j) / 2 := ⟨_, rfl⟩
      have hz : ((i : Int) + (j : Int)) / 2 = (h : Int) := by omega
      have hi1 : i ≤ h := by omega
      have hi2 : h < j := by omega
      have HH := Lib.hid hh
      clear hh
      have rij : IntKind.i64.wrap ((i : Int) + (j : Int)) = (i : Int) + (j : Int) := by rw [IntKind.wrap_i64]; omega
      have rh : IntKind.i64.wrap ((h : Int) + 1) = (h : Int) + 1 := by rw [IntKind.wrap_i64]; omega
      obtain ⟨z, hz1⟩ : ∃ z, z = n - 1 - h := ⟨_, rfl⟩
      have rz : IntKind.i64.wrap ((pp : Int) - (h : Int)) = (z : Int) := by rw [IntKind.wrap_i64]; omega
      have xh : (0 : Int) ≤ (h : Int) := by omega
      have bh : (h : Int) < (d.size : Int) := by omega
      have xz : (0 : Int) ≤ (z : Int) := by omega
      have bz : (z : Int) < (d.size : Int) := by omega
      have lz : z < d.size := by omega
      have HZ1 := Lib.hid hz1
      clear hz1
      cases hlv : decide (cf d[z]! d[h]! < 0) with
      | true =>
        obtain ⟨xq, hxq⟩ : ∃ x, x = d[z]! := ⟨_, rfl⟩
        obtain ⟨yq, hyq⟩ : ∃ x, x = d[h]! := ⟨_, rfl⟩
        have laq := S1.out.ld R (by omega) P (z) (by omega)
        have lbq := S1.out.ld R (by omega) P (h) (by omega)
        rw [← hxq] at laq
        rw [← hyq] at lbq
        have hcq := S1.out.cmp HC.out (by omega) xq yq
        have hv : cf xq yq < 0 := by rw [hxq, hyq]; exact of_decide_eq_true hlv
        have hd : decide (cf xq yq < 0) = true := decide_eq_true hv
        clear hxq hyq
        go_wp2_with fail
        go_quiet_grown (first | (go_at_fn g; refine Calls.grown_of (hcq _ _)))
        have S2 : Aside (SWK enc k w0 blk off d (grow (wr.drewN nq) osq)) := S1.out.grown nq osq
        clear laq lbq hcq S1
        generalize grow (wr.drewN nq) osq = w2 at S2 ⊢
        clear nq osq
        go_wp2
        go_roundg (h - i)
        case measure => omega
        case rel => exact ⟨i, h, f', by first | rfl | go_num | (congr 1; omega), by first | rfl | go_num | (congr 1; omega), by omega, by omega, by omega, by omega, Nat.le_refl _, S2, (show Hid _ from by show _ = _; rw [← HO.out]; exact (bs_no (p := (fun h => !decide (cf d[n - 1 - h]! d[h]! < 0))) hlt HH.out (by have e9 := HZ1.out; subst e9; simp at hlv ⊢; omega)).symm)⟩
      | false =>
        obtain ⟨xq, hxq⟩ : ∃ x, x = d[z]! := ⟨_, rfl⟩
        obtain ⟨yq, hyq⟩ : ∃ x, x = d[h]! := ⟨_, rfl⟩
        have laq := S1.out.ld R (by omega) P (z) (by omega)
        have lbq := S1.out.ld R (by omega) P (h) (by omega)
        rw [← hxq] at laq
        rw [← hyq] at lbq
        have hcq := S1.out.cmp HC.out (by omega) xq yq
        have hv : ¬ cf xq yq < 0 := by rw [hxq, hyq]; exact of_decide_eq_false hlv
        have hd : decide (cf xq yq < 0) = false := decide_eq_false hv
        clear hxq hyq
        go_wp2_with fail
        go_quiet_grown (first | (go_at_fn g; refine Calls.grown_of (hcq _ _)))
        have S2 : Aside (SWK enc k w0 blk off d (grow (wr.drewN nq) osq)) := S1.out.grown nq osq
        clear laq lbq hcq S1
        generalize grow (wr.drewN nq) osq = w2 at S2 ⊢
        clear nq osq
        go_wp2
        go_roundg (j - (h + 1))
        case measure => omega
        case rel => exact ⟨h + 1, j, f', by first | rfl | go_num | (congr 1; omega), by first | rfl | go_num | (congr 1; omega), by omega, by omega, by omega, by omega, Nat.le_refl _, S2, (show Hid _ from by show _ = _; rw [← HO.out]; exact (bs_yes (p := (fun h => !decide (cf d[n - 1 - h]! d[h]! < 0))) hlt HH.out (by have e9 := HZ1.out; subst e9; simp at hlv ⊢; omega)).symm)⟩
    · have hltz : ¬ (i : Int) < (j : Int) := by omega
      have HI : Hid (bs (fun h => !decide (cf d[n - 1 - h]! d[h]! < 0)) ((mid) - (s0)) (s0) (mid) = i) := by show _ = _; rw [← HO.out]; exact bs_stop hlt
      clear HO
      obtain rfl : i = j := by omega
      obtain ⟨E, hE⟩ : ∃ E, E = n - i := ⟨_, rfl⟩
      have rE : IntKind.i64.wrap ((n : Int) - (i : Int)) = (E : Int) := by rw [IntKind.wrap_i64]; omega
      have e1 : m ≤ E := by omega
      have e2 : E ≤ b := by omega
      have e3 : i ≤ m := by omega
      have e4 : a ≤ i := by omega
      have e5 : i ≤ mid := by omega
      have e6 : mid ≤ E := by omega
      have HE := Lib.hid hE
      clear hE
      go_upto_region 38 with fail
      iterate 17 go_step
      go_cut [] from 25 (fun wx => Aside (SWK enc k w0 blk off (if i < m ∧ m < E then rotL m (E - i) (m - i) (E - m) d else d) wx))
      case first =>
        by_cases hy1 : i < m ∧ m < E
        · have y1a : ((i : Int)) < ((m : Int)) := by omega
          have y1b : ((m : Int)) < ((E : Int)) := by omega
          go_wp2_with fail
          go_at_fn 64
          refine (KR.out i m E d _ rfl S1.out (by omega) (by omega) (by omega)).mono ?_
          rintro e w' ⟨rfl, S2'⟩
          have S2 : Aside _ := S2'
          clear S2' S1
          go_wp2_with fail
          go_meet
          case rel => exact (show Aside (SWK enc k w0 blk off (if i < m ∧ m < E then rotL m (E - i) (m - i) (E - m) d else d) _) from by rw [if_pos hy1]; exact S2)
        · by_cases hn1 : ((i : Int)) < ((m : Int))
          · have y1b : ¬ ((m : Int)) < ((E : Int)) := by omega
            go_wp2_with fail
            go_meet
            case rel => exact (show Aside (SWK enc k w0 blk off (if i < m ∧ m < E then rotL m (E - i) (m - i) (E - m) d else d) _) from by rw [if_neg hy1]; exact S1)
          · skip
            go_wp2_with fail
            go_meet
            case rel => exact (show Aside (SWK enc k w0 blk off (if i < m ∧ m < E then rotL m (E - i) (m - i) (E - m) d else d) _) from by rw [if_neg hy1]; exact S1)
      case rest =>
        have S1c : Aside _ := hcut
        clear hcut S1
        obtain ⟨d1, hd1⟩ : ∃ d1, d1 = (if i < m ∧ m < E then rotL m (E - i) (m - i) (E - m) d else d) := ⟨_, rfl⟩
        rw [← hd1] at S1c
        have S1 := S1c
        clear S1c
        have HZ := Lib.hid (show d1.size = d.size by rw [hd1]; split <;> first | exact size_rotL _ _ _ _ _ | rfl)
        have HD1 := Lib.hid hd1
        clear hd1
        iterate 2 go_step
        go_cut [] from 25 (fun wx => Aside (SWK enc k w0 blk off (if a < i ∧ i < mid then rec d1 a i mid else d1) wx))
        case first =>
          by_cases hy2 : a < i ∧ i < mid
          · have y2a : ((a : Int)) < ((i : Int)) := by omega
            have y2b : ((i : Int)) < ((mid : Int)) := by omega
            go_wp2_with fail
            go_at_fn 56
            refine (IH.out a i mid d1 _ HZ.out S1.out (by omega) (by omega) (by omega) (by omega)).mono ?_
            rintro e w' ⟨rfl, S2'⟩
            have S2 : Aside _ := S2'
            clear S2' S1
            go_wp2_with fail
            go_meet
            case rel => exact (show Aside (SWK enc k w0 blk off (if a < i ∧ i < mid then rec d1 a i mid else d1) _) from by rw [if_pos hy2]; exact S2)
          · by_cases hn2 : ((a : Int)) < ((i : Int))
            · have y2b : ¬ ((i : Int)) < ((mid : Int)) := by omega
              go_wp2_with fail
              go_meet
              case rel => exact (show Aside (SWK enc k w0 blk off (if a < i ∧ i < mid then rec d1 a i mid else d1) _) from by rw [if_neg hy2]; exact S1)
            · skip
              go_wp2_with fail
              go_meet
              case rel => exact (show Aside (SWK enc k w0 blk off (if a < i ∧ i < mid then rec d1 a i mid else d1) _) from by rw [if_neg hy2]; exact S1)
        case rest =>
          have S1c : Aside _ := hcut
          clear hcut S1
          obtain ⟨d2, hd2⟩ : ∃ d2, d2 = (if a < i ∧ i < mid then rec d1 a i mid else d1) := ⟨_, rfl⟩
          rw [← hd2] at S1c
          have S1 := S1c
          clear S1c
          have HZ2 := Lib.hid (show d2.size = d.size by rw [hd2]; split <;> first | (rw [HRS.out]; exact HZ.out) | exact HZ.out)
          have HZ0 := HZ
          clear HZ
          have HZ := HZ2
          have HD2 := Lib.hid hd2
          clear hd2
          by_cases hy3 : mid < E ∧ E < b
          · have y3a : ((mid : Int)) < ((E : Int)) := by omega
            have y3b : ((E : Int)) < ((b : Int)) := by omega
            go_wp2_with fail
            go_at_fn 56
            refine (IH.out mid E b d2 _ HZ.out S1.out (by omega) (by omega) (by omega) (by omega)).mono ?_
            rintro e w' ⟨rfl, S2'⟩
            have S2 : Aside _ := S2'
            clear S2' S1
            go_wp2_with fail
            go_end0
            exact ⟨rfl, by have h := S2.out; rw [HI.out]; simp only [symR]; rw [← HE.out, ← HD1.out, ← HD2.out, if_pos hy3]; exact h⟩
          · by_cases hn3 : ((mid : Int)) < ((E : Int))
            · have y3b : ¬ ((E : Int)) < ((b : Int)) := by omega
              go_wp2_with fail
              go_end0
              exact ⟨rfl, by have h := S1.out; rw [HI.out]; simp only [symR]; rw [← HE.out, ← HD1.out, ← HD2.out, if_neg hy3]; exact h⟩
            · skip
              go_wp2_with fail
              go_end0
              exact ⟨rfl, by have h := S1.out; rw [HI.out]; simp only [symR]; rw [← HE.out, ← HD1.out, ← HD2.out, if_neg hy3]; exact h⟩
set_option maxHeartbeats 64000000 in
set_option maxRecDepth 1000000 in
theorem sym_c0 {P : Program} {k : Nat} (L : SrtL P k) (enc : α → List Value) (cf : α → α → Int) (g : Nat) (cb : Array Value) (blk off cap a m b : Nat) (d0 d : Array α) (w0 w : World) (eg : ∀ args w, (callFunc g args).run P w = .ok (.enter g args) w) (hcmp : CmpLays P g cb enc k cf blk off d0.size w0) (R : RowK enc k w0 blk off d0) (hs : d0.size = d.size) (S : SWK enc k w0 blk off d w)
    (ham : a < m) (hmb : m < b) (hb : b ≤ d.size) (hsz : d.size < 2305843009213693952) (h1 : m ≠ a + 1) (h2 : b ≠ m + 1) (mid n : Nat) (hmid : mid = (a + b) / 2) (hn : n = mid + m) (hbig : ¬ mid < m) (rec : Array α → Nat → Nat → Nat → Array α) (hrs : ∀ dk x y z, (rec dk x y z).size = dk.size)
    (hrec : ∀ (x y z : Nat) (dk : Array α) (W : World), dk.size = d.size → SWK enc k w0 blk off dk W → x < y → y < z → z ≤ b → z - x < b - a →
      Calls P 56 #[.slice (some ⟨blk, off, none⟩) d.size cap, .int .i64 x, .int .i64 y, .int .i64 z, .func (.func g) #[] cb] W fun e w' => e = .returned (.tuple #[]) ∧ SWK enc k w0 blk off (rec dk x y z) w') :
    Calls P 56 #[.slice (some ⟨blk, off, none⟩) d.size cap, .int .i64 a, .int .i64 m, .int .i64 b, .func (.func g) #[] cb] w fun e w' => e = .returned (.tuple #[]) ∧ SWK enc k w0 blk off (symR m mid n b (bs (fun h => !decide (cf d[n - 1 - h]! d[h]! < 0)) ((m) - (a)) (a) (m)) a rec d) w' := by
  have mixed := L.mixed; have t0 := L.t0; have a0 := L.a0; have z0 := L.z0; have v0 := L.v0; have t3 := L.t3; have a3 := L.a3; have z3 := L.z3; have v3 := L.v3; have t4 := L.t4; have a4 := L.a4; have z4 := L.z4; have v4 := L.v4; have t5 := L.t5; have a5 := L.a5; have z5 := L.z5; have t22 := L.t22; have a22 := L.a22; have z22 := L.z22; have v22 := L.v22; have t25 := L.t25; have a25 := L.a25; have z25 := L.z25; have v25 := L.v25; have aE := L.aE; have zE := L.zE
  have u22 := run_underlying L.t22; have u3 := run_underlying L.t3; have u4 := run_underlying L.t4; have u5 := run_underlying L.t5
  have HC : Aside _ := hcmp
  have S0 : Aside _ := S
  clear S hcmp
  have er : ∀ args w, (callFunc 64 args).run P w = .ok (.enter 64 args) w := enters_of L.fro (by kernel_rfl) rfl
  have ey : ∀ args w, (callFunc 56 args).run P w = .ok (.enter 56 args) w := enters_of L.fsy (by kernel_rfl) rfl
  have KR := Lib.hid (fun (x y z : Nat) (dk : Array α) (W : World) (h : dk.size = d.size) (S : SWK enc k w0 blk off dk W) (hx : x < y) (hy : y < z) (hz : z ≤ dk.size) => h ▸ rot_ok L enc (.func (.func g) #[] cb) blk off cap x y z d0 dk w0 W R (by omega) S hx hy hz (by omega))
  have IH := Lib.hid hrec
  have HRS := Lib.hid hrs
  clear hrec hrs
  have FG := L.fsy
  have rma : IntKind.i64.wrap ((m : Int) - (a : Int)) = (m : Int) - (a : Int) := by rw [IntKind.wrap_i64]; omega
  have nma : ((m : Int) - (a : Int) == 1) = false := beq_eq_false_iff_ne.2 (by omega)
  have rbm : IntKind.i64.wrap ((b : Int) - (m : Int)) = (b : Int) - (m : Int) := by rw [IntKind.wrap_i64]; omega
  have nbm : ((b : Int) - (m : Int) == 1) = false := beq_eq_false_iff_ne.2 (by omega)
  have rab : IntKind.i64.wrap ((a : Int) + (b : Int)) = (a : Int) + (b : Int) := by rw [IntKind.wrap_i64]; omega
  have ru : IntKind.u64.wrap ((a : Int) + (b : Int)) = (a : Int) + (b : Int) := by rw [IntKind.wrap_u64]; omega
  have zab : ((a : Int) + (b : Int)) / 2 = (mid : Int) := by omega
  have rmm : IntKind.i64.wrap ((mid : Int) + (m : Int)) = (n : Int) := by rw [IntKind.wrap_i64]; omega
  have zbig : ¬ (mid : Int) < (m : Int) := by omega
  obtain ⟨pp, hpp⟩ : ∃ pp, pp = n - 1 := ⟨_, rfl⟩
  have rpp : IntKind.i64.wrap ((n : Int) - 1) = (pp : Int) := by rw [IntKind.wrap_i64]; omega
  have q1 : a < mid := by omega
  have q2 : mid < b := by omega
  have QN := Lib.hid (show mid + m = n ∧ a + b ≤ 2 * mid + 1 ∧ 2 * mid ≤ a + b ∧ pp + 1 = n by omega)
  have HPP := Lib.hid hpp
  clear h1 h2 hmid hn hpp
  go_enter FG, Tryd.ntmps56
  go_wp2
  clear rma nma rbm nbm rab ru zab rmm rpp
  have qn := QN.out
  go_loopg [20, 21] ((m) - (a)) (fun g1 vi vj wr => ∃ (i j f : Nat), vi = .int .i64 i ∧ vj = .int .i64 j ∧ a ≤ i ∧ i ≤ j ∧ j ≤ m ∧ j - i ≤ f ∧ j - i ≤ g1 ∧ Aside (SWK enc k w0 blk off d wr) ∧ Hid (bs (fun h => !decide (cf d[n - 1 - h]! d[h]! < 0)) f i j = bs (fun h => !decide (cf d[n - 1 - h]! d[h]! < 0)) ((m) - (a)) (a) (m)))
  case atStart => exact ⟨a, m, (m) - (a), by first | rfl | go_num | (congr 1; omega), by first | rfl | go_num | (congr 1; omega), by omega, by omega, by omega, by omega, by omega, S0, rfl⟩
  case round =>
    clear S0
    obtain ⟨i, j, f, rfl, rfl, hi0, hij, hj0, hf, hg1, S1, HO⟩ := hrel
    by_cases hlt : i < j
    · have hltz : (i : Int) < (j : Int) := by omega
      obtain ⟨f', rfl⟩ : ∃ f', f = f' + 1 := ⟨f - 1, by omega⟩
      obtain ⟨h, hh⟩ : ∃ h, h = (i + j) / 2 := ⟨_, rfl⟩
      have hz : ((i : Int) + (j : Int)) / 2 = (h : Int) := by omega
      have hi1 : i ≤ h := by omega
      have hi2 : h < j := by omega
      have HH := Lib.hid hh
      clear hh
      have rij : IntKind.i64.wrap ((i : Int) + (j : Int)) = (i : Int) + (j : Int) := by rw [IntKind.wrap_i64]; omega
      have rh : IntKind.i64.wrap ((h : Int) + 1) = (h : Int) + 1 := by rw [IntKind.wrap_i64]; omega
      obtain ⟨z, hz1⟩ : ∃ z, z = n - 1 - h := ⟨_, rfl⟩
      have rz : IntKind.i64.wrap ((pp : Int) - (h : Int)) = (z : Int) := by rw [IntKind.wrap_i64]; omega
      have xh : (0 : Int) ≤ (h : Int) := by omega
      have bh : (h : Int) < (d.size : Int) := by omega
      have xz : (0 : Int) ≤ (z : Int) := by omega
      have bz : (z : Int) < (d.size : Int) := by omega
      have lz : z < d.size := by omega
      have HZ1 := Lib.hid hz1
      clear hz1
      cases hlv : decide (cf d[z]! d[h]! < 0) with
      | true =>
        obtain ⟨xq, hxq⟩ : ∃ x, x = d[z]! := ⟨_, rfl⟩
        obtain ⟨yq, hyq⟩ : ∃ x, x = d[h]! := ⟨_, rfl⟩
        have laq := S1.out.ld R (by omega) P (z) (by omega)
        have lbq := S1.out.ld R (by omega) P (h) (by omega)
        rw [← hxq] at laq
        rw [← hyq] at lbq
        have hcq := S1.out.cmp HC.out (by omega) xq yq
        have hv : cf xq yq < 0 := by rw [hxq, hyq]; exact of_decide_eq_true hlv
        have hd : decide (cf xq yq < 0) = true := decide_eq_true hv
        clear hxq hyq
        go_wp2_with fail
        go_quiet_grown (first | (go_at_fn g; refine Calls.grown_of (hcq _ _)))
        have S2 : Aside (SWK enc k w0 blk off d (grow (wr.drewN nq) osq)) := S1.out.grown nq osq
        clear laq lbq hcq S1
        generalize grow (wr.drewN nq) osq = w2 at S2 ⊢
        clear nq osq
        go_wp2
        go_roundg (h - i)
        case measure => omega
        case rel => exact ⟨i, h, f', by first | rfl | go_num | (congr 1; omega), by first | rfl | go_num | (congr 1; omega), by omega, by omega, by omega, by omega, Nat.le_refl _, S2, (show Hid _ from by show _ = _; rw [← HO.out]; exact (bs_no (p := (fun h => !decide (cf d[n - 1 - h]! d[h]! < 0))) hlt HH.out (by have e9 := HZ1.out; subst e9; simp at hlv ⊢; omega)).symm)⟩
      | false =>
        obtain ⟨xq, hxq⟩ : ∃ x, x = d[z]! := ⟨_, rfl⟩
        obtain ⟨yq, hyq⟩ : ∃ x, x = d[h]! := ⟨_, rfl⟩
        have laq := S1.out.ld R (by omega) P (z) (by omega)
        have lbq := S1.out.ld R (by omega) P (h) (by omega)
        rw [← hxq] at laq
        rw [← hyq] at lbq
        have hcq := S1.out.cmp HC.out (by omega) xq yq
        have hv : ¬ cf xq yq < 0 := by rw [hxq, hyq]; exact of_decide_eq_false hlv
        have hd : decide (cf xq yq < 0) = false := decide_eq_false hv
        clear hxq hyq
        go_wp2_with fail
        go_quiet_grown (first | (go_at_fn g; refine Calls.grown_of (hcq _ _)))
        have S2 : Aside (SWK enc k w0 blk off d (grow (wr.drewN nq) osq)) := S1.out.grown nq osq
        clear laq lbq hcq S1
        generalize grow (wr.drewN nq) osq = w2 at S2 ⊢
        clear nq osq
        go_wp2
        go_roundg (j - (h + 1))
        case measure => omega
        case rel => exact ⟨h + 1, j, f', by first | rfl | go_num | (congr 1; omega), by first | rfl | go_num | (congr 1; omega), by omega, by omega, by omega, by omega, Nat.le_refl _, S2, (show Hid _ from by show _ = _; rw [← HO.out]; exact (bs_yes (p := (fun h => !decide (cf d[n - 1 - h]! d[h]! < 0))) hlt HH.out (by have e9 := HZ1.out; subst e9; simp at hlv ⊢; omega)).symm)⟩
    · have hltz : ¬ (i : Int) < (j : Int) := by omega
      have HI : Hid (bs (fun h => !decide (cf d[n - 1 - h]! d[h]! < 0)) ((m) - (a)) (a) (m) = i) := by show _ = _; rw [← HO.out]; exact bs_stop hlt
      clear HO
      obtain rfl : i = j := by omega
      obtain ⟨E, hE⟩ : ∃ E, E = n - i := ⟨_, rfl⟩
      have rE : IntKind.i64.wrap ((n : Int) - (i : Int)) = (E : Int) := by rw [IntKind.wrap_i64]; omega
      have e1 : m ≤ E := by omega
      have e2 : E ≤ b := by omega
      have e3 : i ≤ m := by omega
      have e4 : a ≤ i := by omega
      have e5 : i ≤ mid := by omega
      have e6 : mid ≤ E := by omega
      have HE := Lib.hid hE
      clear hE
      go_upto_region 38 with fail
      iterate 17 go_step
      go_cut [] from 25 (fun wx => Aside (SWK enc k w0 blk off (if i < m ∧ m < E then rotL m (E - i) (m - i) (E - m) d else d) wx))
      case first =>
        by_cases hy1 : i < m ∧ m < E
        · have y1a : ((i : Int)) < ((m : Int)) := by omega
          have y1b : ((m : Int)) < ((E : Int)) := by omega
          go_wp2_with fail
          go_at_fn 64
          refine (KR.out i m E d _ rfl S1.out (by omega) (by omega) (by omega)).mono ?_
          rintro e w' ⟨rfl, S2'⟩
          have S2 : Aside _ := S2'
          clear S2' S1
          go_wp2_with fail
          go_meet
          case rel => exact (show Aside (SWK enc k w0 blk off (if i < m ∧ m < E then rotL m (E - i) (m - i) (E - m) d else d) _) from by rw [if_pos hy1]; exact S2)
        · by_cases hn1 : ((i : Int)) < ((m : Int))
          · have y1b : ¬ ((m : Int)) < ((E : Int)) := by omega
            go_wp2_with fail
            go_meet
            case rel => exact (show Aside (SWK enc k w0 blk off (if i < m ∧ m < E then rotL m (E - i) (m - i) (E - m) d else d) _) from by rw [if_neg hy1]; exact S1)
          · skip
            go_wp2_with fail
            go_meet
            case rel => exact (show Aside (SWK enc k w0 blk off (if i < m ∧ m < E then rotL m (E - i) (m - i) (E - m) d else d) _) from by rw [if_neg hy1]; exact S1)
      case rest =>
        have S1c : Aside _ := hcut
        clear hcut S1
        obtain ⟨d1, hd1⟩ : ∃ d1, d1 = (if i < m ∧ m < E then rotL m (E - i) (m - i) (E - m) d else d) := ⟨_, rfl⟩
        rw [← hd1] at S1c
        have S1 := S1c
        clear S1c
        have HZ := Lib.hid (show d1.size = d.size by rw [hd1]; split <;> first | exact size_rotL _ _ _ _ _ | rfl)
        have HD1 := Lib.hid hd1
        clear hd1
        iterate 2 go_step
        go_cut [] from 25 (fun wx => Aside (SWK enc k w0 blk off (if a < i ∧ i < mid then rec d1 a i mid else d1) wx))
        case first =>
          by_cases hy2 : a < i ∧ i < mid
          · have y2a : ((a : Int)) < ((i : Int)) := by omega
            have y2b : ((i : Int)) < ((mid : Int)) := by omega
            go_wp2_with fail
            go_at_fn 56
            refine (IH.out a i mid d1 _ HZ.out S1.out (by omega) (by omega) (by omega) (by omega)).mono ?_
            rintro e w' ⟨rfl, S2'⟩
            have S2 : Aside _ := S2'
            clear S2' S1
            go_wp2_with fail
            go_meet
            case rel => exact (show Aside (SWK enc k w0 blk off (if a < i ∧ i < mid then rec d1 a i mid else d1) _) from by rw [if_pos hy2]; exact S2)
          · by_cases hn2 : ((a : Int)) < ((i : Int))
            · have y2b : ¬ ((i : Int)) < ((mid : Int)) := by omega
              go_wp2_with fail
              go_meet
              case rel => exact (show Aside (SWK enc k w0 blk off (if a < i ∧ i < mid then rec d1 a i mid else d1) _) from by rw [if_neg hy2]; exact S1)
            · skip
              go_wp2_with fail
              go_meet
              case rel => exact (show Aside (SWK enc k w0 blk off (if a < i ∧ i < mid then rec d1 a i mid else d1) _) from by rw [if_neg hy2]; exact S1)
        case rest =>
          have S1c : Aside _ := hcut
          clear hcut S1
          obtain ⟨d2, hd2⟩ : ∃ d2, d2 = (if a < i ∧ i < mid then rec d1 a i mid else d1) := ⟨_, rfl⟩
          rw [← hd2] at S1c
          have S1 := S1c
          clear S1c
          have HZ2 := Lib.hid (show d2.size = d.size by rw [hd2]; split <;> first | (rw [HRS.out]; exact HZ.out) | exact HZ.out)
          have HZ0 := HZ
          clear HZ
          have HZ := HZ2
          have HD2 := Lib.hid hd2
          clear hd2
          by_cases hy3 : mid < E ∧ E < b
          · have y3a : ((mid : Int)) < ((E : Int)) := by omega
            have y3b : ((E : Int)) < ((b : Int)) := by omega
            go_wp2_with fail
            go_at_fn 56
            refine (IH.out mid E b d2 _ HZ.out S1.out (by omega) (by omega) (by omega) (by omega)).mono ?_
            rintro e w' ⟨rfl, S2'⟩
            have S2 : Aside _ := S2'
            clear S2' S1
            go_wp2_with fail
            go_end0
            exact ⟨rfl, by have h := S2.out; rw [HI.out]; simp only [symR]; rw [← HE.out, ← HD1.out, ← HD2.out, if_pos hy3]; exact h⟩
          · by_cases hn3 : ((mid : Int)) < ((E : Int))
            · have y3b : ¬ ((E : Int)) < ((b : Int)) := by omega
              go_wp2_with fail
              go_end0
              exact ⟨rfl, by have h := S1.out; rw [HI.out]; simp only [symR]; rw [← HE.out, ← HD1.out, ← HD2.out, if_neg hy3]; exact h⟩
            · skip
              go_wp2_with fail
              go_end0
              exact ⟨rfl, by have h := S1.out; rw [HI.out]; simp only [symR]; rw [← HE.out, ← HD1.out, ← HD2.out, if_neg hy3]; exact h⟩
end Go.Proofs.YtaiimkcmgiceeaaDoor
