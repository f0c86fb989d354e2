/- Chapter 18, EntriesAmong: the library's symMerge, one row behind (written by genams.py). -/
import Derived.Test.YtaiimkcmgiceeaaDoorAmS
namespace Go.Proofs.YtaiimkcmgiceeaaDoor
set_option linter.unusedVariables false
set_option linter.unusedSimpArgs false
open Go.RowKit Go.Lib Go.Sort Go.Shelf
variable {α : Type} [Inhabited α]
set_option maxHeartbeats 64000000 in
set_option maxRecDepth 1000000 in
theorem sym_b {P : Program} {k : Nat} (L : SrtL P k) (enc : α → List Value) (cf : α → α → Int) (g : Nat) (cb : Array Value) (blk off cap a m b : Nat) (d0 d : Array α) (w0 w : World) (eg : ∀ args w, (callFunc g args).run P w = .ok (.enter g args) w) (hcmp : CmpLays P g cb enc k cf blk off d0.size w0) (R : RowK enc k w0 blk off d0) (hs : d0.size = d.size) (S : SWK enc k w0 blk off d w)
    (ham : a < m) (hmb : m < b) (hb : b ≤ d.size) (hsz : d.size < 2305843009213693952) (h1 : m ≠ a + 1) (h2 : b = m + 1) :
    Calls P 56 #[.slice (some ⟨blk, off, none⟩) d.size cap, .int .i64 a, .int .i64 m, .int .i64 b, .func (.func g) #[] cb] w fun e w' => e = .returned (.tuple #[]) ∧ SWK enc k w0 blk off (mvDown m (m - bs (fun h => !decide (cf d[m]! d[h]! < 0)) (m - a) a m) d) w' := by
  have mixed := L.mixed; have t0 := L.t0; have a0 := L.a0; have z0 := L.z0; have v0 := L.v0; have t3 := L.t3; have a3 := L.a3; have z3 := L.z3; have v3 := L.v3; have t4 := L.t4; have a4 := L.a4; have z4 := L.z4; have v4 := L.v4; have t5 := L.t5; have a5 := L.a5; have z5 := L.z5; have t22 := L.t22; have a22 := L.a22; have z22 := L.z22; have v22 := L.v22; have t25 := L.t25; have a25 := L.a25; have z25 := L.z25; have v25 := L.v25; have aE := L.aE; have zE := L.zE
  have u22 := run_underlying L.t22; have u3 := run_underlying L.t3; have u4 := run_underlying L.t4; have u5 := run_underlying L.t5
  have HC : Aside _ := hcmp
  have S0 : Aside _ := S
  clear S hcmp
  have FG := L.fsy
  have rma : IntKind.i64.wrap ((m : Int) - (a : Int)) = (m : Int) - (a : Int) := by rw [IntKind.wrap_i64]; omega
  have nma : ((m : Int) - (a : Int) == 1) = false := beq_eq_false_iff_ne.2 (by omega)
  have rbm : IntKind.i64.wrap ((b : Int) - (m : Int)) = (1 : Int) := by rw [IntKind.wrap_i64]; omega
  clear h1 h2
  go_enter FG, Tryd.ntmps56
  go_wp2
  clear rma rbm nma
  go_loopg [14, 15] (m - a) (fun g1 vi vj wr => ∃ (i j f : Nat), vi = .int .i64 i ∧ vj = .int .i64 j ∧ a ≤ i ∧ i ≤ j ∧ j ≤ m ∧ j - i ≤ f ∧ j - i ≤ g1 ∧ Aside (SWK enc k w0 blk off d wr) ∧ Hid (bs (fun h => !decide (cf d[m]! d[h]! < 0)) f i j = bs (fun h => !decide (cf d[m]! d[h]! < 0)) (m - a) (a) (m)))
  case atStart => exact ⟨a, m, m - a, by first | rfl | go_num | (congr 1; omega), by first | rfl | go_num | (congr 1; omega), by omega, by omega, by omega, by omega, by omega, S0, rfl⟩
  case round =>
    clear S0
    obtain ⟨i, j, f, rfl, rfl, hi0, hij, hj0, hf, hg1, S1, HO⟩ := hrel
    by_cases hlt : i < j
    · have hltz : (i : Int) < (j : Int) := by omega
      obtain ⟨f', rfl⟩ : ∃ f', f = f' + 1 := ⟨f - 1, by omega⟩
      obtain ⟨h, hh⟩ : ∃ h, h = (i + j) / 2 := ⟨_, rfl⟩
      have hz : ((i : Int) + (j : Int)) / 2 = (h : Int) := by omega
      have hi1 : i ≤ h := by omega
      have hi2 : h < j := by omega
      have HH := Lib.hid hh
      clear hh
      have rij : IntKind.i64.wrap ((i : Int) + (j : Int)) = (i : Int) + (j : Int) := by rw [IntKind.wrap_i64]; omega
      have rh : IntKind.i64.wrap ((h : Int) + 1) = (h : Int) + 1 := by rw [IntKind.wrap_i64]; omega
      have xh : (0 : Int) ≤ (h : Int) := by omega
      have bh : (h : Int) < (d.size : Int) := by omega
      have xm : (0 : Int) ≤ (m : Int) := by omega
      have bm : (m : Int) < (d.size : Int) := by omega
      cases hlv : decide (cf d[m]! d[h]! < 0) with
      | true =>
        obtain ⟨xq, hxq⟩ : ∃ x, x = d[m]! := ⟨_, rfl⟩
        obtain ⟨yq, hyq⟩ : ∃ x, x = d[h]! := ⟨_, rfl⟩
        have laq := S1.out.ld R (by omega) P (m) (by omega)
        have lbq := S1.out.ld R (by omega) P (h) (by omega)
        rw [← hxq] at laq
        rw [← hyq] at lbq
        have hcq := S1.out.cmp HC.out (by omega) xq yq
        have hv : cf xq yq < 0 := by rw [hxq, hyq]; exact of_decide_eq_true hlv
        have hd : decide (cf xq yq < 0) = true := decide_eq_true hv
        clear hxq hyq
        go_wp2_with fail
        go_quiet_grown (first | (go_at_fn g; refine Calls.grown_of (hcq _ _)))
        have S2 : Aside (SWK enc k w0 blk off d (grow (wr.drewN nq) osq)) := S1.out.grown nq osq
        clear laq lbq hcq S1
        generalize grow (wr.drewN nq) osq = w2 at S2 ⊢
        clear nq osq
        go_wp2
        go_roundg (h - i)
        case measure => omega
        case rel => exact ⟨i, h, f', by first | rfl | go_num | (congr 1; omega), by first | rfl | go_num | (congr 1; omega), by omega, by omega, by omega, by omega, Nat.le_refl _, S2, (show Hid _ from by show _ = _; rw [← HO.out]; exact (bs_no (p := (fun h => !decide (cf d[m]! d[h]! < 0))) hlt HH.out (by simp at hlv ⊢; omega)).symm)⟩
      | false =>
        obtain ⟨xq, hxq⟩ : ∃ x, x = d[m]! := ⟨_, rfl⟩
        obtain ⟨yq, hyq⟩ : ∃ x, x = d[h]! := ⟨_, rfl⟩
        have laq := S1.out.ld R (by omega) P (m) (by omega)
        have lbq := S1.out.ld R (by omega) P (h) (by omega)
        rw [← hxq] at laq
        rw [← hyq] at lbq
        have hcq := S1.out.cmp HC.out (by omega) xq yq
        have hv : ¬ cf xq yq < 0 := by rw [hxq, hyq]; exact of_decide_eq_false hlv
        have hd : decide (cf xq yq < 0) = false := decide_eq_false hv
        clear hxq hyq
        go_wp2_with fail
        go_quiet_grown (first | (go_at_fn g; refine Calls.grown_of (hcq _ _)))
        have S2 : Aside (SWK enc k w0 blk off d (grow (wr.drewN nq) osq)) := S1.out.grown nq osq
        clear laq lbq hcq S1
        generalize grow (wr.drewN nq) osq = w2 at S2 ⊢
        clear nq osq
        go_wp2
        go_roundg (j - (h + 1))
        case measure => omega
        case rel => exact ⟨h + 1, j, f', by first | rfl | go_num | (congr 1; omega), by first | rfl | go_num | (congr 1; omega), by omega, by omega, by omega, by omega, Nat.le_refl _, S2, (show Hid _ from by show _ = _; rw [← HO.out]; exact (bs_yes (p := (fun h => !decide (cf d[m]! d[h]! < 0))) hlt HH.out (by simp at hlv ⊢; omega)).symm)⟩
    · have hltz : ¬ (i : Int) < (j : Int) := by omega
      have HI : Hid (bs (fun h => !decide (cf d[m]! d[h]! < 0)) (m - a) (a) (m) = i) := by show _ = _; rw [← HO.out]; exact bs_stop hlt
      clear HO
      obtain rfl : i = j := by omega
      go_wp2_with fail
      go_loopg [17] (m - i) (fun g1 vk wr => ∃ (q : Nat) (dk : Array α), vk = .int .i64 q ∧ i ≤ q ∧ q ≤ m ∧ q - i ≤ g1 ∧ dk.size = d.size ∧ Aside (SWK enc k w0 blk off dk wr) ∧ Hid (dk = mvDown m (m - q) d))
      case atStart => exact ⟨m, d, by first | rfl | go_num | (congr 1; omega), by omega, by omega, by omega, rfl, S1, (show Hid _ from by show _ = _; rw [Nat.sub_self]; rfl)⟩
      case round =>
        clear S1
        obtain ⟨q, dk, rfl, hiq, hqm, hg2, hsk, S1, HD⟩ := hrel
        by_cases hl2 : i < q
        · obtain ⟨qp, rfl⟩ : ∃ qp, q = qp + 1 := ⟨q - 1, by omega⟩
          have hz2 : (i : Int) < (qp : Int) + 1 := by omega
          have rq : IntKind.i64.wrap (qp : Int) = (qp : Int) := by rw [IntKind.wrap_i64]; omega
          have eq1 : ((qp : Int) + 1).toNat = qp + 1 := by omega
          have pq1 : (0 : Int) ≤ (qp : Int) + 1 := by omega
          have bq1 : (qp : Int) + 1 < (d.size : Int) := by omega
          have bq : (qp : Int) < (d.size : Int) := by omega
          have S3 : Aside (SWK enc k w0 blk off (swp dk (qp + 1) (qp)) ((wr.drew.setCells blk (off + (qp + 1) * k) (enc dk[qp]!)).setCells blk (off + (qp) * k) (enc dk[qp + 1]!))) := S1.out.swapped R (qp + 1) (qp) (by omega) (by omega)
          have la := S1.out.ld1 R (by omega) P (qp + 1) (by omega)
          have lb := S1.out.ld1 R (by omega) P (qp) (by omega)
          have sa := S1.out.st1 R (by omega) P (qp + 1) (by omega) dk[qp]!
          have sb := S1.out.st2 R (by omega) P (qp + 1) (qp) (by omega) (by omega) dk[qp]! dk[qp + 1]!
          have na : (enc dk[qp + 1]!).length = k := R.hk _
          have nb : (enc dk[qp]!).length = k := R.hk _
          generalize enc dk[qp + 1]! = cI at S3 la sb na
          generalize enc dk[qp]! = cJ at S3 lb sa sb nb
          clear S1
          go_wp2_with fail
          go_big_region_o
          clear la lb sa sb
          generalize (wr.drew.setCells blk (off + (qp + 1) * k) cJ).setCells blk (off + (qp) * k) cI = w3 at S3 ⊢
          go_wp2
          go_roundg (qp - i)
          case measure => omega
          case rel => exact ⟨qp, swp dk (qp + 1) qp, by first | rfl | go_num | (congr 1; omega), by omega, by omega, by omega, by rw [size_swp]; exact hsk, S3, (show Hid _ from by show _ = _; rw [HD.out]; exact (mvDown_step (by omega)).symm)⟩
        · have hz2 : ¬ (i : Int) < (q : Int) := by omega
          go_wp2
          (try simp only [Exit.inBlock, Exit.then]); refine bodyPost_ret (results_none rfl _ _ _) rfl ?_
          obtain rfl : i = q := by omega
          exact ⟨rfl, by have h := S1.out; rw [HD.out] at h; rw [HI.out]; exact h⟩
end Go.Proofs.YtaiimkcmgiceeaaDoor
