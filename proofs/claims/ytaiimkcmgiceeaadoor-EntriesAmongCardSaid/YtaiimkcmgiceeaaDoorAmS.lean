/- Chapter 18, EntriesAmong: the library's symMerge (written by genams.py). -/
import Derived.Test.YtaiimkcmgiceeaaDoorAmR
namespace Go.Proofs.YtaiimkcmgiceeaaDoor
set_option linter.unusedVariables false
set_option linter.unusedSimpArgs false
open Go.RowKit Go.Lib Go.Sort Go.Shelf
variable {α : Type} [Inhabited α]
/-- The search by halves. -/
def bs (p : Nat → Bool) : Nat → Nat → Nat → Nat
  | 0, i, _ => i
  | f + 1, i, j => if i < j then (if p ((i + j) / 2) then bs p f ((i + j) / 2 + 1) j else bs p f i ((i + j) / 2)) else i
theorem bs_stop {p : Nat → Bool} {f i j : Nat} (h : ¬ i < j) : bs p f i j = i := by
  cases f with
  | zero => rfl
  | succ f => rw [bs, if_neg h]
theorem bs_yes {p : Nat → Bool} {f i j h : Nat} (hl : i < j) (hh : h = (i + j) / 2) (hp : p h = true) : bs p (f + 1) i j = bs p f (h + 1) j := by subst hh; rw [bs, if_pos hl, if_pos hp]
theorem bs_no {p : Nat → Bool} {f i j h : Nat} (hl : i < j) (hh : h = (i + j) / 2) (hp : p h = false) : bs p (f + 1) i j = bs p f i h := by subst hh; rw [bs, if_pos hl, if_neg (by rw [hp]; exact Bool.false_ne_true)]
/-- The one at a goes n places up; the one at m, n places down. -/
def mvUp (a : Nat) : Nat → Array α → Array α
  | 0, d => d
  | n + 1, d => swp (mvUp a n d) (a + n) (a + n + 1)
theorem mvUp_step {a q : Nat} {d : Array α} (h : a ≤ q) : mvUp a (q + 1 - a) d = swp (mvUp a (q - a) d) q (q + 1) := by
  rw [show q + 1 - a = (q - a) + 1 by omega, mvUp, show a + (q - a) = q by omega]
def mvDown (m : Nat) : Nat → Array α → Array α
  | 0, d => d
  | n + 1, d => swp (mvDown m n d) (m - n) (m - n - 1)
theorem mvDown_step {m q : Nat} {d : Array α} (h : q + 1 ≤ m) : mvDown m (m - q) d = swp (mvDown m (m - (q + 1)) d) (q + 1) q := by
  rw [show m - q = (m - (q + 1)) + 1 by omega, mvDown, show m - (m - (q + 1)) = q + 1 by omega, show q + 1 - 1 = q by omega]
theorem size_mvUp (a n : Nat) (d : Array α) : (mvUp a n d).size = d.size := by
  induction n with
  | zero => rfl
  | succ n ih => rw [mvUp, size_swp, ih]
theorem size_mvDown (a n : Nat) (d : Array α) : (mvDown a n d).size = d.size := by
  induction n with
  | zero => rfl
  | succ n ih => rw [mvDown, size_swp, ih]
set_option maxHeartbeats 64000000 in
set_option maxRecDepth 1000000 in
theorem sym_a {P : Program} {k : Nat} (L : SrtL P k) (enc : α → List Value) (cf : α → α → Int) (g : Nat) (cb : Array Value) (blk off cap a m b : Nat) (d0 d : Array α) (w0 w : World) (eg : ∀ args w, (callFunc g args).run P w = .ok (.enter g args) w) (hcmp : CmpLays P g cb enc k cf blk off d0.size w0) (R : RowK enc k w0 blk off d0) (hs : d0.size = d.size) (S : SWK enc k w0 blk off d w)
    (ham : a < m) (hmb : m < b) (hb : b ≤ d.size) (hsz : d.size < 2305843009213693952) (h1 : m = a + 1) :
    Calls P 56 #[.slice (some ⟨blk, off, none⟩) d.size cap, .int .i64 a, .int .i64 m, .int .i64 b, .func (.func g) #[] cb] w fun e w' => e = .returned (.tuple #[]) ∧ SWK enc k w0 blk off (mvUp a (bs (fun h => decide (cf d[h]! d[a]! < 0)) (b - m) m b - 1 - a) d) w' := by
  have mixed := L.mixed; have t0 := L.t0; have a0 := L.a0; have z0 := L.z0; have v0 := L.v0; have t3 := L.t3; have a3 := L.a3; have z3 := L.z3; have v3 := L.v3; have t4 := L.t4; have a4 := L.a4; have z4 := L.z4; have v4 := L.v4; have t5 := L.t5; have a5 := L.a5; have z5 := L.z5; have t22 := L.t22; have a22 := L.a22; have z22 := L.z22; have v22 := L.v22; have t25 := L.t25; have a25 := L.a25; have z25 := L.z25; have v25 := L.v25; have aE := L.aE; have zE := L.zE
  have u22 := run_underlying L.t22; have u3 := run_underlying L.t3; have u4 := run_underlying L.t4; have u5 := run_underlying L.t5
  have HC : Aside _ := hcmp
  have S0 : Aside _ := S
  clear S hcmp
  have FG := L.fsy
  have rma : IntKind.i64.wrap ((m : Int) - (a : Int)) = (1 : Int) := by rw [IntKind.wrap_i64]; omega
  clear h1
  go_enter FG, Tryd.ntmps56
  go_wp2
  clear rma
  go_loopg [10, 11] (b - m) (fun g1 vi vj wr => ∃ (i j f : Nat), vi = .int .i64 i ∧ vj = .int .i64 j ∧ m ≤ i ∧ i ≤ j ∧ j ≤ b ∧ j - i ≤ f ∧ j - i ≤ g1 ∧ Aside (SWK enc k w0 blk off d wr) ∧ Hid (bs (fun h => decide (cf d[h]! d[a]! < 0)) f i j = bs (fun h => decide (cf d[h]! d[a]! < 0)) (b - m) (m) (b)))
  case atStart => exact ⟨m, b, b - m, by first | rfl | go_num | (congr 1; omega), by first | rfl | go_num | (congr 1; omega), by omega, by omega, by omega, by omega, by omega, S0, rfl⟩
  case round =>
    clear S0
    obtain ⟨i, j, f, rfl, rfl, hi0, hij, hj0, hf, hg1, S1, HO⟩ := hrel
    by_cases hlt : i < j
    · have hltz : (i : Int) < (j : Int) := by omega
      obtain ⟨f', rfl⟩ : ∃ f', f = f' + 1 := ⟨f - 1, by omega⟩
      obtain ⟨h, hh⟩ : ∃ h, h = (i + j) / 2 := ⟨_, rfl⟩
      have hz : ((i : Int) + (j : Int)) / 2 = (h : Int) := by omega
      have hi1 : i ≤ h := by omega
      have hi2 : h < j := by omega
      have HH := Lib.hid hh
      clear hh
      have rij : IntKind.i64.wrap ((i : Int) + (j : Int)) = (i : Int) + (j : Int) := by rw [IntKind.wrap_i64]; omega
      have rh : IntKind.i64.wrap ((h : Int) + 1) = (h : Int) + 1 := by rw [IntKind.wrap_i64]; omega
      have xh : (0 : Int) ≤ (h : Int) := by omega
      have bh : (h : Int) < (d.size : Int) := by omega
      have xa : (0 : Int) ≤ (a : Int) := by omega
      have ba : (a : Int) < (d.size : Int) := by omega
      cases hlv : decide (cf d[h]! d[a]! < 0) with
      | true =>
        obtain ⟨xq, hxq⟩ : ∃ x, x = d[h]! := ⟨_, rfl⟩
        obtain ⟨yq, hyq⟩ : ∃ x, x = d[a]! := ⟨_, rfl⟩
        have laq := S1.out.ld R (by omega) P (h) (by omega)
        have lbq := S1.out.ld R (by omega) P (a) (by omega)
        rw [← hxq] at laq
        rw [← hyq] at lbq
        have hcq := S1.out.cmp HC.out (by omega) xq yq
        have hv : cf xq yq < 0 := by rw [hxq, hyq]; exact of_decide_eq_true hlv
        have hd : decide (cf xq yq < 0) = true := decide_eq_true hv
        clear hxq hyq
        go_wp2_with fail
        go_quiet_grown (first | (go_at_fn g; refine Calls.grown_of (hcq _ _)))
        have S2 : Aside (SWK enc k w0 blk off d (grow (wr.drewN nq) osq)) := S1.out.grown nq osq
        clear laq lbq hcq S1
        generalize grow (wr.drewN nq) osq = w2 at S2 ⊢
        clear nq osq
        go_wp2
        go_roundg (j - (h + 1))
        case measure => omega
        case rel => exact ⟨h + 1, j, f', by first | rfl | go_num | (congr 1; omega), by first | rfl | go_num | (congr 1; omega), by omega, by omega, by omega, by omega, Nat.le_refl _, S2, (show Hid _ from by show _ = _; rw [← HO.out]; exact (bs_yes (p := (fun h => decide (cf d[h]! d[a]! < 0))) hlt HH.out (by simp at hlv ⊢; omega)).symm)⟩
      | false =>
        obtain ⟨xq, hxq⟩ : ∃ x, x = d[h]! := ⟨_, rfl⟩
        obtain ⟨yq, hyq⟩ : ∃ x, x = d[a]! := ⟨_, rfl⟩
        have laq := S1.out.ld R (by omega) P (h) (by omega)
        have lbq := S1.out.ld R (by omega) P (a) (by omega)
        rw [← hxq] at laq
        rw [← hyq] at lbq
        have hcq := S1.out.cmp HC.out (by omega) xq yq
        have hv : ¬ cf xq yq < 0 := by rw [hxq, hyq]; exact of_decide_eq_false hlv
        have hd : decide (cf xq yq < 0) = false := decide_eq_false hv
        clear hxq hyq
        go_wp2_with fail
        go_quiet_grown (first | (go_at_fn g; refine Calls.grown_of (hcq _ _)))
        have S2 : Aside (SWK enc k w0 blk off d (grow (wr.drewN nq) osq)) := S1.out.grown nq osq
        clear laq lbq hcq S1
        generalize grow (wr.drewN nq) osq = w2 at S2 ⊢
        clear nq osq
        go_wp2
        go_roundg (h - i)
        case measure => omega
        case rel => exact ⟨i, h, f', by first | rfl | go_num | (congr 1; omega), by first | rfl | go_num | (congr 1; omega), by omega, by omega, by omega, by omega, Nat.le_refl _, S2, (show Hid _ from by show _ = _; rw [← HO.out]; exact (bs_no (p := (fun h => decide (cf d[h]! d[a]! < 0))) hlt HH.out (by simp at hlv ⊢; omega)).symm)⟩
    · have hltz : ¬ (i : Int) < (j : Int) := by omega
      have HI : Hid (bs (fun h => decide (cf d[h]! d[a]! < 0)) (b - m) (m) (b) = i) := by show _ = _; rw [← HO.out]; exact bs_stop hlt
      clear HO
      obtain rfl : i = j := by omega
      go_wp2_with fail
      go_loopg [13] (i - 1 - a) (fun g1 vk wr => ∃ (q : Nat) (dk : Array α), vk = .int .i64 q ∧ a ≤ q ∧ q + 1 ≤ i ∧ i - 1 - q ≤ g1 ∧ dk.size = d.size ∧ Aside (SWK enc k w0 blk off dk wr) ∧ Hid (dk = mvUp a (q - a) d))
      case atStart => exact ⟨a, d, by first | rfl | go_num | (congr 1; omega), by omega, by omega, by omega, rfl, S1, (show Hid _ from by show _ = _; rw [Nat.sub_self]; rfl)⟩
      case round =>
        clear S1
        obtain ⟨q, dk, rfl, haq, hqi, hg2, hsk, S1, HD⟩ := hrel
        have ri : IntKind.i64.wrap ((i : Int) - 1) = (i : Int) - 1 := by rw [IntKind.wrap_i64]; omega
        by_cases hl2 : q + 1 < i
        · have hz2 : (q : Int) < (i : Int) - 1 := by omega
          have rq : IntKind.i64.wrap ((q : Int) + 1) = (q : Int) + 1 := by rw [IntKind.wrap_i64]; omega
          have eq1 : ((q : Int) + 1).toNat = q + 1 := by omega
          have pq1 : (0 : Int) ≤ (q : Int) + 1 := by omega
          have bq1 : (q : Int) + 1 < (d.size : Int) := by omega
          have bq : (q : Int) < (d.size : Int) := by omega
          have S3 : Aside (SWK enc k w0 blk off (swp dk (q) (q + 1)) ((wr.drew.setCells blk (off + (q) * k) (enc dk[q + 1]!)).setCells blk (off + (q + 1) * k) (enc dk[q]!))) := S1.out.swapped R (q) (q + 1) (by omega) (by omega)
          have la := S1.out.ld1 R (by omega) P (q) (by omega)
          have lb := S1.out.ld1 R (by omega) P (q + 1) (by omega)
          have sa := S1.out.st1 R (by omega) P (q) (by omega) dk[q + 1]!
          have sb := S1.out.st2 R (by omega) P (q) (q + 1) (by omega) (by omega) dk[q + 1]! dk[q]!
          have na : (enc dk[q]!).length = k := R.hk _
          have nb : (enc dk[q + 1]!).length = k := R.hk _
          generalize enc dk[q]! = cI at S3 la sb na
          generalize enc dk[q + 1]! = cJ at S3 lb sa sb nb
          clear S1
          go_wp2_with fail
          go_big_region_o
          clear la lb sa sb
          generalize (wr.drew.setCells blk (off + (q) * k) cJ).setCells blk (off + (q + 1) * k) cI = w3 at S3 ⊢
          go_wp2
          go_roundg (i - 1 - (q + 1))
          case measure => omega
          case rel => exact ⟨q + 1, swp dk q (q + 1), by first | rfl | go_num | (congr 1; omega), by omega, by omega, by omega, by rw [size_swp]; exact hsk, S3, (show Hid _ from by show _ = _; rw [HD.out]; exact (mvUp_step haq).symm)⟩
        · have hz2 : ¬ (q : Int) < (i : Int) - 1 := by omega
          go_wp2
          (try simp only [Exit.inBlock, Exit.then]); refine bodyPost_ret (results_none rfl _ _ _) rfl ?_
          obtain rfl : i = q + 1 := by omega
          exact ⟨rfl, by have h := S1.out; rw [HD.out] at h; rw [HI.out]; exact h⟩
end Go.Proofs.YtaiimkcmgiceeaaDoor
