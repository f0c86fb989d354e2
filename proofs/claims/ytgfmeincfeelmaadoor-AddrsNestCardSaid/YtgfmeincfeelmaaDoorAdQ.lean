/- Chapter 03: the document's Parse. -/
import Derived.Test.YtgfmeincfeelmaaDoorAdK
namespace Go.Proofs.YtgfmeincfeelmaaDoor
set_option linter.unusedVariables false
set_option linter.unusedSimpArgs false
open Go.RowKit Go.Lib Go.Sort

/-- The loop's state, k rounds over. -/
structure RdAt (l : List UInt8) (k : Nat) (s : List UInt8) (a : Nat) : Prop where
  len : s.length ≤ l.length
  go : k < 4 → (match rd (3 - k) s with | some v => some (a + v * 256 ^ k) | none => none) = addrOf l ∧ a < 256 ^ k
  done : k = 4 → addrOf l = some a

theorem RdAt.none1 {l s : List UInt8} {k a : Nat} (h : RdAt l k s a) (hk : k < 4) (hr : rd (3 - k) s = none) : addrOf l = none := by
  have := (h.go hk).1
  rw [hr] at this
  exact this.symm
theorem RdAt.step {l s x y : List UInt8} {k a n : Nat} (h : RdAt l k s a) (hk : k < 3) (hc : cutLast 46 s = some (x, y)) (hn : num 255 y = some n) : RdAt l (k + 1) x (a + n * 256 ^ k) := by
  obtain ⟨h1, h2⟩ := h.go (by omega)
  have hn2 := (num_some.1 hn).2
  obtain ⟨hs, _⟩ := cutLast_some.1 hc
  have e : 3 - k = (3 - (k + 1)) + 1 := by omega
  have hr : rd (3 - k) s = match rd (3 - (k + 1)) x with | none => none | some v => some (v * 256 + n) := by rw [e, rd, hc]; simp only [hn]; cases rd (3 - (k + 1)) x <;> rfl
  refine ⟨by have := h.len; rw [hs] at this; simp at this; omega, fun _ => ⟨?_, ?_⟩, fun h => by omega⟩
  · rw [← h1, hr]
    rcases rd (3 - (k + 1)) x with _ | v
    · rfl
    · simp only [Option.some.injEq]
      rw [Nat.add_mul, Nat.pow_succ, Nat.mul_assoc v 256, Nat.mul_comm 256 (256 ^ k)]
      omega
  · rw [Nat.pow_succ]
    have : n * 256 ^ k ≤ 255 * 256 ^ k := Nat.mul_le_mul_right _ hn2
    omega

set_option maxHeartbeats 2000000 in
theorem rt_parse (l : List UInt8) (hl : l.length ≤ 4294967000) (w : World) :
    Calls Tryd.prog 10 #[str l] w (Ret1 (adV (addrOf l)) w) := by
  have hst : RdAt l 0 l 0 := ⟨Nat.le_refl _, fun _ => ⟨by simp only [Nat.sub_zero, rd3]; cases addrOf l <;> simp, by simp⟩, fun h => by omega⟩
  have Hst := Lib.hid hst
  clear hst
  go_enter Tryd.func10, Tryd.ntmps10
  go_wp2_with fail
  go_loopg [0, 4, 5, 6] 5 (fun g s a sc i wx => ∃ (k : Nat) (s' : List UInt8) (b : Nat), k ≤ 4 ∧ g = 5 - k ∧ s = str s' ∧ a = .int .u32 b ∧ sc = .int .u32 ((256 ^ k % 4294967296 : Nat) : Int) ∧ i = .int .i64 k ∧ RdAt l k s' b ∧ NoW w wx)
  case atStart => exact ⟨0, l, 0, by omega, rfl, rfl, rfl, by simp, rfl, Hst.out, Fp.refl _ _⟩
  case round =>
    obtain ⟨k, s, b, hk, hg, rfl, rfl, rfl, rfl, hr, hf⟩ := hrel
    have Hg := Lib.hid hg
    have Hr := Lib.hid hr
    have Hf := Lib.hid hf
    have hsl := hr.len
    clear hg hr hf Hst
    by_cases hlt : k < 3
    · go_wp2_with fail
      refine (rt_cut s (by omega) 46 _).mono ?_
      rintro e w1 ⟨rfl, hp1⟩
      have Hp1 := Lib.hid (Hf.out.trans hp1 (fun _ _ h => h))
      clear hp1
      have hpw : 256 ^ k ≤ 65536 := Nat.le_trans (Nat.pow_le_pow_right (by omega) (show k ≤ 2 by omega)) (by decide)
      have hbl := (Hr.out.go (by omega)).2
      have hsc : 256 ^ k % 4294967296 = 256 ^ k := Nat.mod_eq_of_lt (by omega)
      have hsc2 : 256 ^ (k + 1) % 4294967296 = 256 ^ k * 256 := by rw [Nat.pow_succ, Nat.mod_eq_of_lt (by omega)]
      have Hsc2 := Lib.hid hsc2
      obtain ⟨q, hq⟩ : ∃ q : Nat, q = 256 ^ k := ⟨_, rfl⟩
      rw [hsc, ← hq]
      rw [← hq] at hpw hbl Hsc2
      have Hq := Lib.hid hq
      clear hsc hsc2 hq
      rcases hc : cutLast 46 s with _ | ⟨x, y⟩
      · have hno := Hr.out.none1 (by omega) (by rw [show 3 - k = 3 - (k + 1) + 1 by omega, rd, hc])
        have Hno := Lib.hid hno
        clear hno hc
        unfold cutV
        go_wp2_with fail
        refine bodyPost_ret (v := .tuple #[.int .u32 0, .int .i64 3]) (by simp [results, Tryd.results10, go_sem]) rfl ⟨by rw [Hno.out]; rfl, Hp1.out⟩
      · have hys : y.length ≤ s.length := by have := (cutLast_some.1 hc).1; rw [this]; simp; omega
        have Hc := Lib.hid hc
        clear hc
        unfold cutV
        go_wp2_with fail
        refine (rt_number y (by omega) 255 (by omega) _).mono ?_
        rintro e w2 ⟨rfl, hp2⟩
        have Hp2 := Lib.hid (Hp1.out.trans hp2 (fun _ _ h => h))
        clear hp2
        rcases hn : num 255 y with _ | n
        · have hno := Hr.out.none1 (by omega) (by rw [show 3 - k = 3 - (k + 1) + 1 by omega, rd, Hc.out]; simp only [hn])
          have Hno := Lib.hid hno
          clear hno hn
          unfold numV
          go_wp2_with fail
          refine bodyPost_ret (v := .tuple #[.int .u32 0, .int .i64 3]) (by simp [results, Tryd.results10, go_sem]) rfl ⟨by rw [Hno.out]; rfl, Hp2.out⟩
        · have hn2 := (num_some.1 hn).2
          have hst := Hr.out.step hlt Hc.out hn
          have Hst := Lib.hid hst
          rw [← Hq.out] at Hst
          have hmul : n * q ≤ 255 * 65536 := Nat.mul_le_mul hn2 hpw
          clear hst hn
          unfold numV
          have hw1 : (n : Int) * (q : Int) = ((n * q : Nat) : Int) := (Int.natCast_mul _ _).symm
          generalize n * q = m at *
          go_wp2_with fail
          go_roundg (4 - k)
          case measure => have := Hg.out; omega
          case rel => exact ⟨k + 1, x, b + m, by omega, by omega, rfl, by go_num, by rw [Hsc2.out]; go_num, by go_num, Hst.out, Hp2.out⟩
    · by_cases h3 : k = 3
      · subst h3
        obtain ⟨hgo, hbl⟩ := Hr.out.go (by omega)
        have hbl2 : b < 16777216 := hbl
        clear hbl hlt
        go_wp2_with fail
        refine (rt_number s (by omega) 255 (by omega) _).mono ?_
        rintro e w2 ⟨rfl, hp2⟩
        have Hp2 := Lib.hid (Hf.out.trans hp2 (fun _ _ h => h))
        clear hp2
        rcases hn : num 255 s with _ | n
        · have hno : addrOf l = none := by rw [← hgo]; simp only [Nat.sub_self, rd, hn]
          have Hno := Lib.hid hno
          clear hno hn hgo
          unfold numV
          go_wp2_with fail
          refine bodyPost_ret (v := .tuple #[.int .u32 0, .int .i64 3]) (by simp [results, Tryd.results10, go_sem]) rfl ⟨by rw [Hno.out]; rfl, Hp2.out⟩
        · have hn2 := (num_some.1 hn).2
          have hst : RdAt l 4 s (b + n * 16777216) := ⟨Nat.le_trans hsl (Nat.le_refl _), fun h => by omega, fun _ => by rw [← hgo]; simp only [Nat.sub_self, rd, hn]⟩
          have Hst := Lib.hid hst
          clear hst hn hgo
          unfold numV
          go_wp2_with fail
          go_roundg 1
          case measure => have := Hg.out; omega
          case rel => exact ⟨4, s, b + n * 16777216, by omega, by omega, rfl, by go_num, by rfl, by rfl, Hst.out, Hp2.out⟩
      · obtain rfl : k = 4 := by omega
        have hd := Hr.out.done rfl
        have Hd := Lib.hid hd
        clear hd h3 hlt
        go_wp2_with fail
        refine bodyPost_ret (v := .tuple #[.int .u32 b, .int .i64 0]) (by simp [results, Tryd.results10, go_sem]) rfl ⟨by rw [Hd.out]; rfl, Hf.out⟩
end Go.Proofs.YtgfmeincfeelmaaDoor
