/- Chapter 18: entries.Parse (written by genparsee.py). · Chapter 18: what Parse and Text of an entry that may be are, in one (used by EntriesBack and EntriesText). -/
import Derived.Test.YtdmbjndhdldggaaGreatDoorEpD
import Derived.Test.YtdmbjndhdldggaaGreatDoorEpE
import Derived.Test.YtdmbjndhdldggaaGreatDoorEpG
import Derived.Test.YtdmbjndhdldggaaGreatDoorZc
namespace Go.Proofs.YtdmbjndhdldggaaGreatDoor
set_option linter.unusedVariables false
set_option linter.unusedSimpArgs false
open Go.RowKit Go.Lib Go.Sort

theorem parse_ok (l : List UInt8) (hl : l.length ≤ 4000000) (w : World) (ht : TbQ w) :
    Calls Tryz.prog 7 #[str l] w (fun e w' => NoW w w' ∧ ((e = .returned (.tuple #[.agg #[.int .u8 0, .int .u32 0, .int .u16 0, .int .u32 0, .int .u16 0, .int .u8 0, .int .u32 0, .int .u16 0, .int .u32 0, .int .u16 0, .int .i64 0, .int .i64 0, .slice none 0 0], .int .i64 3]) ∧ NP l) ∨ ∃ (r a p b q r2 a2 p2 b2 q2 st dl n : Nat) (oa op ia ip : Nat → Nat) (o : Option Addr) (c : Nat), e = .returned (.tuple #[.agg #[.int .u8 r, .int .u32 a, .int .u16 p, .int .u32 b, .int .u16 q, .int .u8 r2, .int .u32 a2, .int .u16 p2, .int .u32 b2, .int .u16 q2, .int .i64 (st : Nat), .int .i64 (dl : Nat), .slice o n c], .int .i64 0]) ∧ Parsed l r a p b q r2 a2 p2 b2 q2 st dl n oa op ia ip ∧ n ≤ c ∧ HoldsIn w' o n (holdsV oa op ia ip n))) := by
  by_cases h1 : (pieces 32 l).length < 10
  · exact parse_few l hl _ rfl h1 w ht
  by_cases h2 : 11 < (pieces 32 l).length
  · exact parse_many l hl _ rfl h2 w ht
  rcases hp : pieces 32 l with _ | ⟨p0, _ | ⟨p1, _ | ⟨p2, _ | ⟨p3, _ | ⟨p4, _ | ⟨p5, _ | ⟨p6, _ | ⟨p7, _ | ⟨p8, _ | ⟨h0, _ | ⟨h1', _ | ⟨x, r⟩⟩⟩⟩⟩⟩⟩⟩⟩⟩⟩⟩
  all_goals (rw [hp] at h1 h2; simp at h1 h2)
  · by_cases hb : p3 = [124]
    · exact parse_main1 l hl p0 p1 p2 p3 p4 p5 p6 p7 p8 h0 hp hb w ht
    · exact parse_bar1 l hl p0 p1 p2 p3 p4 p5 p6 p7 p8 h0 hp hb w ht
  · by_cases hb : p3 = [124]
    · exact parse_main2 l hl p0 p1 p2 p3 p4 p5 p6 p7 p8 h0 h1' hp hb w ht
    · exact parse_bar2 l hl p0 p1 p2 p3 p4 p5 p6 p7 p8 h0 h1' hp hb w ht
end Go.Proofs.YtdmbjndhdldggaaGreatDoor
namespace Go.Proofs.YtdmbjndhdldggaaGreatDoor
set_option linter.unusedVariables false
set_option linter.unusedSimpArgs false
open Go.RowKit Go.Lib Go.Sort
theorem holdsV_congr {n : Nat} {oa op ia ip oa' op' ia' ip' : Nat → Nat} (h : ∀ i, i < n → oa i = oa' i ∧ op i = op' i ∧ ia i = ia' i ∧ ip i = ip' i) : holdsV oa op ia ip n = holdsV oa' op' ia' ip' n := by
  induction n with
  | zero => rfl
  | succ n ih =>
    rw [holdsV_succ, holdsV_succ, ih (fun i hi => h i (by omega))]
    obtain ⟨h1, h2, h3, h4⟩ := h n (by omega)
    simp [holdV, h1, h2, h3, h4]
theorem tupB_lt {r p q : Nat} (h : tupB r p q = true) : r < 256 := by
  unfold tupB isWord at h
  simp only [Bool.and_eq_true, decide_eq_true_eq] at h
  omega
theorem toN_pos {f : Nat} {s : Int} (h : 0 < toN f s) : 0 ≤ s ∧ s ≤ 7 := by
  unfold toN at h
  split at h
  · assumption
  · omega
section
variable {l : List UInt8} {r a p b q r2 a2 p2 b2 q2 st dl n : Nat} {oa op ia ip : Nat → Nat}
theorem Parsed.short (h : Parsed l r a p b q r2 a2 p2 b2 q2 st dl n oa op ia ip) : l.length ≤ 1200 := by
  obtain ⟨o1, o2, o3, o4⟩ := h.o
  obtain ⟨y1, y2, y3, y4⟩ := h.y
  have h6 := (chkB_parts h.chk).2.2.2.2.2.1
  have h7 := (chkB_parts h.chk).2.2.2.2.2.2
  have h5 := toN_pos (chkB_parts h.chk).2.2.2.2.1
  have t1 := tupT_len r a p b q o1 (by omega) o3 (by omega)
  have t2 := tupT_len r2 a2 p2 b2 q2 y1 (by omega) y3 (by omega)
  have t3 := dec_len 20 st (by omega) (by omega)
  have t4 := dec_len 20 dl (by omega) (by omega)
  have := joinB_len 100 (rowsT r a p b q r2 a2 p2 b2 q2 st dl oa op ia ip n) (fun x hx => by
    simp only [rowsT, List.mem_append, List.mem_cons, List.not_mem_nil, or_false, List.mem_map, List.mem_range] at hx
    rcases hx with (rfl | rfl | rfl | rfl | rfl) | ⟨i, hi, rfl⟩
    · exact t1
    · simp
    · exact t2
    · omega
    · omega
    · obtain ⟨g1, g2, g3, g4⟩ := h.h i hi
      have w1 := withT_len (oa i) (op i) g1 (by omega)
      have w2 := withT_len (ia i) (ip i) g3 (by omega)
      simp only [holdT, List.length_append, List.length_cons, List.length_nil]; omega)
  have e : (rowsT r a p b q r2 a2 p2 b2 q2 st dl oa op ia ip n).length = 5 + n := by simp [rowsT]; omega
  rw [e] at this
  have : (5 + n) * 101 ≤ 7 * 101 := Nat.mul_le_mul_right _ (by omega)
  rw [h.text]
  unfold entT; omega
theorem check_is (h : Parsed l r a p b q r2 a2 p2 b2 q2 st dl n oa op ia ip) (o : Option Addr) (c : Nat) (W : World) (hW : Tb W) :
    Calls Tryz.prog 16 #[.agg #[.int .u8 r, .int .u32 a, .int .u16 p, .int .u32 b, .int .u16 q, .int .u8 r2, .int .u32 a2, .int .u16 p2, .int .u32 b2, .int .u16 q2, .int .i64 (st : Nat), .int .i64 (dl : Nat), .slice o n c]] W (Ret1 (.int .i64 0) W) := by
  have := check_ok r a p b q r2 a2 p2 b2 q2 st dl o n c (tupB_lt (chkB_parts h.chk).1) (tupB_lt (chkB_parts h.chk).2.1) W hW
  rwa [h.chk, if_pos rfl] at this
theorem text_is (h : Parsed l r a p b q r2 a2 p2 b2 q2 st dl n oa op ia ip) (o : Option Addr) (c : Nat) (W : World) (hW : Tb W) (hh : HoldsIn W o n (holdsV oa op ia ip n)) :
    Calls Tryz.prog 6 #[.agg #[.int .u8 r, .int .u32 a, .int .u16 p, .int .u32 b, .int .u16 q, .int .u8 r2, .int .u32 a2, .int .u16 p2, .int .u32 b2, .int .u16 q2, .int .i64 (st : Nat), .int .i64 (dl : Nat), .slice o n c]] W (Ret1 (str l) W) := by
  obtain ⟨h1, h2, _, _, h5, h6, h7, h8⟩ := chkB_parts h.chk
  obtain ⟨o1, o2, o3, o4⟩ := h.o
  obtain ⟨y1, y2, y3, y4⟩ := h.y
  obtain ⟨hb, ho, rfl, hh'⟩ := hh (by omega)
  have h5' := toN_pos h5
  have e := ent_text r a p b q r2 a2 p2 b2 q2 st dl oa op ia ip hb ho n c (holdsV oa op ia ip n) (tupB_lt h1) (tupB_lt h2) o1 (by omega) o3 (by omega) y1 (by omega) y3 (by omega) (by omega) (by omega) (by omega) h1 h2
    (fun i hi => by
      obtain ⟨g1, g2, g3, g4⟩ := h.h i hi
      refine ⟨⟨?_, ?_, ?_, ?_⟩, g1, by omega, g3, by omega⟩
      · have := holdsV_get oa op ia ip n i 0 hi (by omega); simpa [holdV] using this
      · have := holdsV_get oa op ia ip n i 1 hi (by omega); simpa [holdV] using this
      · have := holdsV_get oa op ia ip n i 2 hi (by omega); simpa [holdV] using this
      · have := holdsV_get oa op ia ip n i 3 hi (by omega); simpa [holdV] using this) W hW hh' (fun W hW => check_is h _ _ W hW)
  rw [← h.text] at e
  exact e
theorem parse_is (h : Parsed l r a p b q r2 a2 p2 b2 q2 st dl n oa op ia ip) (hl : l.length ≤ 4000000) (W : World) (hW : TbQ W) :
    Calls Tryz.prog 7 #[str l] W fun e w' => ∃ o c, e = .returned (.tuple #[.agg #[.int .u8 r, .int .u32 a, .int .u16 p, .int .u32 b, .int .u16 q, .int .u8 r2, .int .u32 a2, .int .u16 p2, .int .u32 b2, .int .u16 q2, .int .i64 (st : Nat), .int .i64 (dl : Nat), .slice o n c], .int .i64 0]) ∧ HoldsIn w' o n (holdsV oa op ia ip n) ∧ NoW W w' :=
  (parse_ok l hl W hW).mono fun e w' ⟨hn, h2⟩ => by
    rcases h2 with ⟨_, hnp⟩ | ⟨r', a', p', b', q', r2', a2', p2', b2', q2', st', dl', n', oa', op', ia', ip', o, c, he, hp, _, hh⟩
    · exact absurd h (hnp _ _ _ _ _ _ _ _ _ _ _ _ _ _ _ _ _)
    · obtain ⟨⟨rfl, rfl, rfl, rfl, rfl⟩, ⟨rfl, rfl, rfl, rfl, rfl⟩, rfl, rfl, rfl, hF⟩ := parsed_inj h hp
      rw [← holdsV_congr hF] at hh
      exact ⟨o, c, he, hh, hn⟩
end
theorem parse_np (l : List UInt8) (hl : l.length ≤ 4000000) (hnp : NP l) (W : World) (hW : TbQ W) :
    Calls Tryz.prog 7 #[str l] W (Ret1 (.tuple #[.agg #[.int .u8 0, .int .u32 0, .int .u16 0, .int .u32 0, .int .u16 0, .int .u8 0, .int .u32 0, .int .u16 0, .int .u32 0, .int .u16 0, .int .i64 0, .int .i64 0, .slice none 0 0], .int .i64 3]) W) :=
  (parse_ok l hl W hW).mono fun e w' ⟨hn, h2⟩ => by
    rcases h2 with ⟨he, _⟩ | ⟨r', a', p', b', q', r2', a2', p2', b2', q2', st', dl', n', oa', op', ia', ip', o, c, he, hp, _, hh⟩
    · exact ⟨he, hn⟩
    · exact absurd hp (hnp _ _ _ _ _ _ _ _ _ _ _ _ _ _ _ _ _)
theorem np_or (l : List UInt8) : NP l ∨ ∃ (r a p b q r2 a2 p2 b2 q2 st dl n : Nat) (oa op ia ip : Nat → Nat), Parsed l r a p b q r2 a2 p2 b2 q2 st dl n oa op ia ip := by
  by_cases h : NP l
  · exact .inl h
  · refine .inr ?_
    unfold NP at h
    simp only [Classical.not_forall, Classical.not_not] at h
    exact h
/-- The entry that came in and may be, as one that may be read. -/
theorem parsed_of {w : World} {r a p b q r2 a2 p2 b2 q2 : Nat} {st dl : Int} {ad : Option Addr} {n c : Nat} {oa op ia ip : Nat → Nat} (ho : r < 256 ∧ a < 4294967296 ∧ p < 65536 ∧ b < 4294967296 ∧ q < 65536) (hy : r2 < 256 ∧ a2 < 4294967296 ∧ p2 < 65536 ∧ b2 < 4294967296 ∧ q2 < 65536) (hx : HoldsOk w ad n c oa op ia ip)
    (hc : chkB r p q r2 p2 q2 (decide (r = r2 ∧ a = a2 ∧ p = p2 ∧ b = b2 ∧ q = q2)) st dl n = true) :
    ∃ sn dn : Nat, st = sn ∧ dl = dn ∧ Parsed (entT r a p b q r2 a2 p2 b2 q2 sn dn oa op ia ip n) r a p b q r2 a2 p2 b2 q2 sn dn n oa op ia ip := by
  obtain ⟨_, _, _, _, h5, h6, _⟩ := chkB_parts hc
  have h5' := toN_pos h5
  refine ⟨st.toNat, dl.toNat, by omega, by omega, rfl, ?_, ⟨ho.2.1, by omega, ho.2.2.2.1, by omega⟩, ⟨hy.2.1, by omega, hy.2.2.2.1, by omega⟩, fun i hi => ?_⟩
  · rw [show ((st.toNat : Nat) : Int) = st by omega, show ((dl.toNat : Nat) : Int) = dl by omega]
    exact hc
  · obtain ⟨g1, g2, g3, g4⟩ := hx.fit i hi
    exact ⟨g1, by omega, g3, by omega⟩
end Go.Proofs.YtdmbjndhdldggaaGreatDoor
