/- Chapter 18: EntriesBack, any arguments (written by genback18.py). -/
import Derived.Test.YtdmbjndhdldggaaDoorEbW
import Derived.Test.YtdmbjndhdldggaaDoorEbP
import Derived.Test.YtdmbjndhdldggaaDoorSeeE
namespace Go.Proofs.YtdmbjndhdldggaaDoor
set_option linter.unusedVariables false
set_option linter.unusedSimpArgs false
open Go.RowKit Go.Lib Go.Sort
set_option maxHeartbeats 1000000 in
theorem walk_EntriesBack (w : World) (ht : TbQ w) (v0 v1 : Value) (g0 : Good Tryd.prog w 31 v0) (g1 : Good Tryd.prog w 9 v1) : Calls Tryd.prog 7 #[v0, v1] w (Ret1 (.bool true) w) := by
  obtain ⟨r, a, p, b, q, r2, a2, p2, b2, q2, st, dl, ad, n, c, oa, op, ia, ip, rfl, ho, hy, hst, hdl, hxo⟩ := ent_open g0
  obtain ⟨s, rfl, _⟩ := good_string Tryd.underlying9 g1
  obtain ⟨l, rfl, hs⟩ := str_of s
  clear g1 hs
  have hcm : n ≤ maxLen := Nat.le_trans hxo.nc hxo.cm
  have hx : HoldsIn w ad n (holdsV oa op ia ip n) := hxo.at'
  rcases hL : longB 1 (fun _ => n) 1 with _ | _
  · have hn5 : n ≤ 5 := by
      simp only [longB, Bool.or_eq_false_iff, List.any_eq_false] at hL
      have h0 := hL.1 0 (by simp)
      simpa using h0
    by_cases hl : l.length ≤ 300
    · rcases hc : chkB r p q r2 p2 q2 (decide (r = r2 ∧ a = a2 ∧ p = p2 ∧ b = b2 ∧ q = q2)) st dl n with _ | _
      · have kck := fun W (hW : TbQ W) => check_ok r a p b q r2 a2 p2 b2 q2 st dl ad n c ho.1 hy.1 W hW.toP.base
        rw [hc, if_neg (by simp)] at kck
        exact back_bad r a p b q r2 a2 p2 b2 q2 st dl ad n c l hcm hL hl w ht (fun W hW _ => text_bad r a p b q r2 a2 p2 b2 q2 st dl ad n c W (fun W' hN => kck W' (hW.low hN))) (fun W hW => parse_np [] (by simp) np_nil W hW) kck
      · obtain ⟨sn, dn, rfl, rfl, hp⟩ := parsed_of ho hy hxo hc
        have hsm := hp.short
        have ktx := fun W (hW : TbQ W) (hN : NoW w W) => text_is hp ad c W hW.toP.base (hx.low hN)
        have kpt := fun W (hW : TbQ W) => parse_is hp (by omega) W hW
        have kck := fun W (hW : TbQ W) => check_is hp ad c W hW.toP.base
        have ksm : ∀ W o c', NoW w W → HoldsIn W o n (holdsV oa op ia ip n) → Calls Tryd.prog 29 #[.agg #[.int .u8 r, .int .u32 a, .int .u16 p, .int .u32 b, .int .u16 q, .int .u8 r2, .int .u32 a2, .int .u16 p2, .int .u32 b2, .int .u16 q2, .int .i64 (sn : Nat), .int .i64 (dn : Nat), .slice ad n c], .agg #[.int .u8 r, .int .u32 a, .int .u16 p, .int .u32 b, .int .u16 q, .int .u8 r2, .int .u32 a2, .int .u16 p2, .int .u32 b2, .int .u16 q2, .int .i64 (sn : Nat), .int .i64 (dn : Nat), .slice o n c']] W (Ret1 (.bool true) W) := fun W o c' hN hh => by
          have h := same_ok r a p b q r2 a2 p2 b2 q2 r a p b q r2 a2 p2 b2 q2 sn dn sn dn ad o n c n c' oa op ia ip oa op ia ip hst hst (by omega) W (hx.low hN) hh
          rw [eqHolds_yes (fun k _ => ⟨rfl, rfl, rfl, rfl⟩)] at h
          simpa using h
        rcases np_or l with hnp | ⟨r5, a5, p5, b5, q5, r6, a6, p6, b6, q6, s5, d5, n5, oa3, op3, ia3, ip3, hz⟩
        · exact back_np r a p b q r2 a2 p2 b2 q2 sn dn ad n c oa op ia ip _ l hcm hL hl w ht ktx kpt kck ksm (fun W hW => parse_np l (by omega) hnp W hW)
        · exact back_yes r a p b q r2 a2 p2 b2 q2 sn dn ad n c oa op ia ip r5 a5 p5 b5 q5 r6 a6 p6 b6 q6 s5 d5 n5 oa3 op3 ia3 ip3 _ l hcm hL hl w ht ktx kpt kck ksm (fun W hW => parse_is hz (by omega) W hW) (fun W o c' hW hh => text_is hz o c' W hW.toP.base hh) (fun W o c' hW => check_is hz o c' W hW.toP.base)
    · exact back_big r a p b q r2 a2 p2 b2 q2 st dl ad n c l hcm hL (by omega) w ht
  · exact back_long r a p b q r2 a2 p2 b2 q2 st dl ad n c l hcm hL w ht
end Go.Proofs.YtdmbjndhdldggaaDoor
