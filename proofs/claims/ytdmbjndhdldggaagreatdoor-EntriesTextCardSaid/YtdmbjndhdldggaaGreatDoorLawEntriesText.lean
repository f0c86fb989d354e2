/- Chapter 18: what the program and the document read of a text, and tell of an entry (written by gentext18.py). · Chapter 18: EntriesText, any arguments (written by gentext18.py). · The law porterlaw18.EntriesText: for every input the call returns true, and each argument reads behind the call as it read before; what the row lists is tied to the program's text. No conditions beside those of the row. -/
import Derived.Test.YtdmbjndhdldggaaGreatDoorZq
import Derived.Test.YtdmbjndhdldggaaGreatDoorEbP
import Derived.Test.YtdmbjndhdldggaaGreatDoorZy
import Derived.Test.YtdmbjndhdldggaaGreatDoorSeeE
import Derived.Test.YtdmbjndhdldggaaGreatDoorSees
import Derived.Test.YtdmbjndhdldggaaGreatDoorRowZ
import Derived.Test.YtdmbjndhdldggaaGreatDoorCards
import Derived.Test.YtdmbjndhdldggaaGreatDoorTie
import Derived.SevenTiedAt
namespace Go.Proofs.YtdmbjndhdldggaaGreatDoor
set_option linter.unusedVariables false
set_option linter.unusedSimpArgs false
open Go.RowKit Go.Lib Go.Sort
section
variable {l : List UInt8} {r a p b q r2 a2 p2 b2 q2 st dl n : Nat} {oa op ia ip : Nat → Nat}
theorem rparse_is (h : Parsed l r a p b q r2 a2 p2 b2 q2 st dl n oa op ia ip) (hl : l.length ≤ 1000000) (W : World) :
    Calls Tryz.prog 8 #[str l] W fun e w' => ∃ o c, e = .returned (.tuple #[.agg #[.int .u8 r, .int .u32 a, .int .u16 p, .int .u32 b, .int .u16 q, .int .u8 r2, .int .u32 a2, .int .u16 p2, .int .u32 b2, .int .u16 q2, .int .i64 (st : Nat), .int .i64 (dl : Nat), .slice o n c], .int .i64 0]) ∧ HoldsIn w' o n (holdsV oa op ia ip n) ∧ NoW W w' :=
  (rparse_ok l hl W).mono fun e w' ⟨hn, h2⟩ => by
    rcases h2 with ⟨_, hnp⟩ | ⟨r', a', p', b', q', r2', a2', p2', b2', q2', st', dl', n', oa', op', ia', ip', o, c, he, hp, _, hh⟩
    · exact absurd h (hnp _ _ _ _ _ _ _ _ _ _ _ _ _ _ _ _ _)
    · obtain ⟨⟨rfl, rfl, rfl, rfl, rfl⟩, ⟨rfl, rfl, rfl, rfl, rfl⟩, rfl, rfl, rfl, hF⟩ := parsed_inj h hp
      rw [← holdsV_congr hF] at hh
      exact ⟨o, c, he, hh, hn⟩
theorem rtext_is (h : Parsed l r a p b q r2 a2 p2 b2 q2 st dl n oa op ia ip) (o : Option Addr) (c : Nat) (W : World) (hh : HoldsIn W o n (holdsV oa op ia ip n)) :
    Calls Tryz.prog 9 #[.agg #[.int .u8 r, .int .u32 a, .int .u16 p, .int .u32 b, .int .u16 q, .int .u8 r2, .int .u32 a2, .int .u16 p2, .int .u32 b2, .int .u16 q2, .int .i64 (st : Nat), .int .i64 (dl : Nat), .slice o n c]] W (Ret1 (str l) W) := by
  obtain ⟨h1, h2, _, _, h5, h6, h7, h8⟩ := chkB_parts h.chk
  obtain ⟨o1, o2, o3, o4⟩ := h.o
  obtain ⟨y1, y2, y3, y4⟩ := h.y
  obtain ⟨hb, ho, rfl, hh'⟩ := hh (by omega)
  have h5' := toN_pos h5
  have e := rtext_ok r a p b q r2 a2 p2 b2 q2 st dl oa op ia ip hb ho n c (holdsV oa op ia ip n) o1 (by omega) o3 (by omega) y1 (by omega) y3 (by omega) (by omega) (by omega) (by omega) h1 h2
    (fun i hi => by
      obtain ⟨g1, g2, g3, g4⟩ := h.h i hi
      refine ⟨⟨?_, ?_, ?_, ?_⟩, g1, by omega, g3, by omega⟩
      · have := holdsV_get oa op ia ip n i 0 hi (by omega); simpa [holdV] using this
      · have := holdsV_get oa op ia ip n i 1 hi (by omega); simpa [holdV] using this
      · have := holdsV_get oa op ia ip n i 2 hi (by omega); simpa [holdV] using this
      · have := holdsV_get oa op ia ip n i 3 hi (by omega); simpa [holdV] using this) W hh' h.chk
  rw [← h.text] at e
  exact e
end
theorem rparse_np (l : List UInt8) (hl : l.length ≤ 1000000) (hnp : NP l) (W : World) :
    Calls Tryz.prog 8 #[str l] W (Ret1 (.tuple #[.agg #[.int .u8 0, .int .u32 0, .int .u16 0, .int .u32 0, .int .u16 0, .int .u8 0, .int .u32 0, .int .u16 0, .int .u32 0, .int .u16 0, .int .i64 0, .int .i64 0, .slice none 0 0], .int .i64 3]) W) :=
  (rparse_ok l hl W).mono fun e w' ⟨hn, h2⟩ => by
    rcases h2 with ⟨he, _⟩ | ⟨r', a', p', b', q', r2', a2', p2', b2', q2', st', dl', n', oa', op', ia', ip', o, c, he, hp, _, hh⟩
    · exact ⟨he, hn⟩
    · exact absurd hp (hnp _ _ _ _ _ _ _ _ _ _ _ _ _ _ _ _ _)
/-- What both read of one text is one. -/
theorem two_parse (l : List UInt8) (hl : l.length ≤ 1000000) : ∃ (r5 a5 p5 b5 q5 r6 a6 p6 b6 q6 : Nat) (yst ydl : Int) (yn : Nat) (oa3 op3 ia3 ip3 : Nat → Nat) (es : Int), yn ≤ 100 ∧
    (∀ W, TbQ W → Calls Tryz.prog 7 #[str l] W fun e w' => ∃ o' c', e = .returned (.tuple #[.agg #[.int .u8 r5, .int .u32 a5, .int .u16 p5, .int .u32 b5, .int .u16 q5, .int .u8 r6, .int .u32 a6, .int .u16 p6, .int .u32 b6, .int .u16 q6, .int .i64 yst, .int .i64 ydl, .slice o' yn c'], .int .i64 es]) ∧ HoldsIn w' o' yn (holdsV oa3 op3 ia3 ip3 yn) ∧ NoW W w') ∧
    (∀ W, Calls Tryz.prog 8 #[str l] W fun e w' => ∃ o' c', e = .returned (.tuple #[.agg #[.int .u8 r5, .int .u32 a5, .int .u16 p5, .int .u32 b5, .int .u16 q5, .int .u8 r6, .int .u32 a6, .int .u16 p6, .int .u32 b6, .int .u16 q6, .int .i64 yst, .int .i64 ydl, .slice o' yn c'], .int .i64 es]) ∧ HoldsIn w' o' yn (holdsV oa3 op3 ia3 ip3 yn) ∧ NoW W w') := by
  rcases np_or l with hnp | ⟨r5, a5, p5, b5, q5, r6, a6, p6, b6, q6, s5, d5, n5, oa3, op3, ia3, ip3, hz⟩
  · refine ⟨0, 0, 0, 0, 0, 0, 0, 0, 0, 0, 0, 0, 0, fun _ => 0, fun _ => 0, fun _ => 0, fun _ => 0, 3, by omega, fun W hW => (parse_np l (by omega) hnp W hW).mono ?_, fun W => (rparse_np l hl hnp W).mono ?_⟩
    all_goals exact fun e w' ⟨h1, h2⟩ => ⟨none, 0, h1, fun h => by omega, h2⟩
  · have hn := (chkB_parts hz.chk).2.2.2.2.2.2.2
    exact ⟨r5, a5, p5, b5, q5, r6, a6, p6, b6, q6, s5, d5, n5, oa3, op3, ia3, ip3, 0, by omega, fun W hW => parse_is hz (by omega) W hW, fun W => rparse_is hz hl W⟩
theorem rsame_self (r a p b q r2 a2 p2 b2 q2 : Nat) (st dl : Int) (n : Nat) (oa op ia ip : Nat → Nat) (hn : n ≤ 100) : ∀ W o1 c1 o2 c2, HoldsIn W o1 n (holdsV oa op ia ip n) → HoldsIn W o2 n (holdsV oa op ia ip n) → Calls Tryz.prog 11 #[.agg #[.int .u8 r, .int .u32 a, .int .u16 p, .int .u32 b, .int .u16 q, .int .u8 r2, .int .u32 a2, .int .u16 p2, .int .u32 b2, .int .u16 q2, .int .i64 st, .int .i64 dl, .slice o1 n c1], .agg #[.int .u8 r, .int .u32 a, .int .u16 p, .int .u32 b, .int .u16 q, .int .u8 r2, .int .u32 a2, .int .u16 p2, .int .u32 b2, .int .u16 q2, .int .i64 st, .int .i64 dl, .slice o2 n c2]] W (Ret1 (.bool true) W) := fun W o1 c1 o2 c2 h1 h2 => by
  have h := rsame_ok r a p b q r2 a2 p2 b2 q2 r a p b q r2 a2 p2 b2 q2 st dl st dl o1 o2 n c1 n c2 oa op ia ip oa op ia ip hn W h1 h2
  rw [eqHolds_yes (fun k _ => ⟨rfl, rfl, rfl, rfl⟩)] at h
  simpa using h
end Go.Proofs.YtdmbjndhdldggaaGreatDoor
namespace Go.Proofs.YtdmbjndhdldggaaGreatDoor
set_option linter.unusedVariables false
set_option linter.unusedSimpArgs false
open Go.RowKit Go.Lib Go.Sort
set_option maxHeartbeats 1000000 in
theorem walk_EntriesText (w : World) (ht : TbQ w) (v0 v1 : Value) (g0 : Good Tryz.prog w 31 v0) (g1 : Good Tryz.prog w 9 v1) : Calls Tryz.prog 3 #[v0, v1] w (Ret1 (.bool true) w) := by
  obtain ⟨r, a, p, b, q, r2, a2, p2, b2, q2, st, dl, ad, n, c, oa, op, ia, ip, rfl, ho, hy, hst, hdl, hxo⟩ := ent_open g0
  obtain ⟨s, rfl, _⟩ := good_string Tryz.underlying9 g1
  obtain ⟨l, rfl, hs⟩ := str_of s
  clear g1 hs
  have hcm : n ≤ maxLen := Nat.le_trans hxo.nc hxo.cm
  have hx : HoldsIn w ad n (holdsV oa op ia ip n) := hxo.at'
  rcases hL : longB 1 (fun _ => n) 1 with _ | _
  · have hn5 : n ≤ 5 := by
      simp only [longB, Bool.or_eq_false_iff, List.any_eq_false] at hL
      have h0 := hL.1 0 (by simp)
      simpa using h0
    by_cases hl : l.length ≤ 300
    · obtain ⟨t, htl, ktx, krx⟩ : ∃ t : List UInt8, t.length ≤ 1200 ∧ (∀ W, TbQ W → NoW w W → Calls Tryz.prog 6 #[.agg #[.int .u8 r, .int .u32 a, .int .u16 p, .int .u32 b, .int .u16 q, .int .u8 r2, .int .u32 a2, .int .u16 p2, .int .u32 b2, .int .u16 q2, .int .i64 st, .int .i64 dl, .slice ad n c]] W (Ret1 (str t) W)) ∧ (∀ W o c', HoldsIn W o n (holdsV oa op ia ip n) → Calls Tryz.prog 9 #[.agg #[.int .u8 r, .int .u32 a, .int .u16 p, .int .u32 b, .int .u16 q, .int .u8 r2, .int .u32 a2, .int .u16 p2, .int .u32 b2, .int .u16 q2, .int .i64 st, .int .i64 dl, .slice o n c']] W (Ret1 (str t) W)) := by
        rcases hc : chkB r p q r2 p2 q2 (decide (r = r2 ∧ a = a2 ∧ p = p2 ∧ b = b2 ∧ q = q2)) st dl n with _ | _
        · have kck := fun W (hW : TbQ W) => check_ok r a p b q r2 a2 p2 b2 q2 st dl ad n c ho.1 hy.1 W hW.toP.base
          rw [hc, if_neg (by simp)] at kck
          exact ⟨[], by simp, fun W hW _ => text_bad r a p b q r2 a2 p2 b2 q2 st dl ad n c W (fun W' hN => kck W' (hW.low hN)), fun W o c' _ => rtext_bad r a p b q r2 a2 p2 b2 q2 st dl o n c' hc W⟩
        · obtain ⟨sn, dn, rfl, rfl, hp⟩ := parsed_of ho hy hxo hc
          exact ⟨_, hp.short, fun W hW hN => text_is hp ad c W hW.toP.base (hx.low hN), fun W o c' hh => rtext_is hp o c' W hh⟩
      obtain ⟨r5, a5, p5, b5, q5, r6, a6, p6, b6, q6, yst, ydl, yn, oa3, op3, ia3, ip3, es, hyn, kps, krs⟩ := two_parse l (by omega)
      obtain ⟨r7, a7, p7, b7, q7, r8, a8, p8, b8, q8, zst, zdl, zn, oa4, op4, ia4, ip4, et, hzn, kpt, krt⟩ := two_parse t (by omega)
      exact text_core r a p b q r2 a2 p2 b2 q2 st dl ad n c oa op ia ip r5 a5 p5 b5 q5 r6 a6 p6 b6 q6 yst ydl yn oa3 op3 ia3 ip3 es r7 a7 p7 b7 q7 r8 a8 p8 b8 q8 zst zdl zn oa4 op4 ia4 ip4 et t l hcm hL hl w ht ktx krx
        (fun W hN => doc_ok r a p b q r2 a2 p2 b2 q2 st dl ad n c oa op ia ip (by omega) W (hx.low hN)) kps krs kpt krt
        (fun W o c h => doc_ok r5 a5 p5 b5 q5 r6 a6 p6 b6 q6 yst ydl o yn c oa3 op3 ia3 ip3 hyn W h) (fun W o c h => doc_ok r7 a7 p7 b7 q7 r8 a8 p8 b8 q8 zst zdl o zn c oa4 op4 ia4 ip4 hzn W h)
        (rsame_self r5 a5 p5 b5 q5 r6 a6 p6 b6 q6 yst ydl yn oa3 op3 ia3 ip3 hyn) (rsame_self r7 a7 p7 b7 q7 r8 a8 p8 b8 q8 zst zdl zn oa4 op4 ia4 ip4 hzn)
    · exact text_big r a p b q r2 a2 p2 b2 q2 st dl ad n c l hcm hL (by omega) w ht
  · exact text_long r a p b q r2 a2 p2 b2 q2 st dl ad n c l hcm hL w ht
end Go.Proofs.YtdmbjndhdldggaaGreatDoor
namespace Go.Proofs.YtdmbjndhdldggaaGreatDoor
set_option linter.unusedVariables false
set_option linter.unusedSimpArgs false
namespace entriesText
open Go.RowKit Go.ChangeShapes Go.WideShapes Go.ChangeAt
open Go.ChangeMaps (open_string shut_string)
set_option maxRecDepth 100000 in
theorem lifted (os : Os) (started : os.Started) (H : Type) (enc : TypeId × Value → H) :
    ReturnsInHanded {} Tryz.checked os 3 .any (fun w args => (Rows.entriesTextSpec.pre enc Tryz.prog Tryz.f3 [] false w args ∧ laidMetH Tryz.prog Rows.entriesTextRow.laid w) ∧ sizedMet enc Tryz.prog Tryz.f3 (OpenSpec.ofChange Rows.entriesTextSpec) false w args)
      (Rows.entriesTextSpec.post enc Tryz.prog Tryz.f3 false true false false) := by
  refine returns_laid_shaped (C := Tryz.checked) (X := fun w _ => laidMetH Tryz.prog Rows.entriesTextRow.laid w) (fun _ _ _ hh h => h.of_heap hh) own started (by kernel_rfl) Tryz.func3
    (ChangeSpec.witness_shaped (enc := enc) (C := Tryz.checked) (os := os) (X := fun w _ => laidMetH Tryz.prog Rows.entriesTextRow.laid w) false (wit os) #[((Tryz.prog.info? 31).bind (·.zero)).getD (.bool false), ((Tryz.prog.info? 9).bind (·.zero)).getD (.bool false)] 8 rfl
      shaped (by kernel_rfl) (by kernel_rfl) (by kernel_rfl) (laid_met os _)) ?_
  intro W base args ds gs before hval0 hW hcnd _ hL hS _
  have htb : TbQ W := tb_of hL hS
  have hval : ∀ (j : Nat) t v, Tryz.f3.params[j]? = some t → args[j]? = some v → Value.okWide Tryz.prog W .any base t v := hval0
  have hW' := hW
  obtain ⟨p, q, hA0, hV, rfl, hfz, hnd⟩ := hW
  have hA : DataW.TrodAll enc Tryz.prog W 0 (fun _ => true) true Tryz.f3.params.toList args.toList ds p := hA0
  rw [Tryz.params3] at hA hval
  obtain ⟨v0, vs0, d0, ds0, p0, q0, hargs, rfl, rfl, h0, r0⟩ := trodAll_cons hA
  obtain ⟨v1, vs1, d1, ds1, p1, q1, rfl, rfl, rfl, h1, r1⟩ := trodAll_cons r0
  obtain ⟨rfl, rfl, rfl⟩ := trodAll_nil r1
  obtain rfl : args = #[v0, v1] := by cases args; simp_all
  obtain ⟨rfl, rfl⟩ := trodVars_none hV
  have lt0 : ∀ x ∈ p0, x.block < W.heap.size := by obtain ⟨m, hm⟩ := h0; exact DataW.trod_lt m _ _ _ hm
  have g0 : Good Tryz.prog W 31 v0 := good_of (hval 0 31 v0 rfl rfl) h0
  have lt1 : ∀ x ∈ p1, x.block < W.heap.size := by obtain ⟨m, hm⟩ := h1; exact DataW.trod_lt m _ _ _ hm
  have g1 : Good Tryz.prog W 9 v1 := good_of (hval 1 9 v1 rfl rfl) h1
  clear hA0 hval0
  refine (walk_EntriesText W htb v0 v1 g0 g1).mono fun e W' ⟨he, bel0⟩ => ?_
  have bel := bel0.below
  subst he
  exact ⟨_, rfl, _, _, _, [], _, [], hW', trodAll_mk1 (shut_bool Tryz.underlying4 _), (trodAll_cons_mk (Below.trod laidOut (by kernel_rfl) (of_decide_eq_true (by kernel_rfl)) h0 bel lt0) (trodAll_cons_mk (Below.trod laidOut (by kernel_rfl) (of_decide_eq_true (by kernel_rfl)) h1 bel lt1) trodAll_mk0)), rfl, bel.frame _, fun h => by cases h⟩

theorem over : Rows.EntriesTextSaid :=
  OpenClaim.holds_of_wide 3 Tryz.f3 rfl rfl rfl rfl rfl rfl rfl ⟨rfl, rfl, rfl, rfl, rfl⟩ rfl rfl rfl rfl rfl (by kernel_rfl) Tryz.func3 (by kernel_rfl)
    (of_decide_eq_true (by kernel_rfl)) (by unfold Func.isWrapper; first | (rw [if_pos (by decide +kernel)]; kernel_rfl) | (rw [if_neg (by decide +kernel)]; exact ⟨rfl, rfl⟩))
    (fun os started H enc _ => lifted os started H enc)

/-- THE STATEMENT. -/
theorem proved : Rows.EntriesTextCardSaid :=
  Claim7.holds_tied_plain_at .later [] [.data, .data, .data, .data, .data, .sentinel, .sentinel, .mapped, .pinned] true (true, "d324e351113e6e986d14f7e94292b681bb442daa37ce9d083bd649a58c17d3a1") true
    over (fun _ h => by cases h) (by kernel_rfl) (fun _ h => by cases h) entriesText_row_tie rfl ⟨rfl, rfl⟩ (by kernel_rfl) rfl
    (fun f fn hf hfn => by
      obtain rfl : f = 3 := Option.some.inj ((show Tryz.prog.funcNamed "porter/porterlaw18.EntriesText" = some 3 by kernel_rfl).symm.trans hf) |>.symm
      obtain rfl : fn = Tryz.f3 := (Option.some.inj (Tryz.func3.symm.trans hfn)).symm
      exact ⟨by kernel_rfl, fun j t ht => by
        rw [Tryz.params3] at ht
        have hm : t ∈ [31, 9] := by simpa using Array.mem_of_getElem? ht
        have hall : ([31, 9].all fun u => !Tryz.prog.wantsStandIn u) = true := by kernel_rfl
        exact (show Tryz.prog.wantsStandIn t = false by simpa using List.all_eq_true.1 hall t hm)⟩)
    (by kernel_rfl)
#print axioms proved
end entriesText
end Go.Proofs.YtdmbjndhdldggaaGreatDoor
