/- Texts of this proof, merged: RowM. -/
import Derived.Test.YthmokdfigjffjaaGreatDoorRows
import Derived.Test.YthmokdfigjffjaaGreatDoorMar
import Derived.Test.YthmokdfigjffjaaGreatDoorMas
import Derived.Maps.Keyed
import Derived.Maps.StringElems
import Derived.WideKeyElems2
import Derived.OpenShut
import Derived.LaidMore
import Derived.Lay
import Derived.LaidOnce
import Derived.HandedShaped
import Derived.Lib.LaidU8
import Derived.LaidLaws
import Derived.Shelf.Vars
import Derived.ProofKit
namespace Go.Proofs.YthmokdfigjffjaaGreatDoor
set_option linter.unusedVariables false
set_option linter.unusedSimpArgs false
open Go.RowKit Go.Lib
theorem own : ownKnob Tryz.prog.godebug = none := by kernel_rfl
theorem laidOut : laidOutB Tryz.prog = true := by kernel_rfl
/-- The list of all the rows of this seat. -/
def laid : List (String × DataW Unit) := Rows.sharedNewRow.laid

/-- The plain wrap with what is listed, and the world's shape. -/
theorem returns_laid_shaped {H : Type} {enc : TypeId × Value → H} {a : Assume} {C : Checked} {os : Os} {f : FuncId} {fn : Func} {s : ChangeSpec} {conds : List PathCond} {apart fresh handsOn again : Bool} {X : World → Array Value → Prop}
    (hX : ∀ (w w' : World) (args : Array Value), w.heap = w'.heap → X w args → X w' args)
    (own : ownKnob C.prog.godebug = none) (started : os.Started) (noInit : C.prog.inits.idxOf? f = none) (hfn : C.prog.funcs[f]? = some fn)
    (witness : ∃ (w : World) (tape : Tape) (i : Input), w.os = os ∧ (w.forCall tape i).Shaped C.prog ∧ i.vars = [] ∧ Input.okWide C.prog (w.forCall tape i) .any w.heap.size f i ∧
      ((s.pre enc C.prog fn conds apart (w.forCall tape i).memory i.args ∧ X (w.forCall tape i).memory i.args) ∧ sizedMet enc C.prog fn (OpenSpec.ofChange s) apart (w.forCall tape i).memory i.args) ∧ a.holds C.prog (lone (Frame.enter C.prog f i.args .normal) [] (w.forCall tape i)))
    (contract : ∀ (W : World) (base : Nat) (args : Array Value) (ds gs : List (DataW H)) (before : List MemPlace),
      (∀ (j : Nat) t v, fn.params[j]? = some t → args[j]? = some v → Value.okWide C.prog W .any base t v) →
      DataW.Whole enc C.prog fn.params.toList s.vars apart W args.toList ds gs before →
      conds.all (PathCond.test C.prog ⟨fn.params.toList, ds, s.plain.varTypes C.prog, gs⟩) = true →
      (DataW.weightsEach C.prog (fn.params.toList ++ s.plain.varTypes C.prog) (ds ++ gs)).all (· ≤ reachBytes) = true → X W args → W.ShapedOpen C.prog →
      a.holds C.prog (lone (Frame.enter C.prog f args .normal) [] W) →
      Calls C.prog f args W fun e W' => ∃ v, e = .returned v ∧ s.post enc C.prog fn apart fresh handsOn again W args v W') :
    ReturnsInHanded a C os f .any (fun w args => (s.pre enc C.prog fn conds apart w args ∧ X w args) ∧ sizedMet enc C.prog fn (OpenSpec.ofChange s) apart w args) (s.post enc C.prog fn apart fresh handsOn again) := by
  refine returnsInHanded_of_calls own started noInit witness ?_
  intro w tape i _ hsh _ hok hpre hholds
  obtain ⟨_, _, _, fn', hfn', _, _, _, _, hval⟩ := hok
  obtain rfl : fn' = fn := Option.some.inj (hfn'.symm.trans hfn)
  obtain ⟨⟨⟨ds, gs, before, hw, hc⟩, hx⟩, hz⟩ := hpre
  have hw' := DataW.Whole.of_heap (w' := w.forCall tape i) (by rfl) hw
  refine (contract (w.forCall tape i) w.heap.size i.args ds gs before hval hw' hc (hz.weights hw) (hX _ _ _ (by rfl) hx) hsh hholds).mono fun e W' ⟨v, he, hp⟩ => ?_
  subst he
  exact ChangeSpec.post_blind hp

/-- An array of arrays of integers that reads as such a table holds it, cell for cell. -/
theorem rows_of_reads {P : Program} {w : World} {n : String} {k : IntKind} {zss : List (List Int)} {g : Nat} {t e x : TypeId} {m q : Nat}
    (hg : P.globalNamed n = some g) (hty : (P.globals[g]?).map (·.type) = some t) (ht : P.underlying t = some (.array m e)) (he : P.underlying e = some (.array q x)) (hx : P.underlying x = some (.int k)) (hcx : P.cellsOf x = 1) (hce : P.cellsOf e = q)
    (h : VarReads P w n (.agg (zss.map (tabData k)))) : ∀ i zs, zss[i]? = some zs → ∀ j z, zs[j]? = some z → w.cell? ⟨g, i * q + j, none⟩ = some (.int k z) := by
  obtain ⟨g', t', cs, fuel, p, h1, h2, h3, h4⟩ := h
  obtain rfl := Option.some.inj (hg.symm.trans h1)
  obtain rfl := Option.some.inj (hty.symm.trans h2)
  obtain ⟨xs, n1, hcs, hx1, _, hlen, hel⟩ := DataW.trod_array ht h4
  intro i zs hi j z hj
  have hxi : (xs.map (·.1))[i]? = some (tabData k zs) := by
    simp only [Prod.mk.injEq, DataW.agg.injEq] at hx1
    rw [← hx1.1, List.getElem?_map, hi]; rfl
  rw [List.getElem?_map] at hxi
  rcases hxe : xs[i]? with _ | y
  · rw [hxe] at hxi; cases hxi
  · rw [hxe] at hxi
    have hyi : i < m := by have := (List.getElem?_eq_some_iff.1 hxe).1; omega
    have h5 := hel i hyi
    rw [hxe] at h5
    have h6 : y = (tabData k zs, y.2) := by cases y; simp at hxi; simp [hxi]
    rw [h6] at h5
    have h7 := cells_of_tab he hx hcx hce h5
    rw [hce] at h7
    have h8 := congrArg (fun l : List Value => l[j]?) h7
    simp only [List.getElem?_map, hj, Option.map_some, List.getElem?_take, List.getElem?_drop] at h8
    rw [World.var?_cell h1 h3 (i * q + j)]
    split at h8
    · rw [← h8]; simp
    · cases h8

theorem lasts_at (k : Nat) (x : CV) (h : lastsC[k]? = some x) : ∃ i zs j z, ([[0, 0, 0, 0, 0, 0, 0, 0], [0, 120, 300, 0, 0, 0, 0, 0], [0, 60, 60, 0, 0, 0, 0, 0], [0, 240, 240, 7440, 240, 240, 240, 240]] : List (List Int))[i]? = some zs ∧ zs[j]? = some z ∧ k = i * 8 + j ∧ x.den = .int .i64 z := by
  rcases k with _ | _ | _ | _ | _ | _ | _ | _ | _ | _ | _ | _ | _ | _ | _ | _ | _ | _ | _ | _ | _ | _ | _ | _ | _ | _ | _ | _ | _ | _ | _ | _ | k
  · exact ⟨0, _, 0, _, rfl, rfl, rfl, by obtain rfl := Option.some.inj h; rfl⟩
  · exact ⟨0, _, 1, _, rfl, rfl, rfl, by obtain rfl := Option.some.inj h; rfl⟩
  · exact ⟨0, _, 2, _, rfl, rfl, rfl, by obtain rfl := Option.some.inj h; rfl⟩
  · exact ⟨0, _, 3, _, rfl, rfl, rfl, by obtain rfl := Option.some.inj h; rfl⟩
  · exact ⟨0, _, 4, _, rfl, rfl, rfl, by obtain rfl := Option.some.inj h; rfl⟩
  · exact ⟨0, _, 5, _, rfl, rfl, rfl, by obtain rfl := Option.some.inj h; rfl⟩
  · exact ⟨0, _, 6, _, rfl, rfl, rfl, by obtain rfl := Option.some.inj h; rfl⟩
  · exact ⟨0, _, 7, _, rfl, rfl, rfl, by obtain rfl := Option.some.inj h; rfl⟩
  · exact ⟨1, _, 0, _, rfl, rfl, rfl, by obtain rfl := Option.some.inj h; rfl⟩
  · exact ⟨1, _, 1, _, rfl, rfl, rfl, by obtain rfl := Option.some.inj h; rfl⟩
  · exact ⟨1, _, 2, _, rfl, rfl, rfl, by obtain rfl := Option.some.inj h; rfl⟩
  · exact ⟨1, _, 3, _, rfl, rfl, rfl, by obtain rfl := Option.some.inj h; rfl⟩
  · exact ⟨1, _, 4, _, rfl, rfl, rfl, by obtain rfl := Option.some.inj h; rfl⟩
  · exact ⟨1, _, 5, _, rfl, rfl, rfl, by obtain rfl := Option.some.inj h; rfl⟩
  · exact ⟨1, _, 6, _, rfl, rfl, rfl, by obtain rfl := Option.some.inj h; rfl⟩
  · exact ⟨1, _, 7, _, rfl, rfl, rfl, by obtain rfl := Option.some.inj h; rfl⟩
  · exact ⟨2, _, 0, _, rfl, rfl, rfl, by obtain rfl := Option.some.inj h; rfl⟩
  · exact ⟨2, _, 1, _, rfl, rfl, rfl, by obtain rfl := Option.some.inj h; rfl⟩
  · exact ⟨2, _, 2, _, rfl, rfl, rfl, by obtain rfl := Option.some.inj h; rfl⟩
  · exact ⟨2, _, 3, _, rfl, rfl, rfl, by obtain rfl := Option.some.inj h; rfl⟩
  · exact ⟨2, _, 4, _, rfl, rfl, rfl, by obtain rfl := Option.some.inj h; rfl⟩
  · exact ⟨2, _, 5, _, rfl, rfl, rfl, by obtain rfl := Option.some.inj h; rfl⟩
  · exact ⟨2, _, 6, _, rfl, rfl, rfl, by obtain rfl := Option.some.inj h; rfl⟩
  · exact ⟨2, _, 7, _, rfl, rfl, rfl, by obtain rfl := Option.some.inj h; rfl⟩
  · exact ⟨3, _, 0, _, rfl, rfl, rfl, by obtain rfl := Option.some.inj h; rfl⟩
  · exact ⟨3, _, 1, _, rfl, rfl, rfl, by obtain rfl := Option.some.inj h; rfl⟩
  · exact ⟨3, _, 2, _, rfl, rfl, rfl, by obtain rfl := Option.some.inj h; rfl⟩
  · exact ⟨3, _, 3, _, rfl, rfl, rfl, by obtain rfl := Option.some.inj h; rfl⟩
  · exact ⟨3, _, 4, _, rfl, rfl, rfl, by obtain rfl := Option.some.inj h; rfl⟩
  · exact ⟨3, _, 5, _, rfl, rfl, rfl, by obtain rfl := Option.some.inj h; rfl⟩
  · exact ⟨3, _, 6, _, rfl, rfl, rfl, by obtain rfl := Option.some.inj h; rfl⟩
  · exact ⟨3, _, 7, _, rfl, rfl, rfl, by obtain rfl := Option.some.inj h; rfl⟩
  · simp [lastsC] at h
theorem beq_no {a k : Nat} (h : a ≠ k) : Nat.beq a k = false := by
  rcases q : Nat.beq a k with _ | _
  · rfl
  · exact absurd (Nat.eq_of_beq_eq_true q) h
theorem word_pin (k : Nat) (c : Bool) : (if c then Value.tuple #[.string ⟨(wordOf k).toArray⟩, .bool (isWord k)] else .string ⟨(wordOf k).toArray⟩) = (pinV (.v (.string ⟨⟨[]⟩⟩)) c (pinR wordsC k)).den := by
  by_cases k1 : k = 1
  · subst k1; cases c <;> rfl
  by_cases k6 : k = 6
  · subst k6; cases c <;> rfl
  by_cases k17 : k = 17
  · subst k17; cases c <;> rfl
  have hp : pinR wordsC k = none := by
    have e1 : Nat.beq 1 k = false := beq_no (by omega)
    have e6 : Nat.beq 6 k = false := beq_no (by omega)
    have e17 : Nat.beq 17 k = false := beq_no (by omega)
    show (bif Nat.beq 1 k then _ else (bif Nat.beq 6 k then _ else (bif Nat.beq 17 k then _ else none))) = none
    rw [e1, e6, e17]; rfl
  have hw : wordOf k = [] := by unfold wordOf; simp [k1, k6, k17]
  have hi : isWord k = false := by unfold isWord; simp [k1, k6, k17]
  rw [hp, hw, hi]
  cases c <;> rfl
theorem tb_of {W : World} (hL : laidMetH Tryz.prog laid W) : TbC W := by
  rw [MakeChecks.laidMetH_plain _ _ _ (by kernel_rfl)] at hL
  refine ⟨?_, ?_⟩
  · have h := rows_of_reads (k := .i64) (zss := [[0, 0, 0, 0, 0, 0, 0, 0], [0, 120, 300, 0, 0, 0, 0, 0], [0, 60, 60, 0, 0, 0, 0, 0], [0, 240, 240, 7440, 240, 240, 240, 240]]) (g := 1) (t := 354) (e := 353) (x := 3) (m := 4) (q := 8) (by kernel_rfl) (by kernel_rfl) (by kernel_rfl) (by kernel_rfl) (by kernel_rfl) (by kernel_rfl) (by kernel_rfl) (Lib.laidMet.reads hL (.head _))
    intro k x hx
    obtain ⟨i, zs, j, z, e1, e2, rfl, e3⟩ := lasts_at k x hx
    rw [e3]
    exact h i zs e1 j z e2
  · obtain ⟨g', t', cs, fuel, p, h1, h2, h3, h4⟩ := Lib.laidMet.reads hL (.tail _ (.tail _ (.head _)))
    obtain rfl := Option.some.inj ((show Tryz.prog.globalNamed "porter/tuples.words" = some 0 by kernel_rfl).symm.trans h1)
    obtain rfl := Option.some.inj ((show (Tryz.prog.globals[0]?).map (·.type) = some 318 by kernel_rfl).symm.trans h2)
    rcases Go.WideElems.open_map Tryz.underlying318 h4 with ⟨_, hx⟩ | ⟨bm, es, clock, n, rfl, hcs, hb, _, F, hx⟩
    · simp [Rows.laid_porter_tuples_words] at hx
    simp only [Prod.mk.injEq] at hx
    refine ⟨bm, es, clock, ?_, hb, fun V hV k c hk => ?_⟩
    · have := World.var?_cell h1 h3 0
      rw [Array.eq_one_of_toList hcs] at this
      simpa using this
    · have hz : (zeroValue 9).run Tryz.prog V = .ok (.string ⟨#[]⟩) V := by kernel_rfl
      have hwf : (Lit.int .u8 (k : Int)).wf = true := by simp [Lit.wf, IntKind.has, IntKind.min, IntKind.max, IntKind.signed, IntKind.bits]; omega
      have hkey := Go.Maps.keyOf_int_mk Tryz.underlying5 hwf
      have hat : ∀ zd : DataW Unit, (DataW.map ((es.toList.map (Go.WideElems.rg Tryz.prog 5 (Go.WideElems.elemAt (fun _ => ()) Tryz.prog W 0 (fun _ => true) false n 9))).foldr DataW.insert [])).atKey (.int .u8 k) zd = (if isWord k = true then .lit (.string (wordOf k)) else zd) := by
        intro zd
        rw [← hx.1]
        unfold isWord wordOf
        by_cases k1 : k = 1
        · subst k1; rfl
        · by_cases k6 : k = 6
          · subst k6; rfl
          · by_cases k17 : k = 17
            · subst k17; rfl
            · have hf : decide (k = 1 ∨ k = 6 ∨ k = 17) = false := by simp [k1, k6, k17]
              rw [hf]
              simp only [Bool.false_eq_true, if_false]
              unfold Rows.laid_porter_tuples_words
              refine WideAt.atKey_none zd (fun p hp => ?_)
              simp only [List.mem_cons, List.mem_nil_iff, or_false] at hp
              rcases hp with rfl | rfl | rfl <;> (intro e; simp only [Lit.int.injEq, true_and] at e; omega)
      have look : ∀ c, (Instr.lookup 318 (.map (some bm)) (.int .u8 k) c).run Tryz.prog V = .ok (if c then .tuple #[.string ⟨(wordOf k).toArray⟩, .bool (isWord k)] else .string ⟨(wordOf k).toArray⟩) V := by
        intro c
        rcases Go.Maps.fit_look (w := V) c (Go.Maps.int_keyed Tryz.underlying5) Tryz.underlying318 hz hV F hkey with ⟨hrun, _, hno⟩ | ⟨e0, y, _, _, hrun, hR, hy, _⟩
        · have h9 := hno .nil
          rw [hat .nil] at h9
          have hw : isWord k = false := by
            rcases hi : isWord k with _ | _
            · rfl
            · rw [hi] at h9; cases h9
          have hw2 : wordOf k = [] := by
            unfold isWord at hw
            have := of_decide_eq_false hw
            unfold wordOf
            simp only [not_or] at this
            simp [this]
          rw [hrun, hw, hw2]
        · obtain ⟨s, hv, rfl, _⟩ := Go.WideElems.elemAt_string Tryz.underlying9 hR
          have h9 := hy .nil
          rw [hat .nil] at h9
          have hw : isWord k = true := by
            rcases hi : isWord k with _ | _
            · rw [hi] at h9; cases h9
            · rfl
          rw [hw] at h9
          simp only [if_true, DataW.lit.injEq, Lit.string.injEq] at h9
          rw [hrun, hw, hv, h9]
      rw [look c, word_pin]

/-- The start that the witnesses take: the heap that the door's own run leaves. -/
theorem shaped {os : Os} {args : Array Value} : ((World.doorLaid Tryz.prog 400 os).forCall (fun _ _ => 0) ⟨#[], args, []⟩).Shaped Tryz.prog :=
  World.shaped_of_RefB (by kernel_rfl) (by kernel_rfl)
theorem laid_met (os : Os) (args : Array Value) : laidMetH Tryz.prog laid ((World.doorLaid Tryz.prog 400 os).forCall (fun _ _ => 0) ⟨#[], args, []⟩).memory :=
  laidMetH_of_parts3 (fuel := 8) (laidMet_of_run' 8 (by kernel_rfl) (by kernel_rfl)) (by kernel_rfl) (by kernel_rfl)
end Go.Proofs.YthmokdfigjffjaaGreatDoor
