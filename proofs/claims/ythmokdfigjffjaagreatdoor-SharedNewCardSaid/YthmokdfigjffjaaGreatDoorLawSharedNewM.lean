/- The law porterlaw22.SharedNew: for every input the call returns true, and each argument reads behind the call as it read before; what the row lists is tied to the program's text. No conditions beside those of the row. -/
import Derived.Test.YthmokdfigjffjaaGreatDoorMbc
import Derived.Test.YthmokdfigjffjaaGreatDoorMas
import Derived.Test.YthmokdfigjffjaaGreatDoorMbd
import Derived.Test.YthmokdfigjffjaaGreatDoorMbe
import Derived.Test.YthmokdfigjffjaaGreatDoorCards
import Derived.Test.YthmokdfigjffjaaGreatDoorTie
import Derived.SevenTiedAt
import Derived.Test.YthmokdfigjffjaaGreatDoorMaa
import Derived.Test.YthmokdfigjffjaaGreatDoorMab
import Derived.Test.YthmokdfigjffjaaGreatDoorMac
import Derived.Test.YthmokdfigjffjaaGreatDoorMad
import Derived.Test.YthmokdfigjffjaaGreatDoorMae
import Derived.Test.YthmokdfigjffjaaGreatDoorMaf
import Derived.Test.YthmokdfigjffjaaGreatDoorMag
import Derived.Test.YthmokdfigjffjaaGreatDoorMah
import Derived.Test.YthmokdfigjffjaaGreatDoorMai
import Derived.Test.YthmokdfigjffjaaGreatDoorMaj
import Derived.Test.YthmokdfigjffjaaGreatDoorMak
import Derived.Test.YthmokdfigjffjaaGreatDoorMal
import Derived.Test.YthmokdfigjffjaaGreatDoorMam
import Derived.Test.YthmokdfigjffjaaGreatDoorMan
import Derived.Test.YthmokdfigjffjaaGreatDoorMao
import Derived.Test.YthmokdfigjffjaaGreatDoorMap
import Derived.Test.YthmokdfigjffjaaGreatDoorMaq
import Derived.Test.YthmokdfigjffjaaGreatDoorMar
import Derived.Test.YthmokdfigjffjaaGreatDoorMat
import Derived.Test.YthmokdfigjffjaaGreatDoorMau
import Derived.Test.YthmokdfigjffjaaGreatDoorMav
import Derived.Test.YthmokdfigjffjaaGreatDoorMaw
import Derived.Test.YthmokdfigjffjaaGreatDoorMax
import Derived.Test.YthmokdfigjffjaaGreatDoorMay
import Derived.Test.YthmokdfigjffjaaGreatDoorMaz
import Derived.Test.YthmokdfigjffjaaGreatDoorMba
import Derived.Test.YthmokdfigjffjaaGreatDoorMbb
namespace Go.Proofs.YthmokdfigjffjaaGreatDoor
set_option linter.unusedVariables false
set_option linter.unusedSimpArgs false
namespace sharedNew
open Go.RowKit Go.ChangeShapes Go.WideShapes Go.ChangeAt
open Go.ChangeMaps (open_string shut_string)
set_option maxRecDepth 100000 in
theorem lifted (os : Os) (started : os.Started) (H : Type) (enc : TypeId × Value → H) :
    ReturnsInHanded {} Tryz.checked os 3 .any (fun w args => (Rows.sharedNewSpec.pre enc Tryz.prog Tryz.f3 [] false w args ∧ laidMetH Tryz.prog Rows.sharedNewRow.laid w) ∧ sizedMet enc Tryz.prog Tryz.f3 (OpenSpec.ofChange Rows.sharedNewSpec) false w args)
      (Rows.sharedNewSpec.post enc Tryz.prog Tryz.f3 false true false false) := by
  refine returns_laid_shaped (C := Tryz.checked) (X := fun w _ => laidMetH Tryz.prog Rows.sharedNewRow.laid w) (fun _ _ _ hh h => h.of_heap hh) own started (by kernel_rfl) Tryz.func3
    (ChangeSpec.witness_shaped (enc := enc) (C := Tryz.checked) (os := os) (X := fun w _ => laidMetH Tryz.prog Rows.sharedNewRow.laid w) false (World.doorLaid Tryz.prog 400 os) #[((Tryz.prog.info? 27).bind (·.zero)).getD (.bool false), ((Tryz.prog.info? 49).bind (·.zero)).getD (.bool false)] 8 rfl
      shaped (by kernel_rfl) (by kernel_rfl) (by kernel_rfl) (laid_met os _)) ?_
  intro W base args ds gs before hval0 hW hcnd _ hL hS _
  have htb : TbC W := tb_of hL
  have hval : ∀ (j : Nat) t v, Tryz.f3.params[j]? = some t → args[j]? = some v → Value.okWide Tryz.prog W .any base t v := hval0
  have hW' := hW
  obtain ⟨p, q, hA0, hV, rfl, hfz, hnd⟩ := hW
  have hA : DataW.TrodAll enc Tryz.prog W 0 (fun _ => true) true Tryz.f3.params.toList args.toList ds p := hA0
  rw [Tryz.params3] at hA hval
  obtain ⟨v0, vs0, d0, ds0, p0, q0, hargs, rfl, rfl, h0, r0⟩ := trodAll_cons hA
  obtain ⟨v1, vs1, d1, ds1, p1, q1, rfl, rfl, rfl, h1, r1⟩ := trodAll_cons r0
  obtain ⟨rfl, rfl, rfl⟩ := trodAll_nil r1
  obtain rfl : args = #[v0, v1] := by cases args; simp_all
  obtain ⟨rfl, rfl⟩ := trodVars_none hV
  have lt0 : ∀ x ∈ p0, x.block < W.heap.size := by obtain ⟨m, hm⟩ := h0; exact DataW.trod_lt m _ _ _ hm
  have g0 : Good Tryz.prog W 27 v0 := good_of (hval 0 27 v0 rfl rfl) h0
  have lt1 : ∀ x ∈ p1, x.block < W.heap.size := by obtain ⟨m, hm⟩ := h1; exact DataW.trod_lt m _ _ _ hm
  have g1 : Good Tryz.prog W 49 v1 := good_of (hval 1 49 v1 rfl rfl) h1
  clear hA0 hval0
  refine (walk_SharedNew W htb v0 v1 g0 g1).mono fun e W' ⟨he, bel0⟩ => ?_
  have bel := bel0.below
  subst he
  exact ⟨_, rfl, _, _, _, [], _, [], hW', trodAll_mk1 (shut_bool Tryz.underlying4 _), (trodAll_cons_mk (Below.trod laidOut (by kernel_rfl) (of_decide_eq_true (by kernel_rfl)) h0 bel lt0) (trodAll_cons_mk (Below.trod laidOut (by kernel_rfl) (of_decide_eq_true (by kernel_rfl)) h1 bel lt1) trodAll_mk0)), rfl, bel.frame _, fun h => by cases h⟩

theorem over : Rows.SharedNewSaid :=
  OpenClaim.holds_of_wide 3 Tryz.f3 rfl rfl rfl rfl rfl rfl rfl ⟨rfl, rfl, rfl, rfl, rfl⟩ rfl rfl rfl rfl rfl (by kernel_rfl) Tryz.func3 joined_sharedNew
    (of_decide_eq_true (by kernel_rfl)) (by unfold Func.isWrapper; first | (rw [if_pos (by decide +kernel)]; kernel_rfl) | (rw [if_neg (by decide +kernel)]; exact ⟨rfl, rfl⟩))
    (fun os started H enc _ => lifted os started H enc)

/-- THE STATEMENT. -/
theorem proved : Rows.SharedNewCardSaid :=
  Claim7.holds_tied_plain_at .later [] [.data, .mapped, .mapped] true (true, "e95a0196c5e4cdb14defa15d23ca23f4328e5882ff24cfeab53bf9f85421b39d") false
    over (fun _ h => by cases h) (by kernel_rfl) (fun _ h => by cases h) sharedNew_row_tie rfl ⟨rfl, rfl⟩ (by kernel_rfl) rfl
    (fun f fn hf hfn => by
      obtain rfl : f = 3 := Option.some.inj ((show Tryz.prog.funcNamed "porter/porterlaw22.SharedNew" = some 3 by kernel_rfl).symm.trans hf) |>.symm
      obtain rfl : fn = Tryz.f3 := (Option.some.inj (Tryz.func3.symm.trans hfn)).symm
      exact ⟨by kernel_rfl, fun j t ht => by
        rw [Tryz.params3] at ht
        have hm : t ∈ [27, 49] := by simpa using Array.mem_of_getElem? ht
        have hall : ([27, 49].all fun u => !Tryz.prog.wantsStandIn u) = true := by kernel_rfl
        exact (show Tryz.prog.wantsStandIn t = false by simpa using List.all_eq_true.1 hall t hm)⟩)
    (by kernel_rfl)
#print axioms proved
end sharedNew
end Go.Proofs.YthmokdfigjffjaaGreatDoor
