/- Chapter 18: the document's Words. -/
import Derived.Test.YtdmbjndhdldggaaGreatDoorZw
import Derived.Test.YtdmbjndhdldggaaGreatDoorEnL
namespace Go.Proofs.YtdmbjndhdldggaaGreatDoor
set_option linter.unusedVariables false
set_option linter.unusedSimpArgs false
open Go.RowKit Go.Lib Go.Sort
set_option maxHeartbeats 4000000 in
set_option maxRecDepth 100000 in
theorem words_ok (l : List UInt8) (hl : l.length ≤ 1000000) (w : World) :
    Calls Tryz.prog 26 #[str l] w fun e w' => ∃ v, e = .returned v ∧ w'.ownsRow w.heap.size 9 1 v (pieces 32 l).length ((pieces 32 l).map str) ∧ NoW w w' := by
  have hsz : (⟨l.toArray⟩ : ByteArray).size = l.length := by simp [ByteArray.size]
  go_enter Tryz.func26, Tryz.ntmps26
  go_wp2_with fail
  go_loopg [3, 4, 5] (l.length + 2) (fun gg vv fr iv wx => ∃ (i f : Nat) (ps : List (List UInt8)) (v : Value), v = vv ∧ gg = l.length + 2 - i ∧ iv = .int .i64 (i : Int) ∧ fr = .int .i64 (f : Int) ∧ wx.ownsRow w.heap.size 9 1 v ps.length (ps.map str) ∧ wst l ps f i ∧ NoW w wx)
  case atStart => exact ⟨0, 0, [], _, rfl, by omega, rfl, rfl, World.ownsRow_nil _ _ _ 1, wst_start l, Fp.refl _ _⟩
  case round =>
    obtain ⟨i, f, ps, v, rfl, hg, rfl, rfl, hown, hst, hf⟩ := hrel
    have hle := wst_le hst
    have Hg := Lib.hid hg
    have Hown := Lib.hid hown
    have Hst := Lib.hid hst
    have Hf := Lib.hid hf
    clear hg hown hst hf
    have hdone : ¬ i ≤ l.length ∨ i ≤ l.length := by omega
    by_cases hil : i ≤ l.length
    · have d1 : decide ((i : Int) ≤ (l.length : Int)) = true := decide_eq_true (by omega)
      have hcut : ∀ (hps : wst l (ps ++ [(l.drop f).take (i - f)]) (i + 1) (i + 1)), True := fun _ => trivial
      clear hcut hdone
      have hn1 : (0 : Int) ≤ (f : Int) ∧ (f : Int) ≤ (i : Int) ∧ (i : Int) ≤ (l.length : Int) := by omega
      have e1 : ((⟨l.toArray⟩ : ByteArray).extract f i) = ⟨((l.drop f).take (i - f)).toArray⟩ := ext_mid l f i
      have E1 := Lib.hid e1
      clear e1
      by_cases hend : i = l.length
      · have d2 : ((i : Int) == (l.length : Int)) = true := by simp; omega
        have hst2 := wst_end Hst.out hend
        subst hend
        have Hst2 := Lib.hid hst2
        clear hst2
        go_wp2_with (at_builtin; refine wp_append1 rfl _ _ 57 rfl w.heap.size 9 (.string ByteArray.empty) 1 Tryz.underlying57 infoStr rfl (by decide) v ps.length _ rfl (World.ownsRow.alloc Hown.out _) wr.heap.size [.string ((⟨l.toArray⟩ : ByteArray).extract f l.length)] rfl rfl (heap_alloc_new _ _) ?_ ?_ ?_ ?_)
        · intro u hu; simp at hu; subst hu; rfl
        · omega
        · have := Hf.out.size; simp; omega
        intro v2 w3 hown3 hgr3 hne3 _
        have hf3 : NoW w w3 := Fp.grown (Hf.out.alloc _) hgr3 (fun i e => Or.inl (World.ownsRow.lt Hown.out i e).1)
        have Hf3 := Lib.hid hf3
        have Hown3 := Lib.hid hown3
        clear hf3 hown3 hgr3 hne3
        go_wp2_with fail
        go_roundg (l.length + 1 - l.length)
        case measure => have := Hg.out; omega
        case rel => exact ⟨l.length + 1, l.length + 1, ps ++ [(l.drop f).take (l.length - f)], _, rfl, by omega, by go_num, by go_num, by have h := Hown3.out; rw [E1.out] at h; simpa using h, Hst2.out, Hf3.out⟩
      · have hlt : i < l.length := by omega
        have d2 : ((i : Int) == (l.length : Int)) = false := by simp; omega
        have hszi : i < (⟨l.toArray⟩ : ByteArray).size := by rw [hsz]; omega
        have hat := at_list l i hlt hszi
        by_cases h32 : l[i] = 32
        · have d3 : ((((⟨l.toArray⟩ : ByteArray)[i]'hszi).toNat : Int) == 32) = true := by rw [hat, h32]; rfl
          have hst2 := wst_cut Hst.out hlt h32
          have Hst2 := Lib.hid hst2
          clear hst2 h32 hat
          go_wp2_with (at_builtin; refine wp_append1 rfl _ _ 57 rfl w.heap.size 9 (.string ByteArray.empty) 1 Tryz.underlying57 infoStr rfl (by decide) v ps.length _ rfl (World.ownsRow.alloc Hown.out _) wr.heap.size [.string ((⟨l.toArray⟩ : ByteArray).extract f i)] rfl rfl (heap_alloc_new _ _) ?_ ?_ ?_ ?_)
          · intro u hu; simp at hu; subst hu; rfl
          · omega
          · have := Hf.out.size; simp; omega
          intro v2 w3 hown3 hgr3 hne3 _
          have hf3 : NoW w w3 := Fp.grown (Hf.out.alloc _) hgr3 (fun i e => Or.inl (World.ownsRow.lt Hown.out i e).1)
          have Hf3 := Lib.hid hf3
          have Hown3 := Lib.hid hown3
          clear hf3 hown3 hgr3 hne3
          go_wp2_with fail
          go_roundg (l.length + 1 - i)
          case measure => have := Hg.out; omega
          case rel => exact ⟨i + 1, i + 1, ps ++ [(l.drop f).take (i - f)], _, rfl, by omega, by go_num, by go_num, by have h := Hown3.out; rw [E1.out] at h; simpa using h, Hst2.out, Hf3.out⟩
        · have d3 : ((((⟨l.toArray⟩ : ByteArray)[i]'hszi).toNat : Int) == 32) = false := by
            rw [hat, beq_eq_false_iff_ne]
            intro e
            exact h32 (UInt8.toNat_inj.1 (by show (l[i]).toNat = 32; omega))
          have hst2 := wst_skip Hst.out hlt h32
          have Hst2 := Lib.hid hst2
          clear hst2 h32 hat
          go_wp2_with fail
          go_roundg (l.length + 1 - i)
          case measure => have := Hg.out; omega
          case rel => exact ⟨i + 1, f, ps, _, rfl, by omega, by go_num, rfl, Hown.out, Hst2.out, Hf.out⟩
    · have d1 : decide ((i : Int) ≤ (l.length : Int)) = false := decide_eq_false (by omega)
      have hps := wst_done Hst.out (by omega)
      have Hps := Lib.hid hps
      clear hps hdone
      go_wp2_with fail
      go_ret
      exact ⟨_, rfl, by rw [← Hps.out]; exact Hown.out, Hf.out⟩
end Go.Proofs.YtdmbjndhdldggaaGreatDoor
