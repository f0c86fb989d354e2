/- Chapter 03: the document's Cut. -/
import Derived.Test.YtgfmeincfeelmaaDoorAdG
namespace Go.Proofs.YtgfmeincfeelmaaDoor
set_option linter.unusedVariables false
set_option linter.unusedSimpArgs false
open Go.RowKit Go.Lib Go.Sort

def cutV : Option (List UInt8 × List UInt8) → Value
  | some (x, y) => .tuple #[str x, str y, .bool true]
  | none => .tuple #[str [], str [], .bool false]

theorem ext_take (l : List UInt8) (k : Nat) : (⟨l.toArray⟩ : ByteArray).extract 0 k = ⟨(l.take k).toArray⟩ := by
  rw [byte_str ((⟨l.toArray⟩ : ByteArray).extract 0 k), extract_from_zero]
theorem ext_drop (l : List UInt8) (k : Nat) : (⟨l.toArray⟩ : ByteArray).extract k l.length = ⟨(l.drop k).toArray⟩ := by
  rw [byte_str ((⟨l.toArray⟩ : ByteArray).extract k l.length), extract_data]
  congr 2
  simp [List.take_of_length_le]
theorem at_list (l : List UInt8) (k : Nat) (h : k < l.length) (h2 : k < (⟨l.toArray⟩ : ByteArray).size) : (⟨l.toArray⟩ : ByteArray)[k]'h2 = l[k] := rfl

set_option maxHeartbeats 1000000 in
theorem rt_cut (l : List UInt8) (hl : l.length ≤ 4294967000) (c : UInt8) (w : World) :
    Calls Tryd.prog 30 #[str l, .int .u8 c.toNat] w (Ret1 (cutV (cutLast c l)) w) := by
  go_enter Tryd.func30, Tryd.ntmps30
  go_wp2_with fail
  go_loop [7] (fun i => ∃ k : Nat, k ≤ l.length ∧ i = .int .i64 ((k : Int) - 1) ∧ c ∉ l.drop k) (fun i => (RowKit.intOf i + 1).toNat)
  case atStart => exact ⟨l.length, Nat.le_refl _, by simp, by simp⟩
  case round =>
    obtain ⟨k, hk, rfl, hno⟩ := hrel
    have Hno := Lib.hid hno
    clear hno
    rcases k with _ | k
    · have hn : cutLast c l = none := cutLast_none.2 (by have := Hno.out; simpa using this)
      have Hn := Lib.hid hn
      clear hn
      go_wp2_with fail
      refine bodyPost_ret (v := .tuple #[str [], str [], .bool false]) (by simp [results, Tryd.results30, go_sem]) rfl ⟨by rw [Hn.out]; rfl, Fp.refl _ _⟩
    · have hkl : k < l.length := by omega
      have e1 : (((k + 1 : Nat) : Int) - 1) = (k : Int) := by omega
      rw [e1]
      have hsz : k < (⟨l.toArray⟩ : ByteArray).size := by simpa [ByteArray.size] using hkl
      by_cases hc : l[k] = c
      · have hb : ((((⟨l.toArray⟩ : ByteArray)[k]'hsz).toNat : Int) == (c.toNat : Int)) = true := by rw [at_list l k hkl, hc]; simp
        have hcut : cutLast c l = some (l.take k, l.drop (k + 1)) := cutLast_some.2 ⟨by rw [← hc, List.getElem_cons_drop, List.take_append_drop], Hno.out⟩
        have Hcut := Lib.hid hcut
        have hw1 : IntKind.i64.wrap ((k : Int) + 1) = (k : Int) + 1 := IntWalk.i64_in _ (by omega)
        have hk0 : (0 : Int) ≤ (k : Int) + 1 ∧ (k : Int) + 1 ≤ (l.length : Int) := by omega
        have hk1 : (0 : Int) ≤ (k : Int) ∧ (k : Int) ≤ (l.length : Int) := by omega
        have hkt : ((k : Int) + 1).toNat = k + 1 := by omega
        clear hcut hc
        go_wp2_with fail
        go_quiet (fail)
        go_wp2_with fail
        refine bodyPost_ret (v := .tuple #[.string ((⟨l.toArray⟩ : ByteArray).extract 0 k), .string ((⟨l.toArray⟩ : ByteArray).extract (k + 1) l.length), .bool true]) (by simp [results, Tryd.results30, go_sem]) rfl ⟨by rw [Hcut.out, ext_take, ext_drop]; rfl, (Fp.refl _ _).drewN _⟩
      · have hb : ((((⟨l.toArray⟩ : ByteArray)[k]'hsz).toNat : Int) == (c.toNat : Int)) = false := by
          rw [at_list l k hkl, beq_eq_false_iff_ne]
          intro e
          exact hc (UInt8.toNat_inj.1 (by omega))
        go_wp2_with fail
        go_round
        case rel =>
          refine ⟨k, by omega, rfl, ?_⟩
          rw [List.drop_eq_getElem_cons hkl, List.mem_cons]
          rintro (h | h)
          · exact hc h.symm
          · exact Hno.out h
        case measure => simp [RowKit.intOf]
end Go.Proofs.YtgfmeincfeelmaaDoor
