/- Chapter 18: the document's number. -/
import Derived.Test.YtdmbjndhdldggaaGreatDoorZr
namespace Go.Proofs.YtdmbjndhdldggaaGreatDoor
set_option linter.unusedVariables false
set_option linter.unusedSimpArgs false
open Go.RowKit Go.Lib Go.Sort
def digsB (l : List UInt8) : Bool := l.all fun c => decide (48 ≤ c.toNat ∧ c.toNat ≤ 57)
theorem digsB_iff {l : List UInt8} : digsB l = true ↔ ∀ c, c ∈ l → 48 ≤ c.toNat ∧ c.toNat ≤ 57 := by simp [digsB]
/-- What the document's number reads. -/
def numI (l : List UInt8) : Int := if l ≠ [] ∧ l.length ≤ 15 ∧ digsB l = true then (val l : Int) else -1
set_option maxHeartbeats 1000000 in
theorem rnum_ok (l : List UInt8) (w : World) :
    Calls Tryz.prog 28 #[str l] w fun e w' => e = .returned (.int .i64 (numI l)) ∧ w' = w := by
  by_cases h0 : l = []
  · subst h0
    rw [show numI [] = -1 from rfl]
    go_enter Tryz.func28, Tryz.ntmps28
    go_wp2_with fail
    go_ret
    exact ⟨rfl, rfl⟩
  have hb0 : (l == []) = false := by simpa using h0
  by_cases h15 : 15 < l.length
  · have e : numI l = -1 := by unfold numI; rw [if_neg]; rintro ⟨_, h, _⟩; omega
    rw [e]
    clear e
    go_enter Tryz.func28, Tryz.ntmps28
    go_wp2_with fail
    go_ret
    exact ⟨rfl, rfl⟩
  have hl15 : l.length ≤ 15 := by omega
  clear h15
  have H0 := Lib.hid h0
  go_enter Tryz.func28, Tryz.ntmps28
  go_wp2_with fail
  go_loop [3, 4] (fun n i => ∃ k : Nat, k ≤ l.length ∧ i = .int .i64 k ∧ n = .int .i64 (val (l.take k)) ∧ ∀ c, c ∈ l.take k → 48 ≤ c.toNat ∧ c.toNat ≤ 57) (fun _ i => l.length - (RowKit.intOf i).toNat)
  case atStart => exact ⟨0, Nat.zero_le _, rfl, rfl, by simp⟩
  case round =>
    obtain ⟨k, hk, rfl, rfl, hd⟩ := hrel
    have hv := val_lt k (l.take k) (by rw [List.length_take]; omega) hd
    have Hd := Lib.hid hd
    clear hd
    by_cases hlt : k < l.length
    · have hv4 : val (l.take k) < 100000000000000 := Nat.lt_of_lt_of_le hv (Nat.le_trans (Nat.pow_le_pow_right (by omega) (show k ≤ 14 by omega)) (by decide))
      have hsz : k < (⟨l.toArray⟩ : ByteArray).size := by simpa [ByteArray.size] using hlt
      have htk : l.take (k + 1) = l.take k ++ [l[k]] := List.take_succ_eq_append_getElem hlt
      have hat := at_list l k hlt hsz
      have Htk := Lib.hid htk
      clear htk hv
      by_cases hdig : 48 ≤ (l[k]).toNat ∧ (l[k]).toNat ≤ 57
      · have hg1 : (48 : Int) ≤ (((⟨l.toArray⟩ : ByteArray)[k]'hsz).toNat : Int) := by rw [hat]; omega
        have hg2 : (((⟨l.toArray⟩ : ByteArray)[k]'hsz).toNat : Int) ≤ 57 := by rw [hat]; omega
        have Hat := Lib.hid hat
        have Hdig := Lib.hid hdig
        clear hat hdig
        go_wp2_with fail
        go_round
        case rel =>
          have e : (10 * (val (l.take k) : Int) + ((((⟨l.toArray⟩ : ByteArray)[k]'hsz).toNat : Int) - 48)) = ((val (l.take k) * 10 + ((l[k]).toNat - 48) : Nat) : Int) := by
            rw [Hat.out]; have := Hdig.out; omega
          refine ⟨k + 1, by omega, by go_num, by rw [e, Htk.out, val_snoc], fun c hc => ?_⟩
          rw [Htk.out] at hc
          rcases List.mem_append.1 hc with hc | hc
          · exact Hd.out c hc
          · obtain rfl := List.mem_singleton.1 hc
            exact Hdig.out
        case measure => simp [RowKit.intOf]; omega
      · have hn : numI l = -1 := by
          unfold numI
          rw [if_neg]
          rintro ⟨_, _, h⟩
          exact hdig (digsB_iff.1 h _ (List.getElem_mem hlt))
        have Hn := Lib.hid hn
        clear hn
        by_cases h48 : (l[k]).toNat < 48
        · have hg1 : (((⟨l.toArray⟩ : ByteArray)[k]'hsz).toNat : Int) < 48 := by rw [hat]; omega
          clear hat hdig
          go_wp2_with fail
          go_ret
          exact ⟨by rw [Hn.out]; rfl, rfl⟩
        · have hg1 : (57 : Int) < (((⟨l.toArray⟩ : ByteArray)[k]'hsz).toNat : Int) := by rw [hat]; omega
          have hg2 : (48 : Int) ≤ (((⟨l.toArray⟩ : ByteArray)[k]'hsz).toNat : Int) := by omega
          clear hat hdig
          go_wp2_with fail
          go_ret
          exact ⟨by rw [Hn.out]; rfl, rfl⟩
    · obtain rfl : k = l.length := by omega
      have hn : numI l = (val l : Int) := by
        unfold numI
        rw [if_pos ⟨H0.out, hl15, digsB_iff.2 (by have := Hd.out; rwa [List.take_length] at this)⟩]
      have Hn := Lib.hid hn
      clear hn hv
      rw [List.take_length]
      go_wp2_with fail
      go_ret
      exact ⟨by rw [Hn.out]; rfl, rfl⟩
end Go.Proofs.YtdmbjndhdldggaaGreatDoor
