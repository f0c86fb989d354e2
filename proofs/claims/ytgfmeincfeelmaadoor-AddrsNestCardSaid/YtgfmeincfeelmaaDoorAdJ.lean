/- Chapter 03: the document's Number. -/
import Derived.Test.YtgfmeincfeelmaaDoorAdI
namespace Go.Proofs.YtgfmeincfeelmaaDoor
set_option linter.unusedVariables false
set_option linter.unusedSimpArgs false
open Go.RowKit Go.Lib Go.Sort

theorem val_lt : ∀ (k : Nat) (l : List UInt8), l.length = k → (∀ c, c ∈ l → 48 ≤ c.toNat ∧ c.toNat ≤ 57) → val l < 10 ^ k
  | 0, l, hl, _ => by
    obtain rfl : l = [] := List.eq_nil_of_length_eq_zero hl
    simp [val]
  | k + 1, l, hl, h => by
    have hne : l ≠ [] := fun e => by rw [e] at hl; simp at hl
    rw [← List.dropLast_concat_getLast hne, val_snoc, Nat.pow_succ]
    have h1 := val_lt k l.dropLast (by simp [hl]) (fun c hc => h c (List.dropLast_subset l hc))
    have h2 := h _ (List.getLast_mem hne)
    omega

set_option maxHeartbeats 1000000 in
theorem rt_number (l : List UInt8) (hl : l.length ≤ 4294967000) (most : Nat) (hm : most ≤ 65535) (w : World) :
    Calls Tryd.prog 31 #[str l, .int .u32 most] w (Ret1 (numV .u32 (num most l)) w) := by
  by_cases hlen : 1 ≤ l.length ∧ l.length ≤ 5
  · obtain ⟨hl1, hl5⟩ := hlen
    clear hl
    go_enter Tryd.func31, Tryd.ntmps31
    go_wp2_with fail
    go_loop [6, 7] (fun n i => ∃ k : Nat, k ≤ l.length ∧ i = .int .i64 k ∧ n = .int .u32 (val (l.take k)) ∧ ∀ c, c ∈ l.take k → 48 ≤ c.toNat ∧ c.toNat ≤ 57) (fun _ i => l.length - (RowKit.intOf i).toNat)
    case atStart => exact ⟨0, Nat.zero_le _, rfl, rfl, by simp⟩
    case round =>
      obtain ⟨k, hk, rfl, rfl, hd⟩ := hrel
      have hv := val_lt k (l.take k) (by rw [List.length_take]; omega) hd
      have Hd := Lib.hid hd
      clear hd
      by_cases hlt : k < l.length
      · have hv4 : val (l.take k) < 10000 := Nat.lt_of_lt_of_le hv (Nat.le_trans (Nat.pow_le_pow_right (by omega) (show k ≤ 4 by omega)) (by decide))
        have hsz : k < (⟨l.toArray⟩ : ByteArray).size := by simpa [ByteArray.size] using hlt
        have htk : l.take (k + 1) = l.take k ++ [l[k]] := List.take_succ_eq_append_getElem hlt
        have hat := at_list l k hlt hsz
        have Htk := Lib.hid htk
        clear htk hv
        by_cases hdig : 48 ≤ (l[k]).toNat ∧ (l[k]).toNat ≤ 57
        · have hg1 : (48 : Int) ≤ (((⟨l.toArray⟩ : ByteArray)[k]'hsz).toNat : Int) := by rw [hat]; omega
          have hg2 : (((⟨l.toArray⟩ : ByteArray)[k]'hsz).toNat : Int) ≤ 57 := by rw [hat]; omega
          have Hat := Lib.hid hat
          have Hdig := Lib.hid hdig
          clear hat hdig
          go_wp2_with fail
          go_round
          case rel =>
            have e : (10 * (val (l.take k) : Int) + ((((⟨l.toArray⟩ : ByteArray)[k]'hsz).toNat : Int) - 48)) = ((val (l.take k) * 10 + ((l[k]).toNat - 48) : Nat) : Int) := by
              rw [Hat.out]; have := Hdig.out; omega
            refine ⟨k + 1, by omega, by go_num, by rw [e, Htk.out, val_snoc], fun c hc => ?_⟩
            rw [Htk.out] at hc
            rcases List.mem_append.1 hc with hc | hc
            · exact Hd.out c hc
            · obtain rfl := List.mem_singleton.1 hc
              exact Hdig.out
          case measure => simp [RowKit.intOf]; omega
        · have hn : num most l = none := num_none.2 fun n hn e => hdig (by
            have := dec_digits n l[k] (by rw [← e]; exact List.getElem_mem hlt)
            exact this)
          have Hn := Lib.hid hn
          clear hn
          by_cases h48 : (l[k]).toNat < 48
          · have hg1 : (((⟨l.toArray⟩ : ByteArray)[k]'hsz).toNat : Int) < 48 := by rw [hat]; omega
            clear hat hdig
            go_wp2_with fail
            refine bodyPost_ret (v := .tuple #[.int .u32 0, .bool false]) (by simp [results, Tryd.results31, go_sem]) rfl ⟨by rw [Hn.out]; rfl, Fp.refl _ _⟩
          · have hg1 : (57 : Int) < (((⟨l.toArray⟩ : ByteArray)[k]'hsz).toNat : Int) := by rw [hat]; omega
            have hg2 : (48 : Int) ≤ (((⟨l.toArray⟩ : ByteArray)[k]'hsz).toNat : Int) := by omega
            clear hat hdig
            go_wp2_with fail
            refine bodyPost_ret (v := .tuple #[.int .u32 0, .bool false]) (by simp [results, Tryd.results31, go_sem]) rfl ⟨by rw [Hn.out]; rfl, Fp.refl _ _⟩
      · obtain rfl : k = l.length := by omega
        rw [List.take_length] at hv ⊢
        have hv5 : val l < 100000 := Nat.lt_of_lt_of_le hv (Nat.le_trans (Nat.pow_le_pow_right (by omega) hl5) (by decide))
        clear hv
        by_cases hgt : most < val l
        · have hn : num most l = none := num_none.2 fun n hn e => by
            rw [e, val_of_dec] at hgt; omega
          have Hn := Lib.hid hn
          clear hn
          go_wp2_with fail
          refine bodyPost_ret (v := .tuple #[.int .u32 0, .bool false]) (by simp [results, Tryd.results31, go_sem]) rfl ⟨by rw [Hn.out]; rfl, Fp.refl _ _⟩
        · have hle : val l ≤ most := by omega
          go_wp2_with fail
          refine (digits_any (val l) (by omega) _).mono ?_
          rintro e w' ⟨rfl, rfl⟩
          by_cases hs : decDigits (val l) = l
          · have hn : num most l = some (val l) := num_some.2 ⟨hs.symm, hle⟩
            have hb : (decDigits (val l) == l) = true := by simpa using hs
            have Hn := Lib.hid hn
            clear hn hs
            go_wp2_with fail
            refine bodyPost_ret (v := .tuple #[.int .u32 (val l), .bool true]) (by simp [results, Tryd.results31, go_sem]) rfl ⟨by rw [Hn.out]; rfl, Fp.refl _ _⟩
          · have hn : num most l = none := num_none.2 fun n hn e => hs (by rw [e, val_of_dec])
            have hb : (decDigits (val l) == l) = false := beq_eq_false_iff_ne.2 hs
            have Hn := Lib.hid hn
            clear hn hs
            go_wp2_with fail
            refine bodyPost_ret (v := .tuple #[.int .u32 0, .bool false]) (by simp [results, Tryd.results31, go_sem]) rfl ⟨by rw [Hn.out]; rfl, Fp.refl _ _⟩
  · have hn : num most l = none := num_none.2 fun n hn e => hlen (by
      have h1 := dec_len 5 n (by omega) (by omega)
      have h2 := List.length_pos_iff.2 (dec_ne n)
      rw [e]; omega)
    have Hn := Lib.hid hn
    clear hn
    by_cases h1 : l.length < 1
    · clear hlen
      go_enter Tryd.func31, Tryd.ntmps31
      go_wp2_with fail
      refine bodyPost_ret (v := .tuple #[.int .u32 0, .bool false]) (by simp [results, Tryd.results31, go_sem]) rfl ⟨by rw [Hn.out]; rfl, Fp.refl _ _⟩
    · have h5 : 5 < l.length := by omega
      clear hlen
      go_enter Tryd.func31, Tryd.ntmps31
      go_wp2_with fail
      refine bodyPost_ret (v := .tuple #[.int .u32 0, .bool false]) (by simp [results, Tryd.results31, go_sem]) rfl ⟨by rw [Hn.out]; rfl, Fp.refl _ _⟩
end Go.Proofs.YtgfmeincfeelmaaDoor
