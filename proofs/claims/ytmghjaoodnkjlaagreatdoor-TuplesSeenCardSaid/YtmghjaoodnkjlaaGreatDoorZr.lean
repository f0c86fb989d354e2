/- Chapter 03: the document's texts and readings of addresses, endpoints (of other texts). -/
import Derived.Test.YtmghjaoodnkjlaaGreatDoorEpY
import Derived.Test.YtmghjaoodnkjlaaGreatDoorAd
import Derived.Test.YtmghjaoodnkjlaaGreatDoorEnL
namespace Go.Proofs.YtmghjaoodnkjlaaGreatDoor
set_option linter.unusedVariables false
set_option linter.unusedSimpArgs false
open Go.RowKit Go.Lib Go.Sort

theorem dig_ext : ∀ d : Nat, d < 10 → (⟨#[48, 49, 50, 51, 52, 53, 54, 55, 56, 57]⟩ : ByteArray).extract d (d + 1) = ⟨[UInt8.ofNat (48 + d)].toArray⟩ := by
  intro d hd
  have : d = 0 ∨ d = 1 ∨ d = 2 ∨ d = 3 ∨ d = 4 ∨ d = 5 ∨ d = 6 ∨ d = 7 ∨ d = 8 ∨ d = 9 := by omega
  rcases this with rfl | rfl | rfl | rfl | rfl | rfl | rfl | rfl | rfl | rfl <;> rfl
theorem ret_str {a b : ByteArray} (h : a = b) : Ending.returned (.string a) = .returned (.string b) := by rw [h]
set_option maxHeartbeats 1000000 in
theorem rf_digits : ∀ (k n : Nat), n ≤ k → n < 4294967296 → ∀ w : World, Calls Tryz.prog 78 #[.int .u32 n] w fun e w' => e = .returned (str (decDigits n)) ∧ w' = w := by
  intro k
  induction k with
  | zero =>
    intro n hk hn w
    obtain rfl : n = 0 := by omega
    go_enter Tryz.func78, Tryz.ntmps78
    go_wp2_with fail
    go_ret
    exact ⟨ret_str ((dig_ext 0 (by omega)).trans (by rw [dec_small (by omega)])), rfl⟩
  | succ k ih =>
    intro n hk hn w
    by_cases h10 : n < 10
    · have hd := dec_small h10
      have Hd := Lib.hid hd
      clear hd ih
      go_enter Tryz.func78, Tryz.ntmps78
      go_wp2_with fail
      go_ret
      exact ⟨ret_str (by rw [dig_ext _ (by omega), Hd.out, Nat.mod_eq_of_lt h10]), rfl⟩
    · have hd := dec_big h10
      have Hd := Lib.hid hd
      have hc := ih (n / 10) (by omega) (by omega)
      have Hc := Lib.hid hc
      have hl := dec_len 10 (n / 10) (by omega) (by omega)
      clear hd hc ih
      go_enter Tryz.func78, Tryz.ntmps78
      go_wp2_with fail
      refine (Hc.out _).mono ?_
      rintro e w' ⟨rfl, rfl⟩
      go_wp2_with fail
      go_ret
      exact ⟨ret_str (by rw [dig_ext _ (by omega), ByteArray.mk_append_mk, Hd.out]), rfl⟩
theorem digits_any (n : Nat) (hn : n < 4294967296) (w : World) : Calls Tryz.prog 78 #[.int .u32 n] w fun e w' => e = .returned (str (decDigits n)) ∧ w' = w := rf_digits n n (Nat.le_refl _) hn w

set_option maxHeartbeats 1000000 in
theorem rt_text (a : Nat) (ha : a < 4294967296) (w : World) : Calls Tryz.prog 77 #[.int .u32 a] w fun e w' => e = .returned (str (addrT a)) ∧ w' = w := by
  have l0 := dec_len 3 (a / 16777216) (by omega) (by omega)
  have l1 := dec_len 3 (a / 65536 % 256) (by omega) (by omega)
  have l2 := dec_len 3 (a / 256 % 256) (by omega) (by omega)
  have l3 := dec_len 3 (a % 256) (by omega) (by omega)
  go_enter Tryz.func77, Tryz.ntmps77
  go_wp2_with fail
  refine (digits_any (a / 16777216) (by omega) _).mono ?_
  rintro e w' ⟨rfl, rfl⟩
  go_wp2_with fail
  refine (digits_any (a / 65536 % 256) (by omega) _).mono ?_
  rintro e w' ⟨rfl, rfl⟩
  go_wp2_with fail
  refine (digits_any (a / 256 % 256) (by omega) _).mono ?_
  rintro e w' ⟨rfl, rfl⟩
  go_wp2_with fail
  refine (digits_any (a % 256) (by omega) _).mono ?_
  rintro e w' ⟨rfl, rfl⟩
  go_wp2_with fail
  go_ret
  exact ⟨ret_str (by simp [addrT, ByteArray.mk_append_mk]), rfl⟩

set_option maxHeartbeats 1000000 in
theorem rt_ptext (a : Nat) (ha : a < 4294967296) (p : Nat) (hp : p < 65536) (w : World) :
    Calls Tryz.prog 44 #[.agg #[.int .u32 a, .int .u16 p]] w (Ret1 (str (withT 58 a p)) w) := by
  have hl1 := addrT_len ha
  have hl2 := dec_len 5 p (by omega) (by omega)
  have hadd1 : ∀ W, (Op.stringOp .add ⟨(addrT a).toArray⟩ ⟨#[58]⟩).run Tryz.prog W = .ok (str (addrT a ++ [58])) W := fun W => run_string_add_lists W (addrT a) [58] (by omega) (by simp)
  have hadd2 : ∀ W, (Op.stringOp .add ⟨(addrT a ++ [58]).toArray⟩ ⟨(decDigits p).toArray⟩).run Tryz.prog W = .ok (str (addrT a ++ [58] ++ decDigits p)) W := fun W => run_string_add_lists W (addrT a ++ [58]) (decDigits p) (by simp; omega) (by omega)
  have hwi : IntKind.u32.wrap (p : Int) = p := IntWalk.u32_in _ (by omega)
  have hT := fun W => rt_text a ha W
  have hD := fun W => digits_any p (by omega) W
  have HT := Lib.hid hT
  have HD := Lib.hid hD
  have Hl : withT 58 a p = addrT a ++ 58 :: decDigits p := rfl
  have HL := Lib.hid Hl
  clear hT hD ha Hl
  go_enter Tryz.func44, Tryz.ntmps44
  go_wp2_with fail
  go_quiet ((first | (go_at_call 77; exact Calls.quiet_of_same (HT.out _)) | (go_at_call 78; exact Calls.quiet_of_same (HD.out _))))
  go_wp2_with fail
  go_ret
  exact ⟨by rw [HL.out]; rfl, ((Fp.refl _ _).alloc _).drewN _⟩

def cutV : Option (List UInt8 × List UInt8) → Value
  | some (x, y) => .tuple #[str x, str y, .bool true]
  | none => .tuple #[str [], str [], .bool false]
theorem ext_take (l : List UInt8) (k : Nat) : (⟨l.toArray⟩ : ByteArray).extract 0 k = ⟨(l.take k).toArray⟩ := by
  rw [byte_str ((⟨l.toArray⟩ : ByteArray).extract 0 k), extract_from_zero]
theorem ext_drop (l : List UInt8) (k : Nat) : (⟨l.toArray⟩ : ByteArray).extract k l.length = ⟨(l.drop k).toArray⟩ := by
  rw [byte_str ((⟨l.toArray⟩ : ByteArray).extract k l.length), extract_data]
  congr 2
  simp [List.take_of_length_le]
theorem at_list (l : List UInt8) (k : Nat) (h : k < l.length) (h2 : k < (⟨l.toArray⟩ : ByteArray).size) : (⟨l.toArray⟩ : ByteArray)[k]'h2 = l[k] := rfl
set_option maxHeartbeats 1000000 in
theorem rt_cut (l : List UInt8) (hl : l.length ≤ 4294967000) (c : UInt8) (w : World) :
    Calls Tryz.prog 39 #[str l, .int .u8 c.toNat] w (Ret1 (cutV (cutLast c l)) w) := by
  go_enter Tryz.func39, Tryz.ntmps39
  go_wp2_with fail
  go_loop [7] (fun i => ∃ k : Nat, k ≤ l.length ∧ i = .int .i64 ((k : Int) - 1) ∧ c ∉ l.drop k) (fun i => (RowKit.intOf i + 1).toNat)
  case atStart => exact ⟨l.length, Nat.le_refl _, by simp, by simp⟩
  case round =>
    obtain ⟨k, hk, rfl, hno⟩ := hrel
    have Hno := Lib.hid hno
    clear hno
    rcases k with _ | k
    · have hn : cutLast c l = none := cutLast_none.2 (by have := Hno.out; simpa using this)
      have Hn := Lib.hid hn
      clear hn
      go_wp2_with fail
      refine bodyPost_ret (v := .tuple #[str [], str [], .bool false]) (by simp [results, Tryz.results39, go_sem]) rfl ⟨by rw [Hn.out]; rfl, Fp.refl _ _⟩
    · have hkl : k < l.length := by omega
      have e1 : (((k + 1 : Nat) : Int) - 1) = (k : Int) := by omega
      rw [e1]
      have hsz : k < (⟨l.toArray⟩ : ByteArray).size := by simpa [ByteArray.size] using hkl
      by_cases hc : l[k] = c
      · have hb : ((((⟨l.toArray⟩ : ByteArray)[k]'hsz).toNat : Int) == (c.toNat : Int)) = true := by rw [at_list l k hkl, hc]; simp
        have hcut : cutLast c l = some (l.take k, l.drop (k + 1)) := cutLast_some.2 ⟨by rw [← hc, List.getElem_cons_drop, List.take_append_drop], Hno.out⟩
        have Hcut := Lib.hid hcut
        have hw1 : IntKind.i64.wrap ((k : Int) + 1) = (k : Int) + 1 := IntWalk.i64_in _ (by omega)
        have hk0 : (0 : Int) ≤ (k : Int) + 1 ∧ (k : Int) + 1 ≤ (l.length : Int) := by omega
        have hk1 : (0 : Int) ≤ (k : Int) ∧ (k : Int) ≤ (l.length : Int) := by omega
        have hkt : ((k : Int) + 1).toNat = k + 1 := by omega
        clear hcut hc
        go_wp2_with fail
        go_quiet (fail)
        go_wp2_with fail
        refine bodyPost_ret (v := .tuple #[.string ((⟨l.toArray⟩ : ByteArray).extract 0 k), .string ((⟨l.toArray⟩ : ByteArray).extract (k + 1) l.length), .bool true]) (by simp [results, Tryz.results39, go_sem]) rfl ⟨by rw [Hcut.out, ext_take, ext_drop]; rfl, (Fp.refl _ _).drewN _⟩
      · have hb : ((((⟨l.toArray⟩ : ByteArray)[k]'hsz).toNat : Int) == (c.toNat : Int)) = false := by
          rw [at_list l k hkl, beq_eq_false_iff_ne]
          intro e
          exact hc (UInt8.toNat_inj.1 (by omega))
        go_wp2_with fail
        go_round
        case rel =>
          refine ⟨k, by omega, rfl, ?_⟩
          rw [List.drop_eq_getElem_cons hkl, List.mem_cons]
          rintro (h | h)
          · exact hc h.symm
          · exact Hno.out h
        case measure => simp [RowKit.intOf]

theorem val_lt : ∀ (k : Nat) (l : List UInt8), l.length = k → (∀ c, c ∈ l → 48 ≤ c.toNat ∧ c.toNat ≤ 57) → val l < 10 ^ k
  | 0, l, hl, _ => by
    obtain rfl : l = [] := List.eq_nil_of_length_eq_zero hl
    simp [val]
  | k + 1, l, hl, h => by
    have hne : l ≠ [] := fun e => by rw [e] at hl; simp at hl
    rw [← List.dropLast_concat_getLast hne, val_snoc, Nat.pow_succ]
    have h1 := val_lt k l.dropLast (by simp [hl]) (fun c hc => h c (List.dropLast_subset l hc))
    have h2 := h _ (List.getLast_mem hne)
    omega
set_option maxHeartbeats 1000000 in
theorem rt_number (l : List UInt8) (hl : l.length ≤ 4294967000) (most : Nat) (hm : most ≤ 65535) (w : World) :
    Calls Tryz.prog 76 #[str l, .int .u32 most] w (Ret1 (numV .u32 (num most l)) w) := by
  by_cases hlen : 1 ≤ l.length ∧ l.length ≤ 5
  · obtain ⟨hl1, hl5⟩ := hlen
    clear hl
    go_enter Tryz.func76, Tryz.ntmps76
    go_wp2_with fail
    go_loop [6, 7] (fun n i => ∃ k : Nat, k ≤ l.length ∧ i = .int .i64 k ∧ n = .int .u32 (val (l.take k)) ∧ ∀ c, c ∈ l.take k → 48 ≤ c.toNat ∧ c.toNat ≤ 57) (fun _ i => l.length - (RowKit.intOf i).toNat)
    case atStart => exact ⟨0, Nat.zero_le _, rfl, rfl, by simp⟩
    case round =>
      obtain ⟨k, hk, rfl, rfl, hd⟩ := hrel
      have hv := val_lt k (l.take k) (by rw [List.length_take]; omega) hd
      have Hd := Lib.hid hd
      clear hd
      by_cases hlt : k < l.length
      · have hv4 : val (l.take k) < 10000 := Nat.lt_of_lt_of_le hv (Nat.le_trans (Nat.pow_le_pow_right (by omega) (show k ≤ 4 by omega)) (by decide))
        have hsz : k < (⟨l.toArray⟩ : ByteArray).size := by simpa [ByteArray.size] using hlt
        have htk : l.take (k + 1) = l.take k ++ [l[k]] := List.take_succ_eq_append_getElem hlt
        have hat := at_list l k hlt hsz
        have Htk := Lib.hid htk
        clear htk hv
        by_cases hdig : 48 ≤ (l[k]).toNat ∧ (l[k]).toNat ≤ 57
        · have hg1 : (48 : Int) ≤ (((⟨l.toArray⟩ : ByteArray)[k]'hsz).toNat : Int) := by rw [hat]; omega
          have hg2 : (((⟨l.toArray⟩ : ByteArray)[k]'hsz).toNat : Int) ≤ 57 := by rw [hat]; omega
          have Hat := Lib.hid hat
          have Hdig := Lib.hid hdig
          clear hat hdig
          go_wp2_with fail
          go_round
          case rel =>
            have e : (10 * (val (l.take k) : Int) + ((((⟨l.toArray⟩ : ByteArray)[k]'hsz).toNat : Int) - 48)) = ((val (l.take k) * 10 + ((l[k]).toNat - 48) : Nat) : Int) := by
              rw [Hat.out]; have := Hdig.out; omega
            refine ⟨k + 1, by omega, by go_num, by rw [e, Htk.out, val_snoc], fun c hc => ?_⟩
            rw [Htk.out] at hc
            rcases List.mem_append.1 hc with hc | hc
            · exact Hd.out c hc
            · obtain rfl := List.mem_singleton.1 hc
              exact Hdig.out
          case measure => simp [RowKit.intOf]; omega
        · have hn : num most l = none := num_none.2 fun n hn e => hdig (by
            have := dec_digits n l[k] (by rw [← e]; exact List.getElem_mem hlt)
            exact this)
          have Hn := Lib.hid hn
          clear hn
          by_cases h48 : (l[k]).toNat < 48
          · have hg1 : (((⟨l.toArray⟩ : ByteArray)[k]'hsz).toNat : Int) < 48 := by rw [hat]; omega
            clear hat hdig
            go_wp2_with fail
            refine bodyPost_ret (v := .tuple #[.int .u32 0, .bool false]) (by simp [results, Tryz.results76, go_sem]) rfl ⟨by rw [Hn.out]; rfl, Fp.refl _ _⟩
          · have hg1 : (57 : Int) < (((⟨l.toArray⟩ : ByteArray)[k]'hsz).toNat : Int) := by rw [hat]; omega
            have hg2 : (48 : Int) ≤ (((⟨l.toArray⟩ : ByteArray)[k]'hsz).toNat : Int) := by omega
            clear hat hdig
            go_wp2_with fail
            refine bodyPost_ret (v := .tuple #[.int .u32 0, .bool false]) (by simp [results, Tryz.results76, go_sem]) rfl ⟨by rw [Hn.out]; rfl, Fp.refl _ _⟩
      · obtain rfl : k = l.length := by omega
        rw [List.take_length] at hv ⊢
        have hv5 : val l < 100000 := Nat.lt_of_lt_of_le hv (Nat.le_trans (Nat.pow_le_pow_right (by omega) hl5) (by decide))
        clear hv
        by_cases hgt : most < val l
        · have hn : num most l = none := num_none.2 fun n hn e => by
            rw [e, val_of_dec] at hgt; omega
          have Hn := Lib.hid hn
          clear hn
          go_wp2_with fail
          refine bodyPost_ret (v := .tuple #[.int .u32 0, .bool false]) (by simp [results, Tryz.results76, go_sem]) rfl ⟨by rw [Hn.out]; rfl, Fp.refl _ _⟩
        · have hle : val l ≤ most := by omega
          go_wp2_with fail
          refine (digits_any (val l) (by omega) _).mono ?_
          rintro e w' ⟨rfl, rfl⟩
          by_cases hs : decDigits (val l) = l
          · have hn : num most l = some (val l) := num_some.2 ⟨hs.symm, hle⟩
            have hb : (decDigits (val l) == l) = true := by simpa using hs
            have Hn := Lib.hid hn
            clear hn hs
            go_wp2_with fail
            refine bodyPost_ret (v := .tuple #[.int .u32 (val l), .bool true]) (by simp [results, Tryz.results76, go_sem]) rfl ⟨by rw [Hn.out]; rfl, Fp.refl _ _⟩
          · have hn : num most l = none := num_none.2 fun n hn e => hs (by rw [e, val_of_dec])
            have hb : (decDigits (val l) == l) = false := beq_eq_false_iff_ne.2 hs
            have Hn := Lib.hid hn
            clear hn hs
            go_wp2_with fail
            refine bodyPost_ret (v := .tuple #[.int .u32 0, .bool false]) (by simp [results, Tryz.results76, go_sem]) rfl ⟨by rw [Hn.out]; rfl, Fp.refl _ _⟩
  · have hn : num most l = none := num_none.2 fun n hn e => hlen (by
      have h1 := dec_len 5 n (by omega) (by omega)
      have h2 := List.length_pos_iff.2 (dec_ne n)
      rw [e]; omega)
    have Hn := Lib.hid hn
    clear hn
    by_cases h1 : l.length < 1
    · clear hlen
      go_enter Tryz.func76, Tryz.ntmps76
      go_wp2_with fail
      refine bodyPost_ret (v := .tuple #[.int .u32 0, .bool false]) (by simp [results, Tryz.results76, go_sem]) rfl ⟨by rw [Hn.out]; rfl, Fp.refl _ _⟩
    · have h5 : 5 < l.length := by omega
      clear hlen
      go_enter Tryz.func76, Tryz.ntmps76
      go_wp2_with fail
      refine bodyPost_ret (v := .tuple #[.int .u32 0, .bool false]) (by simp [results, Tryz.results76, go_sem]) rfl ⟨by rw [Hn.out]; rfl, Fp.refl _ _⟩

/-- What is read of a text of k + 1 parts, from behind. -/
def rd : Nat → List UInt8 → Option Nat
  | 0, l => num 255 l
  | k + 1, l => match cutLast 46 l with
    | none => none
    | some (x, y) => match num 255 y with
      | none => none
      | some n => match rd k x with
        | none => none
        | some a => some (a * 256 + n)
theorem rd_lt : ∀ (k : Nat) (l : List UInt8) (a : Nat), rd k l = some a → a < 256 ^ (k + 1)
  | 0, l, a, h => by
    have := (num_some.1 h).2
    simp; omega
  | k + 1, l, a, h => by
    unfold rd at h
    rcases hc : cutLast 46 l with _ | ⟨x, y⟩
    · simp [hc] at h
    · rcases hn : num 255 y with _ | n
      · simp [hc, hn] at h
      · rcases hr : rd k x with _ | b
        · simp [hc, hn, hr] at h
        · simp only [hc, hn, hr, Option.some.injEq] at h
          have h1 := rd_lt k x b hr
          have h2 := (num_some.1 hn).2
          rw [Nat.pow_succ]
          omega
theorem rd3 (l : List UInt8) : rd 3 l = addrOf l := by
  rw [← addrR_eq]
  unfold addrR
  simp only [rd]
  rcases h3 : cutLast 46 l with _ | ⟨l3, p3⟩
  · rfl
  dsimp only
  rcases hd : num 255 p3 with _ | d
  · rfl
  dsimp only
  rcases h2 : cutLast 46 l3 with _ | ⟨l2, p2⟩
  · rfl
  dsimp only
  rcases hc : num 255 p2 with _ | c
  · rfl
  dsimp only
  rcases h1 : cutLast 46 l2 with _ | ⟨l1, p1⟩
  · rfl
  dsimp only
  rcases hb : num 255 p1 with _ | b
  · rfl
  dsimp only
  rcases ha : num 255 l1 with _ | a
  · rfl
  rfl

/-- The loop's state, k rounds over. -/
structure RdAt (l : List UInt8) (k : Nat) (s : List UInt8) (a : Nat) : Prop where
  len : s.length ≤ l.length
  go : k < 4 → (match rd (3 - k) s with | some v => some (a + v * 256 ^ k) | none => none) = addrOf l ∧ a < 256 ^ k
  done : k = 4 → addrOf l = some a
theorem RdAt.none1 {l s : List UInt8} {k a : Nat} (h : RdAt l k s a) (hk : k < 4) (hr : rd (3 - k) s = none) : addrOf l = none := by
  have := (h.go hk).1
  rw [hr] at this
  exact this.symm
theorem RdAt.step {l s x y : List UInt8} {k a n : Nat} (h : RdAt l k s a) (hk : k < 3) (hc : cutLast 46 s = some (x, y)) (hn : num 255 y = some n) : RdAt l (k + 1) x (a + n * 256 ^ k) := by
  obtain ⟨h1, h2⟩ := h.go (by omega)
  have hn2 := (num_some.1 hn).2
  obtain ⟨hs, _⟩ := cutLast_some.1 hc
  have e : 3 - k = (3 - (k + 1)) + 1 := by omega
  have hr : rd (3 - k) s = match rd (3 - (k + 1)) x with | none => none | some v => some (v * 256 + n) := by rw [e, rd, hc]; simp only [hn]; try (cases rd (3 - (k + 1)) x <;> rfl)
  refine ⟨by have := h.len; rw [hs] at this; simp at this; omega, fun _ => ⟨?_, ?_⟩, fun h => by omega⟩
  · rw [← h1, hr]
    rcases rd (3 - (k + 1)) x with _ | v
    · rfl
    · simp only [Option.some.injEq]
      rw [Nat.add_mul, Nat.pow_succ, Nat.mul_assoc v 256, Nat.mul_comm 256 (256 ^ k)]
      omega
  · rw [Nat.pow_succ]
    have : n * 256 ^ k ≤ 255 * 256 ^ k := Nat.mul_le_mul_right _ hn2
    omega
set_option maxHeartbeats 2000000 in
theorem rt_parse (l : List UInt8) (hl : l.length ≤ 4294967000) (w : World) :
    Calls Tryz.prog 75 #[str l] w (Ret1 (adV (addrOf l)) w) := by
  have hst : RdAt l 0 l 0 := ⟨Nat.le_refl _, fun _ => ⟨by simp only [Nat.sub_zero, rd3]; cases addrOf l <;> simp, by simp⟩, fun h => by omega⟩
  have Hst := Lib.hid hst
  clear hst
  go_enter Tryz.func75, Tryz.ntmps75
  go_wp2_with fail
  go_loopg [0, 4, 5, 6] 5 (fun g s a sc i wx => ∃ (k : Nat) (s' : List UInt8) (b : Nat), k ≤ 4 ∧ g = 5 - k ∧ s = str s' ∧ a = .int .u32 b ∧ sc = .int .u32 ((256 ^ k % 4294967296 : Nat) : Int) ∧ i = .int .i64 k ∧ RdAt l k s' b ∧ NoW w wx)
  case atStart => exact ⟨0, l, 0, by omega, rfl, rfl, rfl, by simp, rfl, Hst.out, Fp.refl _ _⟩
  case round =>
    obtain ⟨k, s, b, hk, hg, rfl, rfl, rfl, rfl, hr, hf⟩ := hrel
    have Hg := Lib.hid hg
    have Hr := Lib.hid hr
    have Hf := Lib.hid hf
    have hsl := hr.len
    clear hg hr hf Hst
    by_cases hlt : k < 3
    · go_wp2_with fail
      refine (rt_cut s (by omega) 46 _).mono ?_
      rintro e w1 ⟨rfl, hp1⟩
      have Hp1 := Lib.hid (Hf.out.trans hp1 (fun _ _ h => h))
      clear hp1
      have hpw : 256 ^ k ≤ 65536 := Nat.le_trans (Nat.pow_le_pow_right (by omega) (show k ≤ 2 by omega)) (by decide)
      have hbl := (Hr.out.go (by omega)).2
      have hsc : 256 ^ k % 4294967296 = 256 ^ k := Nat.mod_eq_of_lt (by omega)
      have hsc2 : 256 ^ (k + 1) % 4294967296 = 256 ^ k * 256 := by rw [Nat.pow_succ, Nat.mod_eq_of_lt (by omega)]
      have Hsc2 := Lib.hid hsc2
      obtain ⟨q, hq⟩ : ∃ q : Nat, q = 256 ^ k := ⟨_, rfl⟩
      rw [hsc, ← hq]
      rw [← hq] at hpw hbl Hsc2
      have Hq := Lib.hid hq
      clear hsc hsc2 hq
      rcases hc : cutLast 46 s with _ | ⟨x, y⟩
      · have hno := Hr.out.none1 (by omega) (by rw [show 3 - k = 3 - (k + 1) + 1 by omega, rd, hc])
        have Hno := Lib.hid hno
        clear hno hc
        unfold cutV
        go_wp2_with fail
        refine bodyPost_ret (v := .tuple #[.int .u32 0, .int .i64 3]) (by simp [results, Tryz.results75, go_sem]) rfl ⟨by rw [Hno.out]; rfl, Hp1.out⟩
      · have hys : y.length ≤ s.length := by have := (cutLast_some.1 hc).1; rw [this]; simp; omega
        have Hc := Lib.hid hc
        clear hc
        unfold cutV
        go_wp2_with fail
        refine (rt_number y (by omega) 255 (by omega) _).mono ?_
        rintro e w2 ⟨rfl, hp2⟩
        have Hp2 := Lib.hid (Hp1.out.trans hp2 (fun _ _ h => h))
        clear hp2
        rcases hn : num 255 y with _ | n
        · have hno := Hr.out.none1 (by omega) (by rw [show 3 - k = 3 - (k + 1) + 1 by omega, rd, Hc.out]; simp only [hn])
          have Hno := Lib.hid hno
          clear hno hn
          unfold numV
          go_wp2_with fail
          refine bodyPost_ret (v := .tuple #[.int .u32 0, .int .i64 3]) (by simp [results, Tryz.results75, go_sem]) rfl ⟨by rw [Hno.out]; rfl, Hp2.out⟩
        · have hn2 := (num_some.1 hn).2
          have hst := Hr.out.step hlt Hc.out hn
          have Hst := Lib.hid hst
          rw [← Hq.out] at Hst
          have hmul : n * q ≤ 255 * 65536 := Nat.mul_le_mul hn2 hpw
          clear hst hn
          unfold numV
          have hw1 : (n : Int) * (q : Int) = ((n * q : Nat) : Int) := (Int.natCast_mul _ _).symm
          generalize n * q = m at *
          go_wp2_with fail
          go_roundg (4 - k)
          case measure => have := Hg.out; omega
          case rel => exact ⟨k + 1, x, b + m, by omega, by omega, rfl, by go_num, by rw [Hsc2.out]; go_num, by go_num, Hst.out, Hp2.out⟩
    · by_cases h3 : k = 3
      · subst h3
        obtain ⟨hgo, hbl⟩ := Hr.out.go (by omega)
        have hbl2 : b < 16777216 := hbl
        clear hbl hlt
        go_wp2_with fail
        refine (rt_number s (by omega) 255 (by omega) _).mono ?_
        rintro e w2 ⟨rfl, hp2⟩
        have Hp2 := Lib.hid (Hf.out.trans hp2 (fun _ _ h => h))
        clear hp2
        rcases hn : num 255 s with _ | n
        · have hno : addrOf l = none := by rw [← hgo]; simp only [Nat.sub_self, rd, hn]
          have Hno := Lib.hid hno
          clear hno hn hgo
          unfold numV
          go_wp2_with fail
          refine bodyPost_ret (v := .tuple #[.int .u32 0, .int .i64 3]) (by simp [results, Tryz.results75, go_sem]) rfl ⟨by rw [Hno.out]; rfl, Hp2.out⟩
        · have hn2 := (num_some.1 hn).2
          have hst : RdAt l 4 s (b + n * 16777216) := ⟨Nat.le_trans hsl (Nat.le_refl _), fun h => by omega, fun _ => by rw [← hgo]; simp only [Nat.sub_self, rd, hn]⟩
          have Hst := Lib.hid hst
          clear hst hn hgo
          unfold numV
          go_wp2_with fail
          go_roundg 1
          case measure => have := Hg.out; omega
          case rel => exact ⟨4, s, b + n * 16777216, by omega, by omega, rfl, by go_num, by rfl, by rfl, Hst.out, Hp2.out⟩
      · obtain rfl : k = 4 := by omega
        have hd := Hr.out.done rfl
        have Hd := Lib.hid hd
        clear hd h3 hlt
        go_wp2_with fail
        refine bodyPost_ret (v := .tuple #[.int .u32 b, .int .i64 0]) (by simp [results, Tryz.results75, go_sem]) rfl ⟨by rw [Hd.out]; rfl, Hf.out⟩

theorem addrOf_nil : addrOf [] = none := by decide
theorem rcut_spec (c : UInt8) (h46 : c ≠ 46) (hd : ∀ u, c ∉ decDigits u) (M : Nat) (l : List UInt8) : ∃ x y t, cutV (cutLast c l) = .tuple #[str x, str y, .bool t] ∧ x.length ≤ l.length ∧ y.length ≤ l.length ∧ (t = false → x = []) ∧
    withOf c M l = match addrOf x, num M y with | some a, some n => some (a, n) | _, _ => none := by
  rw [← withR_eq h46 hd]
  unfold withR
  rcases h : cutLast c l with _ | ⟨x, y⟩
  · exact ⟨[], [], false, rfl, by simp, by simp, fun _ => rfl, by rw [addrOf_nil]⟩
  · have := (cutLast_some.1 h).1
    refine ⟨x, y, true, rfl, by rw [this]; simp, by rw [this]; simp; omega, (fun h => by cases h), ?_⟩
    dsimp only
    rcases addrOf x with _ | a <;> rcases num M y with _ | n <;> rfl
set_option maxHeartbeats 2000000 in
theorem rt_point (l : List UInt8) (hl : l.length ≤ 4294967000) (w : World) :
    Calls Tryz.prog 40 #[str l] w (Ret1 (ptV (withOf 58 65535 l)) w) := by
  obtain ⟨x, y, t, hcut, hx, hy, htf, hwith⟩ := rcut_spec 58 (by decide) (fun u => dec_no58) 65535 l
  have hcut2 := fun W => rt_cut l hl 58 W
  rw [hcut] at hcut2
  have Hcut := Lib.hid hcut2
  have Hwith := Lib.hid hwith
  clear hcut hcut2 hwith
  go_enter Tryz.func40, Tryz.ntmps40
  go_wp2_with fail
  have hn0 : NoW w (w.alloc (.cells #[.int .u32 0, .int .u16 0] 27)) := (Fp.refl _ _).alloc _
  have hb0 := heap_alloc_new w (.cells #[.int .u32 0, .int .u16 0] 27)
  refine (Hcut.out _).mono ?_
  rintro e w1 ⟨rfl, hp1⟩
  have hn1 := hn0.trans hp1 (fun _ _ h => h)
  have hb1 := (hp1.block _ (by simp) id).trans hb0
  have Hn1 := Lib.hid hn1
  have Hb1 := Lib.hid hb1
  clear hp1 hn1 hb1 hn0 hb0
  go_wp2_with fail
  refine (rt_parse x (by omega) _).mono ?_
  rintro e w2 ⟨rfl, hp2⟩
  have hn2 := Hn1.out.trans hp2 (fun _ _ h => h)
  have hb2 := (hp2.block _ (Array.getElem?_eq_some_iff.1 Hb1.out).1 id).trans Hb1.out
  have Hn2 := Lib.hid hn2
  have Hb2 := Lib.hid hb2
  clear hp2 hn2 hb2 Hn1 Hb1
  obtain ⟨oa, hoa⟩ : ∃ oa, oa = addrOf x := ⟨_, rfl⟩
  have htn : t = false → oa = none := fun h => by rw [hoa, htf h, addrOf_nil]
  rw [← hoa] at Hwith ⊢
  clear hoa htf
  obtain ⟨on, hon⟩ : ∃ on, on = num 65535 y := ⟨_, rfl⟩
  have hny := fun W => rt_number y (by omega) 65535 (by omega) W
  rw [← hon] at Hwith hny
  have Hny := Lib.hid hny
  have hn65 : ∀ n, on = some n → IntKind.u16.wrap (n : Int) = n := fun n e => IntWalk.u16_in _ (by have := (num_some.1 (hon.symm.trans e)).2; omega)
  clear hon hny
  rcases oa with _ | a
  all_goals
    unfold adV
    go_wp2_with fail
    refine (Hny.out _).mono ?_
    rintro e w3 ⟨rfl, hp3⟩
    have hn3 := Hn2.out.trans hp3 (fun _ _ h => h)
    have hb3 := (hp3.block _ (Array.getElem?_eq_some_iff.1 Hb2.out).1 id).trans Hb2.out
    have Hn3 := Lib.hid hn3
    have c0 : w3.cell? ⟨w.heap.size, 0, none⟩ = some (.int .u32 0) := by simp [World.cell?, hb3]
    have c1 : w3.cell? ⟨w.heap.size, 1, none⟩ = some (.int .u16 0) := by simp [World.cell?, hb3]
    have z0 : w3.frozen? ⟨w.heap.size, 0, none⟩ = false := by simp [World.frozen?, hb3]
    have z1 : w3.frozen? ⟨w.heap.size, 1, none⟩ = false := by simp [World.frozen?, hb3]
    clear hp3 hn3 hb3
    rcases on with _ | n
    all_goals
      unfold numV
      try have hwn := hn65 _ rfl
      clear hn65
      rcases t with _ | _
      all_goals first | exact absurd (htn rfl) (Option.some_ne_none _) | skip
      all_goals clear htn
      all_goals go_wp2_with fail
  all_goals first
    | (refine bodyPost_ret (v := .tuple #[.agg #[.int .u32 0, .int .u16 0], .int .i64 3]) (by simp only [results, Tryz.results40]; go_simp) rfl ⟨by rw [Hwith.out]; rfl, ?_⟩; have := Hn3.out; (repeat (first | exact Fp.refl _ _ | refine Fp.drew ?_ | refine Fp.drewN ?_ _ | refine Fp.alloc ?_ _ | (refine Fp.setCell ?_ (Or.inl (by simp)) _) | (refine Fp.setCell ?_ (Or.inl (by simp; omega)) _) | refine Fp.trans ?_ (by assumption) (fun _ _ h => h))))
    | (refine bodyPost_ret (v := .tuple #[.agg #[.int .u32 a, .int .u16 n], .int .i64 0]) (by simp only [results, Tryz.results40]; go_simp) rfl ⟨by rw [Hwith.out]; rfl, ?_⟩; have := Hn3.out; (repeat (first | exact Fp.refl _ _ | refine Fp.drew ?_ | refine Fp.drewN ?_ _ | refine Fp.alloc ?_ _ | (refine Fp.setCell ?_ (Or.inl (by simp)) _) | (refine Fp.setCell ?_ (Or.inl (by simp; omega)) _) | refine Fp.trans ?_ (by assumption) (fun _ _ h => h))))
end Go.Proofs.YtmghjaoodnkjlaaGreatDoor
