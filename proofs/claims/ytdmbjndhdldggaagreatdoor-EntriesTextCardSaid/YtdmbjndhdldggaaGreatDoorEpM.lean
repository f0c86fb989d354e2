/- Chapter 18 (of chapter 03's text, by genep.py): a number of so many bits, as it is written. -/
import Derived.Test.YtdmbjndhdldggaaGreatDoorEpN
namespace Go.Proofs.YtdmbjndhdldggaaGreatDoor
set_option linter.unusedVariables false
set_option linter.unusedSimpArgs false
open Go.RowKit Go.Lib Go.Sort

/-- What 'number' answers. -/
def numV (k : IntKind) : Option Nat → Value
  | some n => .tuple #[.int k n, .bool true]
  | none => .tuple #[.int k 0, .bool false]

theorem parse8 (l : List UInt8) (hl : l.length ≤ 281474976710656) (w : World) (ht : TbP w) :
    Calls Tryz.prog 89 #[str l, .int .i64 10, .int .i64 8] w fun e w' => NoW w w' ∧ ((∃ n, parseUintB 8 l = .ok n ∧ e = .returned (.tuple #[.int .u64 n, .nilIface])) ∨ ((∀ n, parseUintB 8 l ≠ .ok n) ∧ ∃ (x : Int) (N : Nat), e = .returned (.tuple #[.int .u64 x, .iface 121 (.pointer (some ⟨N, 0, none⟩))]))) := by
  obtain ⟨ev, h1, h2⟩ := ht.es
  obtain ⟨ev', h3, h4⟩ := ht.er
  have hsz : (⟨l.toArray⟩ : ByteArray).size ≤ 281474976710656 := by simpa [ByteArray.size] using hl
  rcases hp : parseUintB 8 l with n | _ | _
  · refine (Tryz.strconv_ParseUint_10_at8_ok ⟨l.toArray⟩ (by omega) n hp w).mono ?_
    rintro e w' ⟨rfl, hw⟩
    refine ⟨?_, .inl ⟨n, rfl, rfl⟩⟩
    rcases hw with rfl | rfl
    · exact Fp.refl _ _
    · exact noW_bytes _ _ _
  · refine (Tryz.strconv_ParseUint_10_at8_syntax ⟨l.toArray⟩ hsz hp ev w h1 h2).mono ?_
    rintro e w' ⟨N, rfl, _, _, hb⟩
    exact ⟨Fp.of_below hb, .inr ⟨(fun n h => by cases h), 0, N, rfl⟩⟩
  · refine (Tryz.strconv_ParseUint_10_at8_range ⟨l.toArray⟩ hsz hp ev' w h3 h4).mono ?_
    rintro e w' ⟨N, rfl, _, _, hb⟩
    exact ⟨Fp.of_below hb, .inr ⟨(fun n h => by cases h), 255, N, rfl⟩⟩

theorem parse16 (l : List UInt8) (hl : l.length ≤ 281474976710656) (w : World) (ht : TbP w) :
    Calls Tryz.prog 89 #[str l, .int .i64 10, .int .i64 16] w fun e w' => NoW w w' ∧ ((∃ n, parseUintB 16 l = .ok n ∧ e = .returned (.tuple #[.int .u64 n, .nilIface])) ∨ ((∀ n, parseUintB 16 l ≠ .ok n) ∧ ∃ (x : Int) (N : Nat), e = .returned (.tuple #[.int .u64 x, .iface 121 (.pointer (some ⟨N, 0, none⟩))]))) := by
  obtain ⟨ev, h1, h2⟩ := ht.es
  obtain ⟨ev', h3, h4⟩ := ht.er
  have hsz : (⟨l.toArray⟩ : ByteArray).size ≤ 281474976710656 := by simpa [ByteArray.size] using hl
  rcases hp : parseUintB 16 l with n | _ | _
  · refine (Tryz.strconv_ParseUint_10_at16_ok ⟨l.toArray⟩ (by omega) n hp w).mono ?_
    rintro e w' ⟨rfl, hw⟩
    refine ⟨?_, .inl ⟨n, rfl, rfl⟩⟩
    rcases hw with rfl | rfl
    · exact Fp.refl _ _
    · exact noW_bytes _ _ _
  · refine (Tryz.strconv_ParseUint_10_at16_syntax ⟨l.toArray⟩ hsz hp ev w h1 h2).mono ?_
    rintro e w' ⟨N, rfl, _, _, hb⟩
    exact ⟨Fp.of_below hb, .inr ⟨(fun n h => by cases h), 0, N, rfl⟩⟩
  · refine (Tryz.strconv_ParseUint_10_at16_range ⟨l.toArray⟩ hsz hp ev' w h3 h4).mono ?_
    rintro e w' ⟨N, rfl, _, _, hb⟩
    exact ⟨Fp.of_below hb, .inr ⟨(fun n h => by cases h), 65535, N, rfl⟩⟩

set_option maxHeartbeats 1000000 in
theorem number8 (l : List UInt8) (hl : l.length ≤ 281474976710656) (w : World) (ht : TbP w) :
    Calls Tryz.prog 88 #[str l, .int .i64 8] w (Ret1 (numV .u8 (num 255 l)) w) := by
  go_enter Tryz.func88, Tryz.ntmps88
  go_wp2_with fail
  refine (parse8 l hl w ht).mono ?_
  rintro e w1 ⟨hp1, ⟨n, hpn, rfl⟩ | ⟨hpn, x, N, rfl⟩⟩
  · have ht1 := ht.low hp1
    have Ht1 := Lib.hid ht1
    have Hp1 := Lib.hid hp1
    have hn : n ≤ 255 := by
      unfold parseUintB at hpn
      split at hpn
      · cases hpn
      · exact (parse_le _ l 0 n (Nat.zero_le _) hpn).1
    have Hpn := Lib.hid hpn
    clear ht1 hp1 hpn ht
    go_wp2_with fail
    refine (fmt_any n (by omega) _ Ht1.out.base).mono ?_
    rintro e w2 ⟨rfl, hp2⟩
    have Hp2 := Lib.hid (Hp1.out.trans hp2 (fun _ _ h => h))
    clear hp2 Ht1 Hp1
    rcases hnum : num 255 l with _ | m
    · have hne := (parse_no (B := 8) hnum Hpn.out).1
      have hb : (decDigits n == l) = false := beq_eq_false_iff_ne.2 hne
      have Hnum := Lib.hid hnum
      clear hne hnum
      go_wp2_with fail
      refine bodyPost_ret (v := .tuple #[.int .u8 0, .bool false]) (by simp [results, Tryz.results88, go_sem]) rfl ⟨by rw [Hnum.out]; rfl, Hp2.out⟩
    · obtain ⟨rfl, hm⟩ := num_some.1 hnum
      have := parse_num (B := 8) (by decide) hnum
      rw [Hpn.out] at this
      cases this
      have hw8 : IntKind.u8.wrap (n : Int) = n := IntWalk.u8_in _ (by omega)
      have Hnum := Lib.hid hnum
      clear hnum
      go_wp2_with fail
      refine bodyPost_ret (v := .tuple #[.int .u8 n, .bool true]) (by simp [results, Tryz.results88, go_sem]) rfl ⟨by rw [Hnum.out]; rfl, Hp2.out⟩
  · have hnum : num 255 l = none := by
      rcases h : num 255 l with _ | n
      · rfl
      · exact absurd (parse_num (B := 8) (by decide) h) (hpn n)
    have Hnum := Lib.hid hnum
    clear hnum hpn ht
    go_wp2_with fail
    refine bodyPost_ret (v := .tuple #[.int .u8 0, .bool false]) (by simp [results, Tryz.results88, go_sem]) rfl ⟨by rw [Hnum.out]; rfl, hp1⟩

set_option maxHeartbeats 1000000 in
theorem number16 (l : List UInt8) (hl : l.length ≤ 281474976710656) (w : World) (ht : TbP w) :
    Calls Tryz.prog 69 #[str l, .int .i64 16] w (Ret1 (numV .u16 (num 65535 l)) w) := by
  go_enter Tryz.func69, Tryz.ntmps69
  go_wp2_with fail
  refine (parse16 l hl w ht).mono ?_
  rintro e w1 ⟨hp1, ⟨n, hpn, rfl⟩ | ⟨hpn, x, N, rfl⟩⟩
  · have ht1 := ht.low hp1
    have Ht1 := Lib.hid ht1
    have Hp1 := Lib.hid hp1
    have hn : n ≤ 65535 := by
      unfold parseUintB at hpn
      split at hpn
      · cases hpn
      · exact (parse_le _ l 0 n (Nat.zero_le _) hpn).1
    have Hpn := Lib.hid hpn
    clear ht1 hp1 hpn ht
    go_wp2_with fail
    refine (fmt_any n (by omega) _ Ht1.out.base).mono ?_
    rintro e w2 ⟨rfl, hp2⟩
    have Hp2 := Lib.hid (Hp1.out.trans hp2 (fun _ _ h => h))
    clear hp2 Ht1 Hp1
    rcases hnum : num 65535 l with _ | m
    · have hne := (parse_no (B := 16) hnum Hpn.out).1
      have hb : (decDigits n == l) = false := beq_eq_false_iff_ne.2 hne
      have Hnum := Lib.hid hnum
      clear hne hnum
      go_wp2_with fail
      refine bodyPost_ret (v := .tuple #[.int .u16 0, .bool false]) (by simp [results, Tryz.results69, go_sem]) rfl ⟨by rw [Hnum.out]; rfl, Hp2.out⟩
    · obtain ⟨rfl, hm⟩ := num_some.1 hnum
      have := parse_num (B := 16) (by decide) hnum
      rw [Hpn.out] at this
      cases this
      have hw16 : IntKind.u16.wrap (n : Int) = n := IntWalk.u16_in _ (by omega)
      have Hnum := Lib.hid hnum
      clear hnum
      go_wp2_with fail
      refine bodyPost_ret (v := .tuple #[.int .u16 n, .bool true]) (by simp [results, Tryz.results69, go_sem]) rfl ⟨by rw [Hnum.out]; rfl, Hp2.out⟩
  · have hnum : num 65535 l = none := by
      rcases h : num 65535 l with _ | n
      · rfl
      · exact absurd (parse_num (B := 16) (by decide) h) (hpn n)
    have Hnum := Lib.hid hnum
    clear hnum hpn ht
    go_wp2_with fail
    refine bodyPost_ret (v := .tuple #[.int .u16 0, .bool false]) (by simp [results, Tryz.results69, go_sem]) rfl ⟨by rw [Hnum.out]; rfl, hp1⟩
end Go.Proofs.YtdmbjndhdldggaaGreatDoor
