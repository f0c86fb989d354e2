/- Chapter 08: numbers in bytes (fields). -/
import Derived.Test.YtmghjaoodnkjlaaGreatDoorTa
import Derived.Test.YtmghjaoodnkjlaaGreatDoor8N
import Derived.Laws.BitsAllLaws
namespace Go.Proofs.YtmghjaoodnkjlaaGreatDoor
set_option linter.unusedVariables false
set_option linter.unusedSimpArgs false
open Go.RowKit Go.Lib Go.Sort

theorem ret_b {a b : Bool} (h : a = b) : Ending.returned (.bool a) = .returned (.bool b) := by rw [h]
/-- The byte at a place of a text. -/
theorem run_byte (l : List UInt8) {i : Nat} {z : Int} (hz : z = (i : Int)) (h : i < l.length) (W : World) : (Instr.index 9 (str l) (.int .i64 z)).run Tryz.prog W = .ok (.int .u8 (byt l i : Nat)) W := by
  subst hz
  have hs : i < (⟨l.toArray⟩ : ByteArray).size := by simpa [ByteArray.size] using h
  have hb : (0 : Int) ≤ (i : Int) ∧ (i : Int) < ((⟨l.toArray⟩ : ByteArray).size : Int) := by omega
  rw [run_index_string W 9 _ _ _ Tryz.underlying9, dif_pos hb, byt_get h]
  rfl
theorem or8 {a b : Nat} (hb : b < 256) : (a * 256) ||| b = a * 256 + b := by
  have := Nat.shiftLeft_add_eq_or_of_lt (i := 8) hb a
  rw [Nat.shiftLeft_eq] at this
  exact this.symm
theorem or16 {a b : Nat} (hb : b < 65536) : (a * 65536) ||| b = a * 65536 + b := by
  have := Nat.shiftLeft_add_eq_or_of_lt (i := 16) hb a
  rw [Nat.shiftLeft_eq] at this
  exact this.symm
theorem orb8 {a b : Nat} (ha : a < 256) (hb : b < 256) : bits .or .u16 ((a * 256 : Nat) : Int) (b : Nat) = ((a * 256 + b : Nat) : Int) := by rw [u16_or_nat _ _ (by omega) (by omega), or8 hb]
theorem orb16 {a b : Nat} (ha : a < 65536) (hb : b < 65536) : bits .or .u32 ((a * 65536 : Nat) : Int) (b : Nat) = ((a * 65536 + b : Nat) : Int) := by rw [u32_or_nat _ _ (by omega) (by omega), or16 hb]

theorem whole_ok (l : List UInt8) (i m : Nat) (hl : l.length ≤ 1000000) (hi : i ≤ 1000000) (hm : m ≤ 1000000) (w : World) :
    Calls Tryz.prog 116 #[str l, .int .i64 i, .int .i64 m] w fun e w' => e = .returned (.bool (decide (i + m ≤ l.length))) ∧ w' = w := by
  go_enter Tryz.func116, Tryz.ntmps116
  go_wp2_with fail
  all_goals go_ret
  all_goals exact ⟨ret_b (by simp; try omega), rfl⟩

theorem get16_ok (l : List UInt8) (i : Nat) (hl : l.length ≤ 1000000) (hi : i ≤ 900000) (w : World) :
    Calls Tryz.prog 94 #[str l, .int .i64 i] w (Ret1 (.tuple #[.int .u16 (g16 l i : Nat), .bool (decide (i + 2 ≤ l.length))]) w) := by
  have K := whole_ok l i 2 hl (by omega) (by omega) w
  by_cases h : i + 2 ≤ l.length
  · rw [decide_eq_true h] at K ⊢
    have x0 := run_byte l (i := i) rfl (by omega)
    have x1 := run_byte l (i := i + 1) (z := (i : Int) + 1) rfl (by omega)
    have hg : g16 l i = byt l i * 256 + byt l (i + 1) := by rw [g16, if_pos h]
    have b0 := byt_lt l i
    have b1 := byt_lt l (i + 1)
    rw [hg]
    clear hg h
    generalize byt l i = a at *
    generalize byt l (i + 1) = b at *
    have wr : IntKind.i64.wrap ((i : Int) + 1) = (i : Int) + 1 := IntWalk.i64_in _ (by omega)
    have c0 : IntKind.u16.wrap (a : Int) = (a : Int) := IntWalk.u16_in _ (by omega)
    have c1 : IntKind.u16.wrap (b : Int) = (b : Int) := IntWalk.u16_in _ (by omega)
    have c2 : IntKind.u16.wrap ((a : Int) * 256) = ((a * 256 : Nat) : Int) := (IntWalk.u16_in _ (by omega)).trans (by omega)
    have c3 : bits .or .u16 ((a : Int) * 256) (b : Int) = ((a * 256 + b : Nat) : Int) := by have := orb8 b0 b1; rwa [Int.natCast_mul] at this
    go_enter Tryz.func94, Tryz.ntmps94
    go_wp2_with fail
    refine K.mono ?_
    rintro e w' ⟨rfl, rfl⟩
    go_wp2_with fail
    go_quiet (fail)
    go_wp2_with fail
    refine bodyPost_ret (v := .tuple #[.int .u16 (a * 256 + b : Nat), .bool true]) (by simp [results, Tryz.results94, go_sem, c3]) rfl ⟨rfl, (Fp.refl _ _).drewN _⟩
  · rw [decide_eq_false h] at K ⊢
    have hg : g16 l i = 0 := by rw [g16, if_neg h]
    rw [hg]
    go_enter Tryz.func94, Tryz.ntmps94
    go_wp2_with fail
    refine K.mono ?_
    rintro e w' ⟨rfl, rfl⟩
    go_wp2_with fail
    refine bodyPost_ret (v := .tuple #[.int .u16 0, .bool false]) (by simp [results, Tryz.results94, go_sem]) rfl ⟨rfl, Fp.refl _ _⟩

theorem get32_ok (l : List UInt8) (i : Nat) (hl : l.length ≤ 1000000) (hi : i ≤ 800000) (w : World) :
    Calls Tryz.prog 95 #[str l, .int .i64 i] w (Ret1 (.tuple #[.int .u32 (g32 l i : Nat), .bool (decide (i + 4 ≤ l.length))]) w) := by
  have K := whole_ok l i 4 hl (by omega) (by omega) w
  by_cases h : i + 4 ≤ l.length
  · rw [decide_eq_true h] at K ⊢
    have k0 := fun W => get16_ok l i hl (by omega) W
    have k1 := fun W => get16_ok l (i + 2) hl (by omega) W
    rw [decide_eq_true (show i + 2 ≤ l.length by omega)] at k0
    rw [decide_eq_true (show i + 2 + 2 ≤ l.length by omega)] at k1
    have hg : g32 l i = g16 l i * 65536 + g16 l (i + 2) := by rw [g32, if_pos h]
    have b0 := g16_lt l i
    have b1 := g16_lt l (i + 2)
    rw [hg]
    clear hg h
    generalize g16 l i = a at *
    generalize g16 l (i + 2) = b at *
    have wr : IntKind.i64.wrap ((i : Int) + 2) = (i : Int) + 2 := IntWalk.i64_in _ (by omega)
    have c0 : IntKind.u32.wrap (a : Int) = (a : Int) := IntWalk.u32_in _ (by omega)
    have c1 : IntKind.u32.wrap (b : Int) = (b : Int) := IntWalk.u32_in _ (by omega)
    have c2 : IntKind.u32.wrap ((a : Int) * 65536) = ((a * 65536 : Nat) : Int) := (IntWalk.u32_in _ (by omega)).trans (by omega)
    have c3 : bits .or .u32 ((a : Int) * 65536) (b : Int) = ((a * 65536 + b : Nat) : Int) := by have := orb16 b0 b1; rwa [Int.natCast_mul] at this
    have K0 := Lib.hid k0
    have K1 := Lib.hid k1
    clear k0 k1
    go_enter Tryz.func95, Tryz.ntmps95
    go_wp2_with fail
    refine K.mono ?_
    rintro e w' ⟨rfl, rfl⟩
    clear K
    go_wp2_with fail
    refine (K0.out _).mono ?_
    rintro e w1 ⟨rfl, hp⟩
    go_wp2_with fail
    refine (K1.out _).mono ?_
    rintro e w2 ⟨rfl, hp2⟩
    go_wp2_with fail
    refine bodyPost_ret (v := .tuple #[.int .u32 (a * 65536 + b : Nat), .bool true]) (by simp [results, Tryz.results95, go_sem, c3]) rfl ⟨rfl, hp.trans hp2 (fun _ _ h => h)⟩
  · rw [decide_eq_false h] at K ⊢
    have hg : g32 l i = 0 := by rw [g32, if_neg h]
    rw [hg]
    go_enter Tryz.func95, Tryz.ntmps95
    go_wp2_with fail
    refine K.mono ?_
    rintro e w' ⟨rfl, rfl⟩
    go_wp2_with fail
    refine bodyPost_ret (v := .tuple #[.int .u32 0, .bool false]) (by simp [results, Tryz.results95, go_sem]) rfl ⟨rfl, Fp.refl _ _⟩

theorem two_ok (l : List UInt8) (i : Nat) (hl : l.length ≤ 1000000) (hi : i ≤ 900000) (w : World) : Calls Tryz.prog 54 #[str l, .int .i64 i] w (Ret1 (.int .u16 (g16 l i : Nat)) w) := by
  have K := get16_ok l i hl hi w
  go_enter Tryz.func54, Tryz.ntmps54
  go_wp2_with fail
  refine K.mono ?_
  rintro e w1 ⟨rfl, hp⟩
  go_wp2_with fail
  go_ret
  exact ⟨rfl, hp⟩
theorem addr_ok (l : List UInt8) (i : Nat) (hl : l.length ≤ 1000000) (hi : i ≤ 800000) (w : World) : Calls Tryz.prog 55 #[str l, .int .i64 i] w (Ret1 (.int .u32 (g32 l i : Nat)) w) := by
  have K := get32_ok l i hl hi w
  have b0 := g32_lt l i
  have c0 : IntKind.u32.wrap (g32 l i : Int) = (g32 l i : Int) := IntWalk.u32_in _ (by omega)
  go_enter Tryz.func55, Tryz.ntmps55
  go_wp2_with fail
  refine K.mono ?_
  rintro e w1 ⟨rfl, hp⟩
  go_wp2_with fail
  go_ret
  exact ⟨rfl, hp⟩

/-- The lengths of a header, and of a packet. -/
def lenB (l : List UInt8) : Bool := decide (20 ≤ ipOwn l ∧ ipOwn l ≤ g16 l 2 ∧ g16 l 2 ≤ l.length ∧ g16 l 2 ≤ 2048)
theorem lengths_ok (l : List UInt8) (h0 : 20 ≤ l.length) (hl : l.length ≤ 1000000) (w : World) :
    Calls Tryz.prog 52 #[str l] w (Ret1 (.tuple #[.int .i64 (ipOwn l : Nat), .int .i64 (g16 l 2 : Nat), .bool (lenB l)]) w) := by
  have x0 := run_byte l (i := 0) (z := 0) rfl (by omega)
  have K := fun W => two_ok l 2 hl (by omega) W
  have b0 := byt_lt l 0
  have b1 := g16_lt l 2
  have ho : ipOwn l = byt l 0 % 16 * 4 := rfl
  have hB : lenB l = decide (20 ≤ byt l 0 % 16 * 4 ∧ byt l 0 % 16 * 4 ≤ g16 l 2 ∧ g16 l 2 ≤ l.length ∧ g16 l 2 ≤ 2048) := rfl
  rw [ho, hB]
  clear ho hB
  generalize byt l 0 = a at *
  generalize g16 l 2 = b at *
  have c0 : bits .and .u8 (a : Int) 15 = ((a % 16 : Nat) : Int) := by
    have h := u8_and_nat a 15 b0 (by omega)
    rw [show a &&& 15 = a % 16 from Nat.and_two_pow_sub_one_eq_mod a 4] at h
    exact h
  have c1 : IntKind.i64.wrap ((a % 16 : Nat) : Int) = ((a % 16 : Nat) : Int) := IntWalk.i64_in _ (by omega)
  have c2 : IntKind.i64.wrap (((a % 16 : Nat) : Int) * 4) = ((a % 16 * 4 : Nat) : Int) := (IntWalk.i64_in _ (by omega)).trans (by omega)
  have c3 : IntKind.i64.wrap (b : Int) = (b : Int) := IntWalk.i64_in _ (by omega)
  obtain ⟨m, hm⟩ : ∃ m, m = a % 16 := ⟨_, rfl⟩
  rw [← hm] at c0 c1 c2 ⊢
  have hm15 : m < 16 := by omega
  clear hm
  have K0 := Lib.hid K
  obtain ⟨B, hB⟩ : ∃ B, B = decide (20 ≤ m * 4 ∧ m * 4 ≤ b ∧ b ≤ l.length ∧ b ≤ 2048) := ⟨_, rfl⟩
  rw [← hB]
  have HB := Lib.hid hB
  clear K hB
  go_enter Tryz.func52, Tryz.ntmps52
  go_wp2_with fail
  (refine wp_region_quiet_below (by kernel_rfl) (by kernel_rfl) ?_; (repeat (quiet_step (exact low_call _ (fun W _ => K0.out W) _ _))); refine wpQuiet_nil ?_; intro wq hw'; have hlow := low_of hw'; clear hw')
  go_wp2_with fail
  all_goals first
    | refine bodyPost_ret (v := .tuple #[.int .i64 ((m : Int) * 4), .int .i64 b, .bool false]) (by simp [results, Tryz.results52, go_sem]; done) rfl ⟨by rw [show B = false by rw [HB.out]; exact decide_eq_false (by omega)]; try rfl, hlow⟩
    | refine bodyPost_ret (v := .tuple #[.int .i64 ((m : Int) * 4), .int .i64 b, .bool (decide ((b : Int) ≤ 2048))]) (by simp [results, Tryz.results52, go_sem]; done) rfl ⟨by rw [show B = decide ((b : Int) ≤ 2048) by rw [HB.out]; exact decide_eq_decide.2 (by omega)]; try rfl, hlow⟩
end Go.Proofs.YtmghjaoodnkjlaaGreatDoor
