/- Chapter 08: the document's numbers in bytes, and sums (porterref01, porterref02). -/
import Derived.Test.YtmghjaoodnkjlaaGreatDoorTa
import Derived.Test.YtmghjaoodnkjlaaGreatDoorTf
namespace Go.Proofs.YtmghjaoodnkjlaaGreatDoor
set_option linter.unusedVariables false
set_option linter.unusedSimpArgs false
open Go.RowKit Go.Lib Go.Sort

theorem bytes2 (w : World) {a b : Nat} (ha : a < 256) (hb : b < 256) : (convert 122 9 (.slice (some ⟨w.heap.size, 0, none⟩) 2 2)).run Tryz.prog (w.alloc (.cells #[.int .u8 (a : Nat), .int .u8 (b : Nat)] 5)) = .ok (str [UInt8.ofNat a, UInt8.ofNat b]) (w.alloc (.cells #[.int .u8 (a : Nat), .int .u8 (b : Nat)] 5)) := by
  have e0 : (UInt8.ofNat a).toNat = a := by rw [UInt8.toNat_ofNat']; omega
  have e1 : (UInt8.ofNat b).toNat = b := by rw [UInt8.toNat_ofNat']; omega
  have h := run_convert_bytes_back (P := Tryz.prog) (w.alloc (.cells #[.int .u8 (a : Nat), .int .u8 (b : Nat)] 5)) 122 9 5 ⟨w.heap.size, 0, none⟩ 2 [UInt8.ofNat a, UInt8.ofNat b] Tryz.underlying122 Tryz.underlying5 Tryz.underlying9 (fun j hj => by
    have : j = 0 ∨ j = 1 := by simp at hj; omega
    rcases this with rfl | rfl
    · rw [add_eq, World.cell?_alloc_new]; simp [e0]
    · rw [add_eq, World.cell?_alloc_new]; simp [e1])
  exact h
theorem r01_put16 (n : Nat) (hn : n < 65536) (w : World) : Calls Tryz.prog 122 #[.int .u16 n] w (Ret1 (str (b16 n)) w) := by
  have c0 : (n : Int).tdiv 256 = ((n / 256 : Nat) : Int) := by rw [Int.tdiv_eq_ediv_of_nonneg (by omega)]; omega
  have c1 : (n : Int).tmod 256 = ((n % 256 : Nat) : Int) := by rw [Int.tmod_eq_emod_of_nonneg (by omega)]; omega
  have hb := fun W => bytes2 W (a := n / 256) (b := n % 256) (by omega) (by omega)
  have e : b16 n = [UInt8.ofNat (n / 256), UInt8.ofNat (n % 256)] := rfl
  rw [e]
  obtain ⟨a, ha⟩ : ∃ a, a = n / 256 := ⟨_, rfl⟩
  obtain ⟨b, hbb⟩ : ∃ b, b = n % 256 := ⟨_, rfl⟩
  rw [← ha, ← hbb] at hb ⊢
  rw [← ha] at c0
  rw [← hbb] at c1
  have c2 : IntKind.u8.wrap (a : Int) = (a : Int) := IntWalk.u8_in _ (by omega)
  have c3 : IntKind.u8.wrap (b : Int) = (b : Int) := IntWalk.u8_in _ (by omega)
  have c4 : IntKind.u16.wrap (a : Int) = (a : Int) := IntWalk.u16_in _ (by omega)
  have d0 : (n : Int) / 256 = (a : Int) := by omega
  have d1 : (n : Int) % 256 = (b : Int) := by omega
  clear ha hbb e
  go_enter Tryz.func122, Tryz.ntmps122
  go_wp2_with fail
  go_ret
  exact ⟨rfl, (Fp.refl _ _).alloc _⟩
theorem r01_put32 (n : Nat) (hn : n < 4294967296) (w : World) : Calls Tryz.prog 123 #[.int .u32 n] w (Ret1 (str (b32 n)) w) := by
  have c0 : (n : Int).tdiv 65536 = ((n / 65536 : Nat) : Int) := by rw [Int.tdiv_eq_ediv_of_nonneg (by omega)]; omega
  have c1 : (n : Int).tmod 65536 = ((n % 65536 : Nat) : Int) := by rw [Int.tmod_eq_emod_of_nonneg (by omega)]; omega
  have e : b32 n = b16 (n / 65536) ++ b16 (n % 65536) := rfl
  rw [e]
  obtain ⟨a, ha⟩ : ∃ a, a = n / 65536 := ⟨_, rfl⟩
  obtain ⟨b, hbb⟩ : ∃ b, b = n % 65536 := ⟨_, rfl⟩
  rw [← ha, ← hbb]
  rw [← ha] at c0
  rw [← hbb] at c1
  have K0 := Lib.hid (fun W => r01_put16 a (by omega) W)
  have K1 := Lib.hid (fun W => r01_put16 b (by omega) W)
  have c2 : IntKind.u16.wrap (a : Int) = (a : Int) := IntWalk.u16_in _ (by omega)
  have c3 : IntKind.u16.wrap (b : Int) = (b : Int) := IntWalk.u16_in _ (by omega)
  have c4 : IntKind.u32.wrap (a : Int) = (a : Int) := IntWalk.u32_in _ (by omega)
  have d0 : (n : Int) / 65536 = (a : Int) := by omega
  have d1 : (n : Int) % 65536 = (b : Int) := by omega
  have s := fun W => run_string_add_lists (P := Tryz.prog) W (b16 a) (b16 b) (by simp [b16_len]) (by simp [b16_len])
  have l0 : (b16 a).length = 2 := rfl
  have l1 : (b16 b).length = 2 := rfl
  clear ha hbb e
  generalize b16 a = x at *
  generalize b16 b = y at *
  go_enter Tryz.func123, Tryz.ntmps123
  go_wp2_with fail
  refine (K0.out _).mono ?_
  rintro e w1 ⟨rfl, hp⟩
  go_wp2_with fail
  refine (K1.out _).mono ?_
  rintro e w2 ⟨rfl, hp2⟩
  go_wp2_with fail
  go_ret
  exact ⟨rfl, hp.trans hp2 (fun _ _ h => h)⟩
/-- The words' bytes, one behind the other. -/
def wordsB (ws : List Nat) : List UInt8 := ws.flatMap b16
theorem wordsB_len (ws : List Nat) : (wordsB ws).length = 2 * ws.length := by
  induction ws with
  | nil => rfl
  | cons a t ih => simp [wordsB, b16_len] at ih ⊢; omega
theorem wordsB_snoc (ws : List Nat) (k : Nat) (h : k < ws.length) : wordsB (ws.take (k + 1)) = wordsB (ws.take k) ++ b16 ws[k] := by
  unfold wordsB
  rw [List.take_succ_eq_append_getElem h, List.flatMap_append]
  simp only [List.flatMap_cons, List.flatMap_nil, List.append_nil]
set_option maxHeartbeats 1000000 in
theorem r01_word (g c : Nat) (ws : List Nat) (hw : ∀ x, x ∈ ws → x < 65536) (hl : ws.length ≤ 100) (w : World) (hc : ∀ j x, ws[j]? = some x → w.cell? ⟨g, j, none⟩ = some (.int .u16 (x : Nat))) (hg : g < w.heap.size) :
    Calls Tryz.prog 121 #[.slice (some ⟨g, 0, none⟩) ws.length c] w (Ret1 (str (wordsB ws)) w) := by
  have HC := Lib.hid hc
  have HW := Lib.hid hw
  clear hc hw
  obtain ⟨n, hn⟩ : ∃ n, n = ws.length := ⟨_, rfl⟩
  have Hn := Lib.hid hn
  rw [← hn] at hl ⊢
  clear hn
  go_enter Tryz.func121, Tryz.ntmps121
  go_wp2_with fail
  go_loopw [3, 4] (fun s i wr => ∃ k : Nat, k ≤ n ∧ s = str (wordsB (ws.take k)) ∧ i = .int .i64 (k : Int) ∧ NoW w wr) (fun _ i _ => n - (RowKit.intOf i).toNat)
  case atStart => exact ⟨0, Nat.zero_le _, by simp [wordsB], rfl, Fp.refl _ _⟩
  case round =>
    obtain ⟨k, hk, rfl, rfl, hf⟩ := hrel
    by_cases hlt : k < n
    · have hkl : k < ws.length := by rw [← Hn.out]; exact hlt
      have hx : ws[k]? = some ws[k] := List.getElem?_eq_getElem hkl
      have hcell := (hf.cell (p := ⟨g, k, none⟩) hg id).trans (HC.out k _ hx)
      have hgr : g < wr.heap.size := Nat.lt_of_lt_of_le hg hf.size
      have hsn := wordsB_snoc ws k hkl
      have hb := HW.out _ (List.getElem_mem hkl)
      have l0 : (wordsB (ws.take k)).length ≤ 200 := by rw [wordsB_len, List.length_take]; omega
      have s := fun W => run_string_add_lists (P := Tryz.prog) W (wordsB (ws.take k)) (b16 ws[k]) (by omega) (by simp [b16_len])
      have K := Lib.hid (fun W => r01_put16 ws[k] hb W)
      rw [← hsn] at s
      have hkn : (k : Int) < (n : Int) := by omega
      have hsl : (wordsB (ws.take (k + 1))).length ≤ 202 := by rw [wordsB_len, List.length_take]; omega
      obtain ⟨y, hy⟩ : ∃ y, y = wordsB (ws.take (k + 1)) := ⟨_, rfl⟩
      rw [← hy] at s hsl
      have Hy := Lib.hid hy
      clear hx hsn hy
      generalize wordsB (ws.take k) = x at *
      generalize ws[k] = v at *
      go_wp2_with fail
      refine (K.out _).mono ?_
      rintro e w2 ⟨rfl, hp⟩
      go_wp2_with fail
      go_roundw
      case rel => exact ⟨k + 1, by omega, by rw [Hy.out], by go_num, hf.trans hp (fun _ _ h => h)⟩
      case measure => simp [RowKit.intOf]; omega
    · obtain rfl : k = n := by omega
      have he : wordsB (ws.take k) = wordsB ws := by rw [Hn.out, List.take_length]
      rw [he]
      clear he
      go_wp2_with fail
      go_ret
      exact ⟨rfl, hf⟩
theorem r02_add (a b : Nat) (ha : a < 65536) (hb : b < 65536) (w : World) : Calls Tryz.prog 119 #[.int .u16 a, .int .u16 b] w fun e w' => e = .returned (.int .u16 (addC a b : Nat)) ∧ w' = w := by
  have c0 : IntKind.u32.wrap (a : Int) = (a : Int) := IntWalk.u32_in _ (by omega)
  have c1 : IntKind.u32.wrap (b : Int) = (b : Int) := IntWalk.u32_in _ (by omega)
  obtain ⟨n, hn⟩ : ∃ n, n = a + b := ⟨_, rfl⟩
  have c2 : IntKind.u32.wrap ((a : Int) + (b : Int)) = (n : Int) := (IntWalk.u32_in _ (by omega)).trans (by omega)
  by_cases h : 65535 < n
  · have c3 : IntKind.u32.wrap ((n : Int) - 65535) = ((n - 65535 : Nat) : Int) := (IntWalk.u32_in _ (by omega)).trans (by omega)
    have hr : addC a b = n - 65535 := by unfold addC; rw [if_pos (by omega)]; omega
    rw [hr]
    obtain ⟨m, hm⟩ : ∃ m, m = n - 65535 := ⟨_, rfl⟩
    rw [← hm] at c3 ⊢
    have c4 : IntKind.u16.wrap (m : Int) = (m : Int) := IntWalk.u16_in _ (by omega)
    have g : (65535 : Int) < (n : Int) := by omega
    clear hm hr hn
    go_enter Tryz.func119, Tryz.ntmps119
    go_wp2_with fail
    go_ret
    exact ⟨rfl, rfl⟩
  · have hr : addC a b = n := by unfold addC; rw [if_neg (by omega)]; omega
    rw [hr]
    have c4 : IntKind.u16.wrap (n : Int) = (n : Int) := IntWalk.u16_in _ (by omega)
    have g : (n : Int) ≤ 65535 := by omega
    have g2 : n ≤ 65535 := by omega
    clear hr hn
    go_enter Tryz.func119, Tryz.ntmps119
    go_wp2_with fail
    go_ret
    exact ⟨rfl, rfl⟩
theorem r01_there (l : List UInt8) (i m : Nat) (hl : l.length ≤ 1000000) (hi : i ≤ 1000000) (hm : m ≤ 1000000) (w : World) :
    Calls Tryz.prog 127 #[str l, .int .i64 i, .int .i64 m] w fun e w' => e = .returned (.bool (decide (i + m ≤ l.length))) ∧ w' = w := by
  have wr : IntKind.i64.wrap ((l.length : Int) - (m : Int)) = (l.length : Int) - (m : Int) := IntWalk.i64_in _ (by omega)
  go_enter Tryz.func127, Tryz.ntmps127
  go_wp2_with fail
  all_goals go_ret
  all_goals exact ⟨ret_b (by simp; try omega), rfl⟩

/-- The number of so many bytes at a place. -/
def valN (l : List UInt8) (i : Nat) : Nat → Nat
  | 0 => 0
  | k + 1 => valN l i k * 256 + byt l (i + k)
theorem valN_lt (l : List UInt8) (i : Nat) : ∀ k, valN l i k < 256 ^ k
  | 0 => by simp [valN]
  | k + 1 => by have := valN_lt l i k; have := byt_lt l (i + k); rw [valN, Nat.pow_succ]; omega
theorem valN2 {l : List UInt8} {i : Nat} (h : i + 2 ≤ l.length) : valN l i 2 = g16 l i := by rw [g16, if_pos h]; simp [valN]
theorem valN4 {l : List UInt8} {i : Nat} (h : i + 4 ≤ l.length) : valN l i 4 = g32 l i := by
  rw [g32, if_pos h, g16, g16, if_pos (by omega), if_pos (by omega), show i + 2 + 1 = i + 3 from rfl]; simp only [valN, Nat.zero_mul, Nat.zero_add, Nat.add_zero]; omega
set_option maxHeartbeats 1000000 in
theorem r01_get (l : List UInt8) (i m : Nat) (hl : l.length ≤ 1000000) (hi : i ≤ 800000) (hm : m ≤ 4) (w : World) :
    Calls Tryz.prog 104 #[str l, .int .i64 i, .int .i64 m] w fun e w' => e = .returned (.tuple #[.int .u32 (if i + m ≤ l.length then valN l i m else 0 : Nat), .bool (decide (i + m ≤ l.length))]) ∧ w' = w := by
  have K := r01_there l i m hl (by omega) (by omega) w
  by_cases h : i + m ≤ l.length
  · rw [decide_eq_true h] at K ⊢
    rw [if_pos h]
    go_enter Tryz.func104, Tryz.ntmps104
    go_wp2_with fail
    refine K.mono ?_
    rintro e w' ⟨rfl, rfl⟩
    clear K
    go_wp2_with fail
    go_loop [8, 9] (fun v j => ∃ k : Nat, k ≤ m ∧ v = .int .u32 (valN l i k : Nat) ∧ j = .int .i64 (k : Int)) (fun _ j => m - (RowKit.intOf j).toNat)
    case atStart => exact ⟨0, Nat.zero_le _, rfl, rfl⟩
    case round =>
      obtain ⟨k, hk, rfl, rfl⟩ := hrel
      by_cases hlt : k < m
      · have x0 := run_byte l (i := i + k) (z := (i : Int) + (k : Int)) (by omega) (by omega)
        have wr : IntKind.i64.wrap ((i : Int) + (k : Int)) = (i : Int) + (k : Int) := IntWalk.i64_in _ (by omega)
        have b0 := byt_lt l (i + k)
        have b1 := valN_lt l i k
        have b2 : 256 ^ k ≤ 256 ^ 3 := Nat.pow_le_pow_right (by omega) (by omega)
        have hs : valN l i (k + 1) = valN l i k * 256 + byt l (i + k) := rfl
        have b3 : valN l i k < 16777216 := by omega
        have Hs := Lib.hid hs
        clear hs b1 b2
        generalize valN l i k = v at *
        generalize byt l (i + k) = b at *
        have c0 : IntKind.u32.wrap ((v : Int) * 256) = (v : Int) * 256 := IntWalk.u32_in _ (by omega)
        have c1 : IntKind.u32.wrap (b : Int) = (b : Int) := IntWalk.u32_in _ (by omega)
        have c2 : IntKind.u32.wrap ((v : Int) * 256 + (b : Int)) = (v : Int) * 256 + (b : Int) := IntWalk.u32_in _ (by omega)
        have hkm : (k : Int) < (m : Int) := by omega
        go_wp2_with fail
        go_round
        case rel => exact ⟨k + 1, by omega, by rw [Hs.out]; go_num, by go_num⟩
        case measure => simp [RowKit.intOf]; omega
      · obtain rfl : k = m := by omega
        go_wp2_with fail
        refine bodyPost_ret (v := .tuple #[.int .u32 (valN l i k : Nat), .bool true]) (by simp [results, Tryz.results104, go_sem]) rfl ⟨rfl, rfl⟩
  · rw [decide_eq_false h] at K ⊢
    rw [if_neg h]
    go_enter Tryz.func104, Tryz.ntmps104
    go_wp2_with fail
    refine K.mono ?_
    rintro e w' ⟨rfl, rfl⟩
    go_wp2_with fail
    refine bodyPost_ret (v := .tuple #[.int .u32 0, .bool false]) (by simp [results, Tryz.results104, go_sem]) rfl ⟨rfl, rfl⟩
theorem r01_get16 (l : List UInt8) (i : Nat) (hl : l.length ≤ 1000000) (hi : i ≤ 800000) (w : World) :
    Calls Tryz.prog 65 #[str l, .int .i64 i] w fun e w' => e = .returned (.tuple #[.int .u16 (g16 l i : Nat), .bool (decide (i + 2 ≤ l.length))]) ∧ w' = w := by
  have K := r01_get l i 2 hl hi (by omega) w
  have hv : (if i + 2 ≤ l.length then valN l i 2 else 0) = g16 l i := by
    by_cases h : i + 2 ≤ l.length
    · rw [if_pos h, valN2 h]
    · rw [if_neg h, g16, if_neg h]
  rw [hv] at K
  have b0 := g16_lt l i
  have c0 : IntKind.u16.wrap (g16 l i : Int) = (g16 l i : Int) := IntWalk.u16_in _ (by omega)
  generalize decide (i + 2 ≤ l.length) = B at *
  clear hv
  generalize g16 l i = v at *
  go_enter Tryz.func65, Tryz.ntmps65
  go_wp2_with fail
  refine K.mono ?_
  rintro e w' ⟨rfl, rfl⟩
  go_wp2_with fail
  refine bodyPost_ret (v := .tuple #[.int .u16 (v : Nat), .bool B]) (by simp [results, Tryz.results65, go_sem]) rfl ⟨rfl, rfl⟩
theorem r01_get32 (l : List UInt8) (i : Nat) (hl : l.length ≤ 1000000) (hi : i ≤ 800000) (w : World) :
    Calls Tryz.prog 103 #[str l, .int .i64 i] w fun e w' => e = .returned (.tuple #[.int .u32 (g32 l i : Nat), .bool (decide (i + 4 ≤ l.length))]) ∧ w' = w := by
  have K := r01_get l i 4 hl hi (by omega) w
  have hv : (if i + 4 ≤ l.length then valN l i 4 else 0) = g32 l i := by
    by_cases h : i + 4 ≤ l.length
    · rw [if_pos h, valN4 h]
    · rw [if_neg h, g32, if_neg h]
  rw [hv] at K
  generalize decide (i + 4 ≤ l.length) = B at *
  clear hv
  generalize g32 l i = v at *
  go_enter Tryz.func103, Tryz.ntmps103
  go_wp2_with fail
  refine K.mono ?_
  rintro e w' ⟨rfl, rfl⟩
  go_wp2_with fail
  refine bodyPost_ret (v := .tuple #[.int .u32 (v : Nat), .bool B]) (by simp [results, Tryz.results103, go_sem]) rfl ⟨rfl, rfl⟩

theorem byt_snoc (l : List UInt8) {i : Nat} (h : i < l.length) : byt (l ++ [0]) i = byt l i := by
  unfold byt; rw [List.getElem?_append_left h]
/-- The word of a text that begins at a place. -/
def wordA (l : List UInt8) (i : Nat) : Nat := if i + 2 ≤ l.length then g16 l i else byt l i * 256
theorem wordA_eq {l : List UInt8} {i : Nat} (h : i < l.length) : g16 (l ++ [0]) i = wordA l i := by
  unfold wordA g16
  rw [if_pos (by simp; omega), byt_snoc l h]
  by_cases h2 : i + 2 ≤ l.length
  · rw [if_pos h2, if_pos h2, byt_snoc l (by omega)]
  · rw [if_neg h2]
    have : byt (l ++ [0]) (i + 1) = 0 := by
      unfold byt
      rw [List.getElem?_append_right (by omega), show i + 1 - l.length = 0 by omega]
      rfl
    rw [this]
    omega
theorem wordA_lt (l : List UInt8) (i : Nat) : wordA l i < 65536 := by unfold wordA; have := g16_lt l i; have := byt_lt l i; split <;> omega
theorem sumW_word {l : List UInt8} {i s : Nat} (h : i < l.length) : sumW s (l.drop i) = sumW (addC s (wordA l i)) (l.drop (i + 2)) := by
  unfold wordA
  by_cases h2 : i + 2 ≤ l.length
  · rw [if_pos h2, sumW_step h2]
  · rw [if_neg h2, sumW_one (by omega), sumW_end (by omega)]
theorem r02_word (l : List UInt8) (i : Nat) (hl : l.length ≤ 900000) (hi : i < l.length) (h8 : i ≤ 700000) (w : World) :
    Calls Tryz.prog 120 #[str l, .int .i64 i] w fun e w' => e = .returned (.int .u16 (wordA l i : Nat)) ∧ w' = w := by
  have K := r01_get16 (l ++ [0]) i (by simp; omega) (by omega) w
  rw [wordA_eq hi, decide_eq_true (show i + 2 ≤ (l ++ [(0 : UInt8)]).length by simp; omega)] at K
  have s : ∀ W, (Op.stringOp .add ⟨l.toArray⟩ ⟨#[0]⟩).run Tryz.prog W = .ok (str (l ++ [0])) W := fun W => run_string_add_lists (P := Tryz.prog) W l [0] (by omega) (by simp)
  generalize l ++ [0] = y at *
  generalize wordA l i = v at *
  go_enter Tryz.func120, Tryz.ntmps120
  go_wp2_with fail
  refine K.mono ?_
  rintro e w' ⟨rfl, rfl⟩
  go_wp2_with fail
  go_ret
  exact ⟨rfl, rfl⟩
theorem sumL_snoc (s : Nat) (ls : List (List UInt8)) (x : List UInt8) : sumL s (ls ++ [x]) = sumW (sumL s ls) x := by
  induction ls generalizing s with
  | nil => rfl
  | cons a t ih => exact ih _
set_option maxHeartbeats 1000000 in
theorem r02_sum (g c : Nat) (ls : List (List UInt8)) (hw : ∀ x, x ∈ ls → x.length ≤ 600000) (hl : ls.length ≤ 100) (w : World) (hc : ∀ j x, ls[j]? = some x → w.cell? ⟨g, j, none⟩ = some (str x)) (hg : g < w.heap.size) :
    Calls Tryz.prog 85 #[.slice (some ⟨g, 0, none⟩) ls.length c] w fun e w' => e = .returned (.int .u16 (csum ls : Nat)) ∧ w' = w := by
  have HC := Lib.hid hc
  have HW := Lib.hid hw
  clear hc hw
  obtain ⟨n, hn⟩ : ∃ n, n = ls.length := ⟨_, rfl⟩
  have Hn := Lib.hid hn
  rw [← hn] at hl ⊢
  clear hn
  go_enter Tryz.func85, Tryz.ntmps85
  go_wp2_with fail
  go_loop [3, 4] (fun s i => ∃ k : Nat, k ≤ n ∧ s = .int .u16 (sumL 0 (ls.take k) : Nat) ∧ i = .int .i64 (k : Int)) (fun _ i => n - (RowKit.intOf i).toNat)
  case atStart => exact ⟨0, Nat.zero_le _, by simp [sumL], rfl⟩
  case round =>
    obtain ⟨k, hk, rfl, rfl⟩ := hrel
    by_cases hlt : k < n
    · have hkl : k < ls.length := by rw [← Hn.out]; exact hlt
      have hx : ls[k]? = some ls[k] := List.getElem?_eq_getElem hkl
      have hcell := HC.out k _ hx
      have hsn : sumL 0 (ls.take (k + 1)) = sumW (sumL 0 (ls.take k)) ls[k] := by rw [List.take_succ_eq_append_getElem hkl, sumL_snoc]
      have hb := HW.out _ (List.getElem_mem hkl)
      have hkn : (k : Int) < (n : Int) := by omega
      have Hsn := Lib.hid hsn
      have b0 := sumL_lt (ls.take k) 0 (by omega)
      obtain ⟨x, hxx⟩ : ∃ x, x = ls[k] := ⟨_, rfl⟩
      rw [← hxx] at hcell hb Hsn
      clear hx hsn hkl hxx
      generalize sumL 0 (ls.take k) = s0 at *
      go_wp2_with fail
      go_loop [3, 5] (fun s a => ∃ (j v : Nat), j ≤ x.length ∧ v < 65536 ∧ s = .int .u16 (v : Nat) ∧ a = .int .i64 ((2 * j : Nat) : Int) ∧ sumW v (x.drop (2 * j)) = sumW s0 x) (fun _ a => 1000000 - (RowKit.intOf a).toNat)
      case atStart => exact ⟨0, s0, Nat.zero_le _, b0, rfl, rfl, by simp⟩
      case round =>
        obtain ⟨j, v, hj, hv, rfl, rfl, hs⟩ := hrel
        have HS := Lib.hid hs
        clear hs
        by_cases hjl : 2 * j < x.length
        · have K := Lib.hid (fun W => r02_word x (2 * j) (by omega) hjl (by omega) W)
          have KA := Lib.hid (fun W => r02_add v (wordA x (2 * j)) hv (wordA_lt _ _) W)
          have hst := Lib.hid ((sumW_word (s := v) hjl).symm.trans HS.out)
          have hlt2 := Lib.hid (addC_lt hv (wordA_lt x (2 * j)))
          have hjx : ((2 * j : Nat) : Int) < (x.length : Int) := by omega
          have hjx2 : (2 : Int) * (j : Int) < (x.length : Int) := by omega
          have wr : IntKind.i64.wrap ((2 : Int) * (j : Int) + 2) = (2 : Int) * (j : Int) + 2 := IntWalk.i64_in _ (by omega)
          clear HS
          generalize wordA x (2 * j) = y at *
          generalize addC v y = z at *
          go_wp2_with fail
          refine (K.out _).mono ?_
          rintro e w' ⟨rfl, rfl⟩
          go_wp2_with fail
          refine (KA.out _).mono ?_
          rintro e w' ⟨rfl, rfl⟩
          go_wp2_with fail
          go_round
          case rel => exact ⟨j + 1, z, by omega, hlt2.out, rfl, by go_num, hst.out⟩
          case measure => simp [RowKit.intOf]; omega
        · have hjx2 : (x.length : Int) ≤ (2 : Int) * (j : Int) := by omega
          have hfin : v = sumL 0 (ls.take (k + 1)) := by rw [Hsn.out, ← HS.out, sumW_end (by omega)]
          have Hf := Lib.hid hfin
          clear hfin
          go_wp2_with fail
          go_round
          case rel => exact ⟨k + 1, by omega, by rw [← Hf.out], by go_num⟩
          case measure => simp [RowKit.intOf]; omega
    · obtain rfl : k = n := by omega
      have he : csum ls = 65535 - sumL 0 (ls.take k) := by rw [Hn.out, List.take_length]; rfl
      have He := Lib.hid he
      have b0 := sumL_lt (ls.take k) 0 (by omega)
      clear he
      generalize sumL 0 (ls.take k) = s0 at *
      have c0 : IntKind.u16.wrap (65535 - (s0 : Int)) = ((65535 - s0 : Nat) : Int) := (IntWalk.u16_in _ (by omega)).trans (by omega)
      go_wp2_with fail
      go_ret
      exact ⟨by rw [He.out]; rfl, rfl⟩
end Go.Proofs.YtmghjaoodnkjlaaGreatDoor
