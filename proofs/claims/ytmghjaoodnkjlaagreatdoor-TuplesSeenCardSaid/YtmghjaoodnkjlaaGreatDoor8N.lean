/- Chapter 08 (chapter 18's text, by gen8n.py): numbers, and what the variables hold (of chapter 03's text, by gen18.py): what the library lays ahead; FormatUint; number. -/
import Derived.Test.YtmghjaoodnkjlaaGreatDoorBase
import Derived.Test.YtmghjaoodnkjlaaGreatDoorShelf
import Derived.Test.YtmghjaoodnkjlaaGreatDoorAd
import Derived.Lib.AppendIntMem
import Derived.Lib.AtoiErrMem
import Derived.Lib.ItoaLen
import Derived.Shelf.Strconv.Itoa3
namespace Go.Proofs.YtmghjaoodnkjlaaGreatDoor
set_option linter.unusedVariables false
set_option linter.unusedSimpArgs false
open Go.RowKit Go.Lib Go.Sort

/-- How long a state lasts. -/
def lastN (f s : Nat) : Int := (([[0, 0, 0, 0, 0, 0, 0, 0], [0, 120, 300, 0, 0, 0, 0, 0], [0, 60, 60, 0, 0, 0, 0, 0], [0, 240, 240, 7440, 240, 240, 240, 240]] : List (List Int)).getD f []).getD s 0
/-- What an ICMP type is: 1 asks, 2 told, 3 an error. -/
def kindOf (k : Nat) : Nat := if k = 8 ∨ k = 13 then 1 else if k = 0 ∨ k = 14 then 2 else if k = 3 ∨ k = 11 ∨ k = 12 then 3 else 0
/-- A protocol's word. -/
def wordOf (k : Nat) : List UInt8 := if k = 1 then [105, 99, 109, 112] else if k = 6 then [116, 99, 112] else if k = 17 then [117, 100, 112] else []
def isWord (k : Nat) : Bool := decide (k = 1 ∨ k = 6 ∨ k = 17)
/-- What the library's and the program's variables hold. -/
structure Tb (w : World) : Prop where
  pow : TabIs Tryz.prog w "internal/strconv.uint64pow10" .u64 pow10Tab
  kinds : ∃ bm o, w.cell? ⟨1, 0, none⟩ = some (.map (some bm)) ∧ w.heap[bm]? = some o ∧ ∀ W : World, W.heap[bm]? = some o → ∀ k : Nat, k < 256 →
    (Instr.lookup 183 (.map (some bm)) (.int .u8 k) false).run Tryz.prog W = .ok (.int .i64 (kindOf k : Nat)) W
  words : ∃ bm o, w.cell? ⟨0, 0, none⟩ = some (.map (some bm)) ∧ w.heap[bm]? = some o ∧ ∀ W : World, W.heap[bm]? = some o → ∀ k : Nat, k < 256 →
    (Instr.lookup 85 (.map (some bm)) (.int .u8 k) true).run Tryz.prog W = .ok (.tuple #[.string ⟨(wordOf k).toArray⟩, .bool (isWord k)]) W ∧
    (Instr.lookup 85 (.map (some bm)) (.int .u8 k) false).run Tryz.prog W = .ok (.string ⟨(wordOf k).toArray⟩) W
theorem Tb.low {w w' : World} (h : Tb w) (hf : NoW w w') : Tb w' := by
  obtain ⟨hp, ⟨bk, ok, k1, k2, k3⟩, bm, o, h1, h2, h3⟩ := h
  refine ⟨tabBelow_of_tabIs hp _ hf.below, ⟨bk, ok, (hf.cell (cell_lt k1) id).trans k1, (hf.block _ (Array.getElem?_eq_some_iff.1 k2).1 id).trans k2, k3⟩, bm, o, (hf.cell (cell_lt h1) id).trans h1, ?_, h3⟩
  exact (hf.block _ (Array.getElem?_eq_some_iff.1 h2).1 id).trans h2
theorem noW_grow (w : World) (k : Nat) (os : Array Obj) : NoW w (grow (w.drewN k) os) := Fp.of_below (below_grow _ w (Nat.le_refl _) k os)
theorem noW_bytes (w : World) (e : TypeId) (s : ByteArray) : NoW w (bytesWorld w e s) := Fp.of_below (bytesWorld_below w e s)

/-- A text, as a list of bytes. -/
abbrev str (l : List UInt8) : Value := .string ⟨l.toArray⟩
theorem str_of (s : ByteArray) : ∃ l : List UInt8, s = ⟨l.toArray⟩ ∧ l.length = s.size := ⟨s.data.toList, by cases s; simp, by cases s; simp [ByteArray.size]⟩

theorem holds_zero0 (w : World) (T : TypeId) (nd : Nat) (hs : nd ≤ 24) : Holds (fun (b : UInt8) => Value.int .u8 (b.toNat : Int)) (w.alloc (.cells zeros24 T)) w.heap.size 0 (Array.replicate nd (0 : UInt8)) := fun j hj => by
  have hj' : j < nd := by simpa using hj
  refine ⟨?_, World.frozen?_alloc_new _ _ _ _⟩
  rw [World.cell?_alloc_new, zeros24_at _ (by omega), getElem!_pos _ j hj]
  simp

set_option maxHeartbeats 1000000 in
set_option maxRecDepth 100000 in
theorem fmt_in (u : Nat) (hu64 : u < 18446744073709551616) (w : World) (ht : Tb w) :
    Calls Tryz.prog 134 #[.int .u64 u, .int .i64 10] w (Ret1 (str (decDigits u)) w) := by
  have htab := ht.pow
  by_cases hs : u < 100
  · go_enter Tryz.func134, Tryz.ntmps134
    go_wp2_with fail
    refine (Tryz.internal_strconv_small u hs _).mono ?_
    rintro e w' ⟨rfl, rfl⟩
    go_wp2_with fail
    go_ret
    exact ⟨rfl, Fp.refl _ _⟩
  · have hu1 : 1 ≤ u := by omega
    have hnd20 : nDigits u ≤ 20 := nDigits_le20 u hu64
    have hb4 : nDigits u ≤ 24 := by omega
    have hal : Tryz.prog.arrayLen 201 = 24 := by kernel_rfl
    have hsl1 : ∀ W, (Instr.sliceAt 201 (.pointer (some ⟨w.heap.size, 0, none⟩)) none (some (.int .i64 (nDigits u : Int))) none).run Tryz.prog W = .ok (.slice (some ⟨w.heap.size, 0, none⟩) (nDigits u) 24) W := fun W => by
      rw [run_sliceAt_array_h W 201 ⟨w.heap.size, 0, none⟩ Tryz.underlying201 .i64 (nDigits u : Int) (by omega) (by rw [hal]; omega)]
      go_simp
    have hH0 := holds_zero0 w 201 (nDigits u) hb4
    have hfmt := Tryz.internal_strconv_formatBase10 w.heap.size 0 24 u (Array.replicate (nDigits u) 0) (w.alloc (.cells zeros24 201)) hH0 (by rw [Array.size_replicate]; exact lt_pow_nDigits u) hu64 (by rw [Array.size_replicate]; omega)
    rw [Array.size_replicate] at hfmt
    have HH0 := Lib.hid hH0
    have Hfmt := Lib.hid hfmt
    clear hH0 hal hfmt ht
    go_enter Tryz.func134, Tryz.ntmps134
    go_wp2_with fail
    refine (Tryz.internal_strconv_numDigits u hu1 hu64 _ (tabIs_alloc htab _)).mono ?_
    rintro e w' ⟨rfl, rfl⟩
    go_wp2_with fail
    refine Hfmt.out.mono ?_
    rintro e w' ⟨rfl, k, v', dk, rfl, hF⟩
    have hcv : (convert 122 9 (.slice (some ⟨w.heap.size, 0, none⟩) (nDigits u) 24)).run Tryz.prog ((putRow (fun (b : UInt8) => Value.int .u8 (b.toNat : Int)) (w.alloc (.cells zeros24 201)) w.heap.size 0 dk).drewN k) = .ok (.string ⟨(decDigits u).toArray⟩) ((putRow (fun (b : UInt8) => Value.int .u8 (b.toNat : Int)) (w.alloc (.cells zeros24 201)) w.heap.size 0 dk).drewN k) := by
      have h := run_convert_bytes_back (P := Tryz.prog) ((putRow (fun (b : UInt8) => Value.int .u8 (b.toNat : Int)) (w.alloc (.cells zeros24 201)) w.heap.size 0 dk).drewN k) 122 9 5 ⟨w.heap.size, 0, none⟩ 24 (decDigits u) Tryz.underlying122 Tryz.underlying5 Tryz.underlying9 (fun j hj => by
        rw [row_is_numeral hF j hj, add_plain, World.cell?_drewN]
        exact cell?_putRow (fun (b : UInt8) => Value.int .u8 (b.toNat : Int)) _ w.heap.size 0 _ dk HH0.out (by rw [hF.size, Array.size_replicate]) j (by rw [hF.size]; rw [decDigits_length] at hj; exact hj))
      rw [decDigits_length] at h
      exact h
    go_wp2
    go_ret
    refine ⟨rfl, ?_⟩
    rw [alloc_eq_grow]
    obtain ⟨os', _, e⟩ := putRow_grow_new (fun (b : UInt8) => Value.int .u8 (b.toNat : Int)) w #[.cells zeros24 201] w.heap.size 0 dk (Nat.le_refl _)
    rw [e]
    exact noW_grow w k os'

theorem fmt_any (u : Nat) (hu64 : u < 18446744073709551616) (w : World) (ht : Tb w) :
    Calls Tryz.prog 111 #[.int .u64 u, .int .i64 10] w (Ret1 (str (decDigits u)) w) := by
  go_enter Tryz.func111, Tryz.ntmps111
  go_wp2_with fail
  refine (fmt_in u hu64 w ht).mono ?_
  rintro e w' ⟨rfl, hp⟩
  go_wp2_with fail
  go_ret
  exact ⟨rfl, hp⟩
end Go.Proofs.YtmghjaoodnkjlaaGreatDoor
