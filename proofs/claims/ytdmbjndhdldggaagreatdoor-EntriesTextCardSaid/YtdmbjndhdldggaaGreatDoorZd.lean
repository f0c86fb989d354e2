/- Chapter 18: the document's Digits. -/
import Derived.Test.YtdmbjndhdldggaaGreatDoorZn
import Derived.Laws.BytesString
import Derived.Laws.Cells
namespace Go.Proofs.YtdmbjndhdldggaaGreatDoor
set_option linter.unusedVariables false
set_option linter.unusedSimpArgs false
open Go.RowKit Go.Lib Go.Sort
/-- A number's last digit, as a byte. -/
def dig (n : Nat) : UInt8 := UInt8.ofNat (48 + n % 10)
theorem byte_conv (n : Nat) (W : World) : (convert 87 9 (.slice (some ⟨W.heap.size, 0, none⟩) 1 1)).run Tryz.prog (W.alloc (.cells #[.int .u8 (48 + (n : Int) % 10)] 5)) = .ok (str [dig n]) (W.alloc (.cells #[.int .u8 (48 + (n : Int) % 10)] 5)) := by
  rw [run_convert_bytes_string _ _ _ 5 _ _ _ Tryz.underlying87 Tryz.underlying5 Tryz.underlying9]
  have hb := heap_alloc_new W (.cells #[.int .u8 (48 + (n : Int) % 10)] 5)
  generalize W.alloc (.cells #[.int .u8 (48 + (n : Int) % 10)] 5) = w1 at *
  have h := run_bytesToString (P := Tryz.prog) w1 ⟨W.heap.size, 0, none⟩ 1 1 [48 + (n : Int) % 10] (by
    have := run_loadCells_list (P := Tryz.prog) (w := w1) ⟨W.heap.size, 0, none⟩ [.int .u8 (48 + (n : Int) % 10)] (fun j v hj => by
      match j, hj with
      | 0, hj => simp at hj; simp [World.cell?, Addr.add, hb, ← hj]
      | j + 1, hj => simp at hj)
    simpa using this)
  rw [h]
  have e : (48 + (n : Int) % 10).toNat = 48 + n % 10 := by omega
  simp only [List.foldl_cons, List.foldl_nil, e]
  rfl
set_option maxHeartbeats 2000000 in
set_option maxRecDepth 100000 in
theorem rdig18_ok (n : Nat) (hn : n < 9223372036854775808) (w : World) :
    Calls Tryz.prog 32 #[.int .i64 n] w (Ret1 (str (decDigits n)) w) := by
  have hw1 : IntKind.u64.wrap (n : Int) = n := IntWalk.u64_in _ (by omega)
  have hc0 := byte_conv n
  have hlen := dec_len 19 n (by omega) (by omega)
  have Hlen := Lib.hid hlen
  clear hlen
  go_enter Tryz.func32, Tryz.ntmps32
  go_wp2_with fail
  clear hc0
  go_loopg [3, 5] (n + 1) (fun g u s wx => ∃ (m : Nat) (t : List UInt8), g = m + 1 ∧ m ≤ n ∧ u = .int .u64 m ∧ s = str (dig m :: t) ∧ decDigits m ++ t = decDigits n ∧ NoW w wx)
  case atStart => exact ⟨n, [], rfl, Nat.le_refl _, rfl, rfl, by simp, by first | exact (Fp.refl _ _).alloc _ | exact ((Fp.refl _ _).drew.alloc _)⟩
  case round =>
    obtain ⟨m, t, hg, hm, rfl, rfl, hd, hf⟩ := hrel
    have Hg := Lib.hid hg
    have Hd := Lib.hid hd
    have Hf := Lib.hid hf
    have ht : t.length ≤ 19 := by have h := congrArg List.length hd; have := Hlen.out; simp at h; omega
    clear hg hd hf
    by_cases h9 : 9 < m
    · have hc0 := byte_conv (m / 10)
      have hcast : ((m / 10 : Nat) : Int) = (m : Int) / 10 := by omega
      have hadd : ∀ W, (Op.stringOp .add ⟨#[dig (m / 10)]⟩ ⟨(dig m :: t).toArray⟩).run Tryz.prog W = .ok (str (dig (m / 10) :: dig m :: t)) W := fun W => run_string_add_lists W [dig (m / 10)] (dig m :: t) (by simp) (by simp; omega)
      rw [hcast] at hc0
      go_wp2_with fail
      have hdd : decDigits (m / 10) ++ dig m :: t = decDigits n := by
        rw [← Hd.out, dec_big (u := m) (by omega)]; simp [dig]
      have HD := Lib.hid hdd
      clear hdd hc0
      go_roundg (m / 10 + 1)
      case measure => have := Hg.out; omega
      case rel => exact ⟨m / 10, dig m :: t, rfl, by omega, by simp, by first | rfl | exact congrArg Value.string (by simp [ByteArray.mk_append_mk]), HD.out, Hf.out.alloc _⟩
    · have hadd : ∀ W, (Op.stringOp .add ⟨#[]⟩ ⟨(dig m :: t).toArray⟩).run Tryz.prog W = .ok (str (dig m :: t)) W := fun W => run_string_add_lists W [] (dig m :: t) (by simp) (by simp; omega)
      have hdd : dig m :: t = decDigits n := by
        rw [← Hd.out, dec_small (u := m) (by omega)]; simp [dig, Nat.mod_eq_of_lt (show m < 10 by omega)]
      have HD := Lib.hid hdd
      clear hdd
      go_wp2_with fail
      all_goals first | omega | (go_ret; exact ⟨by first | rfl | (rw [← HD.out]; rfl) | (rw [← HD.out]; exact congrArg (fun x => Ending.returned (Value.string x)) (by simp [ByteArray.mk_append_mk])), Hf.out⟩)
end Go.Proofs.YtdmbjndhdldggaaGreatDoor
