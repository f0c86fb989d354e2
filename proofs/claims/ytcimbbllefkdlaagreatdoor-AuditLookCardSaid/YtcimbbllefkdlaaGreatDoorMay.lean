/- Texts of this proof, merged: AuY Ave. -/
import Derived.Test.YtcimbbllefkdlaaGreatDoorMax
import Derived.Test.YtcimbbllefkdlaaGreatDoorShelf
import Derived.Laws.BytesString
import Derived.IntWalk
import Derived.Test.YtcimbbllefkdlaaGreatDoorMaa
import Derived.Test.YtcimbbllefkdlaaGreatDoorMab
import Derived.Test.YtcimbbllefkdlaaGreatDoorMac
import Derived.Test.YtcimbbllefkdlaaGreatDoorMad
import Derived.Test.YtcimbbllefkdlaaGreatDoorMae
import Derived.Test.YtcimbbllefkdlaaGreatDoorMaf
import Derived.Test.YtcimbbllefkdlaaGreatDoorMag
import Derived.Test.YtcimbbllefkdlaaGreatDoorMah
import Derived.Test.YtcimbbllefkdlaaGreatDoorMai
import Derived.Test.YtcimbbllefkdlaaGreatDoorMaj
import Derived.Test.YtcimbbllefkdlaaGreatDoorMak
import Derived.Test.YtcimbbllefkdlaaGreatDoorMal
import Derived.Test.YtcimbbllefkdlaaGreatDoorMam
import Derived.Test.YtcimbbllefkdlaaGreatDoorMan
import Derived.Test.YtcimbbllefkdlaaGreatDoorMao
import Derived.Test.YtcimbbllefkdlaaGreatDoorMap
import Derived.Test.YtcimbbllefkdlaaGreatDoorMaq
import Derived.Test.YtcimbbllefkdlaaGreatDoorMar
import Derived.Test.YtcimbbllefkdlaaGreatDoorMas
import Derived.Test.YtcimbbllefkdlaaGreatDoorMat
import Derived.Test.YtcimbbllefkdlaaGreatDoorMau
import Derived.Test.YtcimbbllefkdlaaGreatDoorMav
import Derived.Test.YtcimbbllefkdlaaGreatDoorMaw
namespace Go.Proofs.YtcimbbllefkdlaaGreatDoor
set_option linter.unusedVariables false
set_option linter.unusedSimpArgs false
open Go.RowKit Go.Lib Go.Sort
theorem bytes2 (w : World) {a b : Nat} (ha : a < 256) (hb : b < 256) : (convert 201 9 (.slice (some ⟨w.heap.size, 0, none⟩) 2 2)).run Tryz.prog (w.alloc (.cells #[.int .u8 (a : Nat), .int .u8 (b : Nat)] 5)) = .ok (str [UInt8.ofNat a, UInt8.ofNat b]) (w.alloc (.cells #[.int .u8 (a : Nat), .int .u8 (b : Nat)] 5)) := by
  have e0 : (UInt8.ofNat a).toNat = a := by rw [UInt8.toNat_ofNat']; omega
  have e1 : (UInt8.ofNat b).toNat = b := by rw [UInt8.toNat_ofNat']; omega
  have h := run_convert_bytes_back (P := Tryz.prog) (w.alloc (.cells #[.int .u8 (a : Nat), .int .u8 (b : Nat)] 5)) 201 9 5 ⟨w.heap.size, 0, none⟩ 2 [UInt8.ofNat a, UInt8.ofNat b] Tryz.underlying201 Tryz.underlying5 Tryz.underlying9 (fun j hj => by
    have : j = 0 ∨ j = 1 := by simp at hj; omega
    rcases this with rfl | rfl
    · rw [add_eq, World.cell?_alloc_new]; simp [e0]
    · rw [add_eq, World.cell?_alloc_new]; simp [e1])
  exact h
theorem r01_put16 (n : Nat) (hn : n < 65536) (w : World) : Calls Tryz.prog 93 #[.int .u16 n] w (Ret1 (str (b16 n)) w) := by
  have c0 : (n : Int).tdiv 256 = ((n / 256 : Nat) : Int) := by rw [Int.tdiv_eq_ediv_of_nonneg (by omega)]; omega
  have c1 : (n : Int).tmod 256 = ((n % 256 : Nat) : Int) := by rw [Int.tmod_eq_emod_of_nonneg (by omega)]; omega
  have hb := fun W => bytes2 W (a := n / 256) (b := n % 256) (by omega) (by omega)
  have e : b16 n = [UInt8.ofNat (n / 256), UInt8.ofNat (n % 256)] := rfl
  rw [e]
  obtain ⟨a, ha⟩ : ∃ a, a = n / 256 := ⟨_, rfl⟩
  obtain ⟨b, hbb⟩ : ∃ b, b = n % 256 := ⟨_, rfl⟩
  rw [← ha, ← hbb] at hb ⊢
  rw [← ha] at c0
  rw [← hbb] at c1
  have c2 : IntKind.u8.wrap (a : Int) = (a : Int) := IntWalk.u8_in _ (by omega)
  have c3 : IntKind.u8.wrap (b : Int) = (b : Int) := IntWalk.u8_in _ (by omega)
  have c4 : IntKind.u16.wrap (a : Int) = (a : Int) := IntWalk.u16_in _ (by omega)
  have d0 : (n : Int) / 256 = (a : Int) := by omega
  have d1 : (n : Int) % 256 = (b : Int) := by omega
  clear ha hbb e
  go_enter Tryz.func93, Tryz.ntmps93
  go_wp2_with fail
  go_ret
  exact ⟨rfl, (Fp.refl _ _).alloc _⟩
theorem r01_put32 (n : Nat) (hn : n < 4294967296) (w : World) : Calls Tryz.prog 92 #[.int .u32 n] w (Ret1 (str (b32 n)) w) := by
  have c0 : (n : Int).tdiv 65536 = ((n / 65536 : Nat) : Int) := by rw [Int.tdiv_eq_ediv_of_nonneg (by omega)]; omega
  have c1 : (n : Int).tmod 65536 = ((n % 65536 : Nat) : Int) := by rw [Int.tmod_eq_emod_of_nonneg (by omega)]; omega
  have e : b32 n = b16 (n / 65536) ++ b16 (n % 65536) := rfl
  rw [e]
  obtain ⟨a, ha⟩ : ∃ a, a = n / 65536 := ⟨_, rfl⟩
  obtain ⟨b, hbb⟩ : ∃ b, b = n % 65536 := ⟨_, rfl⟩
  rw [← ha, ← hbb]
  rw [← ha] at c0
  rw [← hbb] at c1
  have K0 := Lib.hid (fun W => r01_put16 a (by omega) W)
  have K1 := Lib.hid (fun W => r01_put16 b (by omega) W)
  have c2 : IntKind.u16.wrap (a : Int) = (a : Int) := IntWalk.u16_in _ (by omega)
  have c3 : IntKind.u16.wrap (b : Int) = (b : Int) := IntWalk.u16_in _ (by omega)
  have c4 : IntKind.u32.wrap (a : Int) = (a : Int) := IntWalk.u32_in _ (by omega)
  have d0 : (n : Int) / 65536 = (a : Int) := by omega
  have d1 : (n : Int) % 65536 = (b : Int) := by omega
  have s := fun W => run_string_add_lists (P := Tryz.prog) W (b16 a) (b16 b) (by simp [b16_len]) (by simp [b16_len])
  have l0 : (b16 a).length = 2 := rfl
  have l1 : (b16 b).length = 2 := rfl
  clear ha hbb e
  generalize b16 a = x at *
  generalize b16 b = y at *
  go_enter Tryz.func92, Tryz.ntmps92
  go_wp2_with fail
  refine (K0.out _).mono ?_
  rintro e w1 ⟨rfl, hp⟩
  go_wp2_with fail
  refine (K1.out _).mono ?_
  rintro e w2 ⟨rfl, hp2⟩
  go_wp2_with fail
  go_ret
  exact ⟨rfl, hp.trans hp2 (fun _ _ h => h)⟩
end Go.Proofs.YtcimbbllefkdlaaGreatDoor

namespace Go.Proofs.YtcimbbllefkdlaaGreatDoor
set_option linter.unusedVariables false
set_option linter.unusedSimpArgs false
open Go.RowKit Go.Lib Go.Sort
def wordsB (ws : List Nat) : List UInt8 := ws.flatMap b16
theorem wordsB_len (ws : List Nat) : (wordsB ws).length = 2 * ws.length := by
  induction ws with
  | nil => rfl
  | cons a t ih => simp [wordsB, b16_len] at ih ⊢; omega
theorem wordsB_snoc (ws : List Nat) (k : Nat) (h : k < ws.length) : wordsB (ws.take (k + 1)) = wordsB (ws.take k) ++ b16 ws[k] := by
  unfold wordsB
  rw [List.take_succ_eq_append_getElem h, List.flatMap_append]
  simp only [List.flatMap_cons, List.flatMap_nil, List.append_nil]
theorem byteCells_app (a b : List UInt8) : Lib.byteCells (a ++ b) = Lib.byteCells a ++ Lib.byteCells b := by simp [Lib.byteCells]
theorem bu_new {w W : World} {b : Nat} (hb : W.heap[b]? = some (.cells #[.pointer none, .slice none 0 0] 245 (0, 0))) (hB : w.heap.size ≤ b) : Lib.IsBuilder 245 5 w.heap.size b (Lib.byteCells []) W :=
  .inl ⟨hB, _, hb, ⟨rfl, .inl ⟨rfl, rfl⟩⟩, by simp [Value.ownBlock]⟩
theorem bu_used {B b : Nat} {bs : List Value} {w : World} (h : Lib.BuilderAt 245 5 B b (.pointer (some ⟨b, 0, none⟩)) bs w) : Lib.IsBuilder 245 5 B b bs w := .inr h
set_option maxHeartbeats 4000000 in
set_option maxRecDepth 100000 in
theorem word_ok8 (g c : Nat) (ws : List Nat) (hw : ∀ x, x ∈ ws → x < 65536) (hl : ws.length ≤ 100) (w : World) (hc : ∀ j x, ws[j]? = some x → w.cell? ⟨g, j, none⟩ = some (.int .u16 (x : Nat))) (hg : g < w.heap.size) :
    Calls Tryz.prog 122 #[.slice (some ⟨g, 0, none⟩) ws.length c] w (Ret1 (str (wordsB ws)) w) := by
  have HC := Lib.hid hc
  have HW := Lib.hid hw
  clear hc hw
  obtain ⟨n, hn⟩ : ∃ n, n = ws.length := ⟨_, rfl⟩
  have Hn := Lib.hid hn
  rw [← hn] at hl ⊢
  clear hn
  go_enter Tryz.func122, Tryz.ntmps122
  go_wp2_with fail
  have hb0 := heap_alloc_new w (.cells #[.pointer none, .slice none 0 0] 245)
  have hf0 : NoW w (w.alloc (.cells #[.pointer none, .slice none 0 0] 245)) := (Fp.refl _ _).alloc _
  generalize w.alloc (.cells #[.pointer none, .slice none 0 0] 245) = w0 at *
  obtain ⟨b, hb⟩ : ∃ b, b = w.heap.size := ⟨_, rfl⟩
  have HI0 := Lib.hid (bu_new (w := w) (b := b) (by rw [hb]; exact hb0) (by omega))
  rw [← hb] at hb0 ⊢
  clear hb
  go_loopw [8] (fun i wr => ∃ k : Nat, k ≤ n ∧ i = .int .i64 (k : Int) ∧ Lib.IsBuilder 245 5 w.heap.size b (Lib.byteCells (wordsB (ws.take k))) wr ∧ Below w.heap.size w wr) (fun i _ => n - (RowKit.intOf i).toNat)
  case atStart => exact ⟨0, Nat.zero_le _, rfl, by simpa [wordsB] using HI0.out, hf0.below⟩
  case round =>
    obtain ⟨k, hk, rfl, hI, hf⟩ := hrel
    have HI := Lib.hid hI
    have HF := Lib.hid hf
    clear hI hf0 hb0 HI0
    by_cases hlt : k < n
    · have hkl : k < ws.length := by rw [← Hn.out]; exact hlt
      have hcell := (HF.out.cell (p := ⟨g, k, none⟩) hg).trans (HC.out k _ (List.getElem?_eq_getElem hkl))
      have hgr : g < wr.heap.size := Nat.lt_of_lt_of_le hg HF.out.size
      have hsn := wordsB_snoc ws k hkl
      have hbv := HW.out _ (List.getElem_mem hkl)
      have l0 : (wordsB (ws.take k)).length ≤ 200 := by rw [wordsB_len, List.length_take]; omega
      have Hs := Lib.hid hsn
      have c0 : (ws[k] : Int) / 256 = ((ws[k] / 256 : Nat) : Int) := by omega
      have c1 : IntKind.u8.wrap ((ws[k] / 256 : Nat) : Int) = ((ws[k] / 256 : Nat) : Int) := IntWalk.u8_in _ (by omega)
      have c2 : IntKind.u8.wrap ((ws[k] : Nat) : Int) = ((ws[k] % 256 : Nat) : Int) := by simp [IntKind.wrap, IntKind.signed, IntKind.bits] 
      have e0 : (Value.int .u8 ((ws[k] / 256 : Nat) : Int)) = .int .u8 ((UInt8.ofNat (ws[k] / 256)).toNat : Int) := by rw [ofNat_toNat (by omega)]
      have e1 : (Value.int .u8 ((ws[k] % 256 : Nat) : Int)) = .int .u8 ((UInt8.ofNat (ws[k] % 256)).toNat : Int) := by rw [ofNat_toNat (by omega)]
      have E0 := Lib.hid e0
      have E1 := Lib.hid e1
      have lB : (Lib.byteCells (wordsB (ws.take k))).length ≤ 200 := by simpa [Lib.byteCells] using l0
      have HB0 := Lib.hid HF.out.size
      have hkn : (k : Int) < (n : Int) := by omega
      clear hsn e0 e1 HC HW
      generalize wordsB (ws.take k) = x at *
      generalize ws[k] = v at *
      generalize hhi : v / 256 = hi at *
      generalize hlo : v % 256 = lo at *
      have Hhi := Lib.hid hhi
      have Hlo := Lib.hid hlo
      clear hhi hlo
      go_wp2_with fail
      refine (bu_byte w.heap.size b _ (hi : Nat) wr HI.out (by omega) HB0.out).mono ?_
      rintro e w1 ⟨rfl, h1, hb1⟩
      have H1 := Lib.hid (bu_used h1)
      have HF1 := Lib.hid (HF.out.trans hb1)
      have HB1 := Lib.hid HF1.out.size
      clear h1 hb1
      go_wp2_with fail
      refine (bu_byte w.heap.size b _ (lo : Nat) w1 H1.out (by simp; omega) HB1.out).mono ?_
      rintro e w2 ⟨rfl, h1, hb1⟩
      have H2 := Lib.hid (bu_used h1)
      have HF2 := Lib.hid (HF1.out.trans hb1)
      clear h1 hb1
      go_wp2_with fail
      go_roundw
      case rel => exact ⟨k + 1, by omega, by go_num, by rw [Hs.out, byteCells_app]; have h := H2.out; rw [E0.out, E1.out] at h; simpa [b16, Lib.byteCells, Hhi.out, Hlo.out] using h, HF2.out⟩
      case measure => simp [RowKit.intOf]; omega
    · obtain rfl : k = n := by omega
      have he : wordsB (ws.take k) = wordsB ws := by rw [Hn.out, List.take_length]
      rw [he] at HI
      clear he
      have HB0 := Lib.hid HF.out.size
      go_wp2_with fail
      refine (Tryz.Builder_String_any w.heap.size b _ wr HI.out HB0.out).mono ?_
      rintro e w1 ⟨rfl, hb1⟩
      have HF1 := Lib.hid (HF.out.trans hb1)
      clear hb1
      go_wp2_with fail
      go_ret
      exact ⟨rfl, Fp.of_below HF1.out⟩
theorem wordP (g c : Nat) (ws : List Nat) (hw : ∀ x, x ∈ ws → x < 65536) (hl : ws.length ≤ 100) (w : World) {T : TypeId} {fr : Nat × Nat} (hb : w.heap[g]? = some (.cells (ws.map fun n => Value.int .u16 (n : Nat)).toArray T fr)) :
    Calls Tryz.prog 122 #[.slice (some ⟨g, 0, none⟩) ws.length c] w (Ret1 (str (wordsB ws)) w) :=
  word_ok8 g c ws hw hl w (fun j x hx => cell_at (Lib.hid hb) j (by rw [List.getElem?_map, hx]; rfl)) (Array.getElem?_eq_some_iff.1 hb).1
theorem put16_ok (n : Nat) (hn : n < 65536) (w : World) : Calls Tryz.prog 106 #[.int .u16 (n : Nat)] w (Ret1 (str (b16 n)) w) := by
  have KW := Lib.hid (fun g c W T fr hb => @wordP g c [n] (by simp; omega) (by simp) W T fr hb)
  have hs : wordsB [n] = b16 n := by simp [wordsB]
  rw [hs] at KW
  clear hs
  go_enter Tryz.func106, Tryz.ntmps106
  have HN := Lib.hid (Fp.refl (fun _ => False) w)
  go_wp2_with fail
  refine calls_gen (fun x1 hW => ?_)
  have hp := new_now hW
  have hB := new_blk hW
  clear hW
  have hGe := hid_ge HN
  replace HN := hid_now HN hp
  obtain ⟨gS, hgS⟩ : ∃ gS, gS = w.heap.size := ⟨_, rfl⟩
  have G_gS := Lib.hid (Nat.le_trans hGe (Nat.le_of_eq hgS.symm))
  rw [← hgS] at hB ⊢
  have B_gS := hB
  clear hB hGe hgS
  clear hp
  refine (show Calls _ _ _ _ _ from KW.out gS _ _ _ _ B_gS.out).mono ?_
  rintro e x2 ⟨rfl, hp⟩
  replace HN := hid_now HN hp
  replace B_gS := hid_blk B_gS hp
  clear hp
  go_wp2_with fail
  go_ret
  exact ⟨rfl, HN.out⟩
theorem put32_ok (n : Nat) (hn : n < 4294967296) (w : World) : Calls Tryz.prog 105 #[.int .u32 (n : Nat)] w (Ret1 (str (b32 n)) w) := by
  have KW := Lib.hid (fun g c W T fr hb => @wordP g c [n / 65536, n % 65536] (by simp; omega) (by simp) W T fr hb)
  have hs : wordsB [n / 65536, n % 65536] = b32 n := by simp [wordsB, b32]
  rw [hs] at KW
  have c0 : (n : Int) / 65536 = ((n / 65536 : Nat) : Int) := by omega
  have c1 : IntKind.u16.wrap ((n / 65536 : Nat) : Int) = ((n / 65536 : Nat) : Int) := IntWalk.u16_in _ (by omega)
  have c2 : IntKind.u16.wrap (n : Int) = ((n % 65536 : Nat) : Int) := by simp [IntKind.wrap, IntKind.signed, IntKind.bits]
  clear hs
  generalize n / 65536 = hi at *
  generalize n % 65536 = lo at *
  go_enter Tryz.func105, Tryz.ntmps105
  have HN := Lib.hid (Fp.refl (fun _ => False) w)
  go_wp2_with fail
  refine calls_gen (fun x1 hW => ?_)
  have hp := new_now hW
  have hB := new_blk hW
  clear hW
  have hGe := hid_ge HN
  replace HN := hid_now HN hp
  obtain ⟨gS, hgS⟩ : ∃ gS, gS = w.heap.size := ⟨_, rfl⟩
  have G_gS := Lib.hid (Nat.le_trans hGe (Nat.le_of_eq hgS.symm))
  rw [← hgS] at hB ⊢
  have B_gS := hB
  clear hB hGe hgS
  clear hp
  refine (show Calls _ _ _ _ _ from KW.out gS _ _ _ _ B_gS.out).mono ?_
  rintro e x2 ⟨rfl, hp⟩
  replace HN := hid_now HN hp
  replace B_gS := hid_blk B_gS hp
  clear hp
  go_wp2_with fail
  go_ret
  exact ⟨rfl, HN.out⟩
end Go.Proofs.YtcimbbllefkdlaaGreatDoor
