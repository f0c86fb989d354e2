/- Chapter 08: the program's numbers as bytes: fields.Word, Put16, Put32, With (written by gen8a.py). -/
import Derived.Test.YtmghjaoodnkjlaaGreatDoorBu
import Derived.Test.YtmghjaoodnkjlaaGreatDoorTl
import Derived.Test.YtmghjaoodnkjlaaGreatDoorTf
import Derived.Test.YtmghjaoodnkjlaaGreatDoorBase
import Derived.IntWalk
namespace Go.Proofs.YtmghjaoodnkjlaaGreatDoor
set_option linter.unusedVariables false
set_option linter.unusedSimpArgs false
open Go.RowKit Go.Lib Go.Sort
theorem byteCells_app (a b : List UInt8) : Lib.byteCells (a ++ b) = Lib.byteCells a ++ Lib.byteCells b := by simp [Lib.byteCells]
theorem strCells_eq (l : List UInt8) : Lib.strCells ⟨l.toArray⟩ = Lib.byteCells l := by simp [Lib.strCells, Lib.byteCells]
theorem same_ret {P : Program} {f : FuncId} {xs : Array Value} {v : Value} {w : World} (h : Calls P f xs w fun e w' => e = .returned v ∧ w' = w) : Calls P f xs w (Ret1 v w) := h.mono fun e w' ⟨h1, h2⟩ => ⟨h1, by rw [h2]; exact Fp.refl _ _⟩
theorem bu_str {B b : Nat} {a : List UInt8} (l : List UInt8) (w : World) (h : Lib.IsBuilder 124 5 B b (Lib.byteCells a) w) (hlen : a.length + l.length ≤ 1000000) (hBw : B ≤ w.heap.size) :
    Calls Tryz.prog 71 #[.pointer (some ⟨b, 0, none⟩), .string ⟨l.toArray⟩] w fun e w' => ∃ z : Int, e = .returned (.tuple #[.int .i64 z, .nilIface]) ∧ Lib.IsBuilder 124 5 B b (Lib.byteCells (a ++ l)) w' ∧ Below B w w' :=
  (bu_string B b _ ⟨l.toArray⟩ w h (by simp [Lib.byteCells, ByteArray.size]; omega) hBw).mono fun e w' ⟨h1, h2, h3⟩ => ⟨_, h1, by rw [byteCells_app, ← strCells_eq l]; exact .inr h2, h3⟩
theorem bu_new {w W : World} {b : Nat} (hb : W.heap[b]? = some (.cells #[.pointer none, .slice none 0 0] 124 (0, 0))) (hB : w.heap.size ≤ b) : Lib.IsBuilder 124 5 w.heap.size b (Lib.byteCells []) W :=
  .inl ⟨hB, _, hb, ⟨rfl, .inl ⟨rfl, rfl⟩⟩, by simp [Value.ownBlock]⟩
theorem bu_used {B b : Nat} {bs : List Value} {w : World} (h : Lib.BuilderAt 124 5 B b (.pointer (some ⟨b, 0, none⟩)) bs w) : Lib.IsBuilder 124 5 B b bs w := .inr h
set_option maxHeartbeats 4000000 in
set_option maxRecDepth 100000 in
theorem word_ok8 (g c : Nat) (ws : List Nat) (hw : ∀ x, x ∈ ws → x < 65536) (hl : ws.length ≤ 100) (w : World) (hc : ∀ j x, ws[j]? = some x → w.cell? ⟨g, j, none⟩ = some (.int .u16 (x : Nat))) (hg : g < w.heap.size) :
    Calls Tryz.prog 79 #[.slice (some ⟨g, 0, none⟩) ws.length c] w (Ret1 (str (wordsB ws)) w) := by
  have HC := Lib.hid hc
  have HW := Lib.hid hw
  clear hc hw
  obtain ⟨n, hn⟩ : ∃ n, n = ws.length := ⟨_, rfl⟩
  have Hn := Lib.hid hn
  rw [← hn] at hl ⊢
  clear hn
  go_enter Tryz.func79, Tryz.ntmps79
  go_wp2_with fail
  have hb0 := heap_alloc_new w (.cells #[.pointer none, .slice none 0 0] 124)
  have hf0 : NoW w (w.alloc (.cells #[.pointer none, .slice none 0 0] 124)) := (Fp.refl _ _).alloc _
  generalize w.alloc (.cells #[.pointer none, .slice none 0 0] 124) = w0 at *
  obtain ⟨b, hb⟩ : ∃ b, b = w.heap.size := ⟨_, rfl⟩
  have HI0 := Lib.hid (bu_new (w := w) (b := b) (by rw [hb]; exact hb0) (by omega))
  rw [← hb] at hb0 ⊢
  clear hb
  go_loopw [8] (fun i wr => ∃ k : Nat, k ≤ n ∧ i = .int .i64 (k : Int) ∧ Lib.IsBuilder 124 5 w.heap.size b (Lib.byteCells (wordsB (ws.take k))) wr ∧ Below w.heap.size w wr) (fun i _ => n - (RowKit.intOf i).toNat)
  case atStart => exact ⟨0, Nat.zero_le _, rfl, by simpa [wordsB] using HI0.out, hf0.below⟩
  case round =>
    obtain ⟨k, hk, rfl, hI, hf⟩ := hrel
    have HI := Lib.hid hI
    have HF := Lib.hid hf
    clear hI hf0 hb0 HI0
    by_cases hlt : k < n
    · have hkl : k < ws.length := by rw [← Hn.out]; exact hlt
      have hcell := (HF.out.cell (p := ⟨g, k, none⟩) hg).trans (HC.out k _ (List.getElem?_eq_getElem hkl))
      have hgr : g < wr.heap.size := Nat.lt_of_lt_of_le hg HF.out.size
      have hsn := wordsB_snoc ws k hkl
      have hbv := HW.out _ (List.getElem_mem hkl)
      have l0 : (wordsB (ws.take k)).length ≤ 200 := by rw [wordsB_len, List.length_take]; omega
      have Hs := Lib.hid hsn
      have c0 : (ws[k] : Int) / 256 = ((ws[k] / 256 : Nat) : Int) := by omega
      have c1 : IntKind.u8.wrap ((ws[k] / 256 : Nat) : Int) = ((ws[k] / 256 : Nat) : Int) := IntWalk.u8_in _ (by omega)
      have c2 : IntKind.u8.wrap ((ws[k] : Nat) : Int) = ((ws[k] % 256 : Nat) : Int) := by simp [IntKind.wrap, IntKind.signed, IntKind.bits] 
      have e0 : (Value.int .u8 ((ws[k] / 256 : Nat) : Int)) = .int .u8 ((UInt8.ofNat (ws[k] / 256)).toNat : Int) := by rw [ofNat_toNat (by omega)]
      have e1 : (Value.int .u8 ((ws[k] % 256 : Nat) : Int)) = .int .u8 ((UInt8.ofNat (ws[k] % 256)).toNat : Int) := by rw [ofNat_toNat (by omega)]
      have E0 := Lib.hid e0
      have E1 := Lib.hid e1
      have lB : (Lib.byteCells (wordsB (ws.take k))).length ≤ 200 := by simpa [Lib.byteCells] using l0
      have HB0 := Lib.hid HF.out.size
      have hkn : (k : Int) < (n : Int) := by omega
      clear hsn e0 e1 HC HW
      generalize wordsB (ws.take k) = x at *
      generalize ws[k] = v at *
      generalize hhi : v / 256 = hi at *
      generalize hlo : v % 256 = lo at *
      have Hhi := Lib.hid hhi
      have Hlo := Lib.hid hlo
      clear hhi hlo
      go_wp2_with fail
      refine (bu_byte w.heap.size b _ (hi : Nat) wr HI.out (by omega) HB0.out).mono ?_
      rintro e w1 ⟨rfl, h1, hb1⟩
      have H1 := Lib.hid (bu_used h1)
      have HF1 := Lib.hid (HF.out.trans hb1)
      have HB1 := Lib.hid HF1.out.size
      clear h1 hb1
      go_wp2_with fail
      refine (bu_byte w.heap.size b _ (lo : Nat) w1 H1.out (by simp; omega) HB1.out).mono ?_
      rintro e w2 ⟨rfl, h1, hb1⟩
      have H2 := Lib.hid (bu_used h1)
      have HF2 := Lib.hid (HF1.out.trans hb1)
      clear h1 hb1
      go_wp2_with fail
      go_roundw
      case rel => exact ⟨k + 1, by omega, by go_num, by rw [Hs.out, byteCells_app]; have h := H2.out; rw [E0.out, E1.out] at h; simpa [b16, Lib.byteCells, Hhi.out, Hlo.out] using h, HF2.out⟩
      case measure => simp [RowKit.intOf]; omega
    · obtain rfl : k = n := by omega
      have he : wordsB (ws.take k) = wordsB ws := by rw [Hn.out, List.take_length]
      rw [he] at HI
      clear he
      have HB0 := Lib.hid HF.out.size
      go_wp2_with fail
      refine (Tryz.Builder_String_any w.heap.size b _ wr HI.out HB0.out).mono ?_
      rintro e w1 ⟨rfl, hb1⟩
      have HF1 := Lib.hid (HF.out.trans hb1)
      clear hb1
      go_wp2_with fail
      go_ret
      exact ⟨rfl, Fp.of_below HF1.out⟩
theorem wordP (g c : Nat) (ws : List Nat) (hw : ∀ x, x ∈ ws → x < 65536) (hl : ws.length ≤ 100) (w : World) {T : TypeId} {fr : Nat × Nat} (hb : w.heap[g]? = some (.cells (ws.map fun n => Value.int .u16 (n : Nat)).toArray T fr)) :
    Calls Tryz.prog 79 #[.slice (some ⟨g, 0, none⟩) ws.length c] w (Ret1 (str (wordsB ws)) w) :=
  word_ok8 g c ws hw hl w (fun j x hx => cell_at (Lib.hid hb) j (by rw [List.getElem?_map, hx]; rfl)) (Array.getElem?_eq_some_iff.1 hb).1
theorem put16_ok (n : Nat) (hn : n < 65536) (w : World) : Calls Tryz.prog 82 #[.int .u16 (n : Nat)] w (Ret1 (str (b16 n)) w) := by
  have KW := Lib.hid (fun g c W T fr hb => @wordP g c [n] (by simp; omega) (by simp) W T fr hb)
  have hs : wordsB [n] = b16 n := by simp [wordsB]
  rw [hs] at KW
  clear hs
  go_enter Tryz.func82, Tryz.ntmps82
  have HN := Lib.hid (Fp.refl (fun _ => False) w)
  go_wp2_with fail
  refine calls_gen (fun x1 hW => ?_)
  have hp := new_now hW
  have hB := new_blk hW
  clear hW
  have hGe := hid_ge HN
  replace HN := hid_now HN hp
  obtain ⟨gS, hgS⟩ : ∃ gS, gS = w.heap.size := ⟨_, rfl⟩
  have G_gS := Lib.hid (Nat.le_trans hGe (Nat.le_of_eq hgS.symm))
  rw [← hgS] at hB ⊢
  have B_gS := hB
  clear hB hGe hgS
  clear hp
  refine (show Calls _ _ _ _ _ from KW.out gS _ _ _ _ B_gS.out).mono ?_
  rintro e x2 ⟨rfl, hp⟩
  replace HN := hid_now HN hp
  replace B_gS := hid_blk B_gS hp
  clear hp
  go_wp2_with fail
  go_ret
  exact ⟨rfl, HN.out⟩
theorem put32_ok (n : Nat) (hn : n < 4294967296) (w : World) : Calls Tryz.prog 80 #[.int .u32 (n : Nat)] w (Ret1 (str (b32 n)) w) := by
  have KW := Lib.hid (fun g c W T fr hb => @wordP g c [n / 65536, n % 65536] (by simp; omega) (by simp) W T fr hb)
  have hs : wordsB [n / 65536, n % 65536] = b32 n := by simp [wordsB, b32]
  rw [hs] at KW
  have c0 : (n : Int) / 65536 = ((n / 65536 : Nat) : Int) := by omega
  have c1 : IntKind.u16.wrap ((n / 65536 : Nat) : Int) = ((n / 65536 : Nat) : Int) := IntWalk.u16_in _ (by omega)
  have c2 : IntKind.u16.wrap (n : Int) = ((n % 65536 : Nat) : Int) := by simp [IntKind.wrap, IntKind.signed, IntKind.bits]
  clear hs
  generalize n / 65536 = hi at *
  generalize n % 65536 = lo at *
  go_enter Tryz.func80, Tryz.ntmps80
  have HN := Lib.hid (Fp.refl (fun _ => False) w)
  go_wp2_with fail
  refine calls_gen (fun x1 hW => ?_)
  have hp := new_now hW
  have hB := new_blk hW
  clear hW
  have hGe := hid_ge HN
  replace HN := hid_now HN hp
  obtain ⟨gS, hgS⟩ : ∃ gS, gS = w.heap.size := ⟨_, rfl⟩
  have G_gS := Lib.hid (Nat.le_trans hGe (Nat.le_of_eq hgS.symm))
  rw [← hgS] at hB ⊢
  have B_gS := hB
  clear hB hGe hgS
  clear hp
  refine (show Calls _ _ _ _ _ from KW.out gS _ _ _ _ B_gS.out).mono ?_
  rintro e x2 ⟨rfl, hp⟩
  replace HN := hid_now HN hp
  replace B_gS := hid_blk B_gS hp
  clear hp
  go_wp2_with fail
  go_ret
  exact ⟨rfl, HN.out⟩
set_option maxHeartbeats 4000000 in
set_option maxRecDepth 100000 in
theorem with_ok (l p : List UInt8) (i : Nat) (hl : l.length ≤ 1000) (hi : i ≤ 1000) (hp : p.length ≤ 1000) (hin : i + p.length ≤ l.length) (w : World) :
    Calls Tryz.prog 81 #[str l, .int .i64 (i : Nat), str p] w (Ret1 (.tuple #[str (l.take i ++ p ++ l.drop (i + p.length)), .bool true]) w) := by
  have KB := Lib.hid (fun W => same_ret (whole_ok l i p.length (by omega) (by omega) (by omega) W))
  rw [decide_eq_true hin] at KB
  have s0 := run_cutTo l (j := i) rfl (by omega)
  have s1 := run_cutFrom l (i := i + p.length) rfl hin
  have c0 : IntKind.i64.wrap ((i : Int) + (p.length : Int)) = ((i + p.length : Nat) : Int) := (IntWalk.i64_in _ (by omega)).trans (by omega)
  have c1 : (i : Int) + (p.length : Int) = ((i + p.length : Nat) : Int) := by omega
  have i0 : (i : Int) ≤ (l.length : Int) := by omega
  have i1 : ((i + p.length : Nat) : Int) ≤ (l.length : Int) := by omega
  have ex0 := ext_cut l 0 i
  rw [List.drop_zero] at ex0
  have ex1 : (⟨l.toArray⟩ : ByteArray).extract (i + p.length) l.length = ⟨(l.drop (i + p.length)).toArray⟩ := by rw [ext_cut, List.take_length]
  have lt : (l.take i).length ≤ 1000 := by simp; omega
  have ld : (l.drop (i + p.length)).length ≤ 1000 := by simp; omega
  generalize hk : i + p.length = k at *
  have HK := Lib.hid hk
  clear hk
  go_enter Tryz.func81, Tryz.ntmps81
  have HN := Lib.hid (Fp.refl (fun _ => False) w)
  go_wp2_with fail
  refine (show Calls _ _ _ _ _ from KB.out _).mono ?_
  rintro e x1 ⟨rfl, hp⟩
  replace HN := hid_now HN hp
  clear hp
  go_wp2_with fail
  refine calls_gen (fun x2 hW => ?_)
  have hp := new_now hW
  have hB := new_blk hW
  clear hW
  have hGe := hid_ge HN
  replace HN := hid_now HN hp
  obtain ⟨g8, hg8⟩ : ∃ g8, g8 = x1.heap.size := ⟨_, rfl⟩
  have G_g8 := Lib.hid (Nat.le_trans hGe (Nat.le_of_eq hg8.symm))
  rw [← hg8] at hB ⊢
  have B_g8 := hB
  clear hB hGe hg8
  clear hp
  have HI := Lib.hid (bu_new (w := w) (b := g8) B_g8.out G_g8.out)
  clear B_g8
  refine (bu_str (l.take i) _ HI.out (by simp; omega) (hid_ge HN)).mono ?_
  rintro e x3 ⟨zx3, rfl, h1, hb1⟩
  replace HI := Lib.hid h1
  replace HN := Lib.hid (Fp.of_below ((NoW.below HN.out).trans hb1))
  clear h1 hb1
  go_wp2_with fail
  refine (bu_str (p) _ HI.out (by simp; omega) (hid_ge HN)).mono ?_
  rintro e x4 ⟨zx4, rfl, h1, hb1⟩
  replace HI := Lib.hid h1
  replace HN := Lib.hid (Fp.of_below ((NoW.below HN.out).trans hb1))
  clear h1 hb1
  go_wp2_with fail
  refine (bu_str (l.drop k) _ HI.out (by simp; omega) (hid_ge HN)).mono ?_
  rintro e x5 ⟨zx5, rfl, h1, hb1⟩
  replace HI := Lib.hid h1
  replace HN := Lib.hid (Fp.of_below ((NoW.below HN.out).trans hb1))
  clear h1 hb1
  go_wp2_with fail
  refine (Tryz.Builder_String_any w.heap.size g8 _ _ HI.out (hid_ge HN)).mono ?_
  rintro e y1 ⟨rfl, hb1⟩
  replace HN := Lib.hid (Fp.of_below ((NoW.below HN.out).trans hb1))
  clear hb1
  go_wp2_with fail
  go_ret2
  exact ⟨by simp, HN.out⟩
end Go.Proofs.YtmghjaoodnkjlaaGreatDoor
