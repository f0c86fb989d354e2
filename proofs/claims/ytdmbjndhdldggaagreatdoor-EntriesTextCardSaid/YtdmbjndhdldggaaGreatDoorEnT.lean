/- Chapter 18: addrs.Text (of chapter 03's text, by gen18.py). -/
import Derived.Test.YtdmbjndhdldggaaGreatDoorEnN
namespace Go.Proofs.YtdmbjndhdldggaaGreatDoor
set_option linter.unusedVariables false
set_option linter.unusedSimpArgs false
open Go.RowKit Go.Lib Go.Sort

def pt (a : Nat) : List (List UInt8) := [decDigits (a / 16777216), decDigits (a / 65536 % 256), decDigits (a / 256 % 256), decDigits (a % 256)]
theorem infoStr : ∃ i, Tryz.prog.info? 9 = some i ∧ i.zero = some (.string ByteArray.empty) ∧ i.size = 1 ∧ i.bytes ≤ 65536 := by
  have h : ((Tryz.prog.info? 9).map fun i => (i.zero, i.size, decide (i.bytes ≤ 65536))) = some (some (.string ByteArray.empty), 1, true) := by kernel_rfl
  rcases hi : Tryz.prog.info? 9 with _ | i
  · simp [hi] at h
  · simp [hi] at h
    exact ⟨i, rfl, h.1, h.2.1, h.2.2⟩
theorem itoa_any (n : Nat) (hn : n < 9223372036854775807) (w : World) (ht : Tb w) : Calls Tryz.prog 19 #[.int .i64 n] w (Ret1 (str (decDigits n)) w) := by
  refine (Tryz.strconv_Itoa n (by omega) (by omega) w ht.pow).mono ?_
  rintro e w' ⟨rfl, k, os, rfl⟩
  exact ⟨by rw [itoa_nonneg], noW_grow w k os⟩
theorem and255 (x : Nat) (hx : x < 4294967296) : bits .and .u32 (x : Int) 255 = ((x % 256 : Nat) : Int) := by
  have h := u32_and_nat x 255 hx (by omega)
  rw [nat_mask8] at h
  exact h

theorem join_pt (a : Nat) : Lib.join (((pt a).map fun p => (⟨p.toArray⟩ : ByteArray)).map (·.data.toList)) (⟨#[46]⟩ : ByteArray).data.toList = addrT a := by
  simp [pt, Lib.join, List.intercalate, addrT]
theorem add_eq0 (b i : Nat) : (⟨b, 0, none⟩ : Addr).add i = ⟨b, i, none⟩ := by unfold Addr.add; split <;> simp_all

set_option maxHeartbeats 2000000 in
theorem ad_text (a : Nat) (ha : a < 4294967296) (w : World) (ht : Tb w) :
    Calls Tryz.prog 42 #[.int .u32 a] w (Ret1 (str (addrT a)) w) := by
  have Ht := Lib.hid ht
  clear ht
  have m0 := and255 (a / 16777216) (by omega)
  have m1 := and255 (a / 65536) (by omega)
  have m2 := and255 (a / 256) (by omega)
  have m3 := and255 a ha
  go_enter Tryz.func42, Tryz.ntmps42
  go_wp2_with fail
  go_loopg [3, 4] 5 (fun g v i wx => ∃ (k : Nat) (v' : Value), v' = v ∧ k ≤ 4 ∧ g = 5 - k ∧ i = .int .i64 (24 - 8 * (k : Int)) ∧ wx.ownsRow w.heap.size 9 1 v' k (((pt a).map str).take k) ∧ NoW w wx)
  case atStart => exact ⟨0, _, rfl, by omega, rfl, rfl, World.ownsRow_nil _ _ _ 1, Fp.refl _ _⟩
  case round =>
    obtain ⟨k, v, rfl, hk, hg, rfl, hown, hf⟩ := hrel
    have Hg := Lib.hid hg
    have Hf := Lib.hid hf
    have Hown := Lib.hid hown
    have hsz := hf.size
    clear hg hf hown
    by_cases hlt : k < 4
    · obtain ⟨n, hn⟩ : ∃ n : Nat, (pt a)[k]? = some (decDigits n) ∧ n < 256 ∧ bits .and .u32 ((a : Int) / 2 ^ (24 - 8 * k)) 255 = (n : Int) := by
        have : k = 0 ∨ k = 1 ∨ k = 2 ∨ k = 3 := by omega
        rcases this with rfl | rfl | rfl | rfl
        · exact ⟨a / 16777216, rfl, by omega, by rw [show (a : Int) / 2 ^ (24 - 8 * 0) = ((a / 16777216 : Nat) : Int) by simp, m0, Nat.mod_eq_of_lt (by omega)]⟩
        · exact ⟨a / 65536 % 256, rfl, by omega, by rw [show (a : Int) / 2 ^ (24 - 8 * 1) = ((a / 65536 : Nat) : Int) by simp, m1]⟩
        · exact ⟨a / 256 % 256, rfl, by omega, by rw [show (a : Int) / 2 ^ (24 - 8 * 2) = ((a / 256 : Nat) : Int) by simp, m2]⟩
        · exact ⟨a % 256, rfl, by omega, by rw [show (a : Int) / 2 ^ (24 - 8 * 3) = ((a : Nat) : Int) by simp, m3]⟩
      obtain ⟨hp, hn256, hbit⟩ := hn
      have Hp := Lib.hid hp
      clear hp
      clear m0 m1 m2 m3
      go_wp2_with fail
      refine (itoa_any n (by omega) _ (Ht.out.low Hf.out)).mono ?_
      rintro e w2 ⟨rfl, hp2⟩
      have hown2 : w2.ownsRow w.heap.size 9 1 v k (((pt a).map str).take k) := ownsRow_of_block Hown.out fun g e => hp2.block g (World.ownsRow.lt Hown.out g e).2 id
      have Hf2 := Lib.hid (Hf.out.trans hp2 (fun _ _ h => h))
      have Hown2 := Lib.hid hown2
      have hsz2 := Hf2.out.size
      clear hp2 hown2 Hf Hown
      go_wp2_with (at_builtin; refine wp_append1 rfl _ _ 57 rfl w.heap.size 9 (.string ByteArray.empty) 1 Tryz.underlying57 infoStr rfl (by decide) v k _ rfl (World.ownsRow.alloc Hown2.out _) w2.heap.size [str (decDigits n)] rfl rfl (heap_new _ _ _ rfl) ?_ ?_ ?_ ?_)
      · intro u hu; simp at hu; rw [hu]; rfl
      · omega
      · simp; omega
      intro v2 w3 hown3 hgr3 _ _
      have hf3 : NoW w w3 := Fp.grown (Hf2.out.alloc _) hgr3 (fun q e => Or.inl (World.ownsRow.lt Hown2.out q e).1)
      have htk : ((pt a).map str).take (k + 1) = ((pt a).map str).take k ++ [str (decDigits n)] := by
        rw [List.take_add_one, List.getElem?_map, Hp.out]; rfl
      rw [← htk] at hown3
      have Hown3 := Lib.hid hown3
      have Hf3 := Lib.hid hf3
      clear hown3 hgr3 htk hf3 Hown2 Hf2 hbit
      go_wp2_with fail
      go_roundg (4 - k)
      case measure => have := Hg.out; omega
      case rel => exact ⟨k + 1, _, rfl, by omega, by omega, by go_num, Hown3.out, Hf3.out⟩
    · obtain rfl : k = 4 := by omega
      obtain ⟨gv, cap, hv, hcap, hlt2, hcell⟩ : ∃ (gv cap : Nat), v = .slice (some ⟨gv, 0, none⟩) 4 cap ∧ 4 ≤ cap ∧ gv < wr.heap.size ∧ ∀ j u, (((pt a).map str).take 4)[j]? = some u → wr.cell? ⟨gv, j, none⟩ = some u := by
        have hc := Hown.out
        obtain ⟨_, h2⟩ := Hown.out
        rcases h2 with ⟨_, h0⟩ | ⟨g, cap, cur, rfl, hg2, hh, hcap, hcap2, hcs, htk⟩
        · omega
        · refine ⟨g, cap, rfl, hcap, (Array.getElem?_eq_some_iff.1 hh).1, fun j u hj => ?_⟩
          have := World.ownsRow.cells hc (g := g) rfl j u hj
          rwa [add_eq0] at this
      subst hv
      have Hcell := Lib.hid hcell
      clear hcell Hown m0 m1 m2 m3
      go_wp2_with fail
      have hj := Tryz.strings_Join gv 0 cap ((pt a).map fun p => (⟨p.toArray⟩ : ByteArray)) ⟨#[46]⟩ wr (fun j x hx => by
        have h1 : (((pt a).map str).take 4)[j]? = some (.string x) := by
          rw [List.take_of_length_le (by simp [pt]), List.getElem?_map]
          rw [List.getElem?_map] at hx
          rcases hp : (pt a)[j]? with _ | p
          · simp [hp] at hx
          · simp only [hp, Option.map_some, Option.some.injEq] at hx ⊢
            rw [← hx]
        rw [Nat.zero_add]
        exact Hcell.out j _ h1) hlt2 (by simp [pt]) (by simpa [pt] using hcap) (by
          have := addrT_len ha
          rw [join_pt]; omega)
      refine (show Calls _ _ _ _ _ from hj).mono ?_
      rintro e w2 ⟨rfl, hb2⟩
      have Hw := Lib.hid (Hf.out.trans (Fp.of_below hb2) (fun _ _ h => h))
      clear hb2 hj
      rw [join_pt]
      go_wp2_with fail
      go_ret
      exact ⟨rfl, Hw.out⟩
end Go.Proofs.YtdmbjndhdldggaaGreatDoor
