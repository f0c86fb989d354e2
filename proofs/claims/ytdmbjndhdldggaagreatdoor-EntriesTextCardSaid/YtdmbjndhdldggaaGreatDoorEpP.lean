/- Chapter 18 (of chapter 03's text, by genep.py): addrs.Parse. -/
import Derived.Laws.BitsAllLaws
import Derived.Test.YtdmbjndhdldggaaGreatDoorEpM
namespace Go.Proofs.YtdmbjndhdldggaaGreatDoor
set_option linter.unusedVariables false
set_option linter.unusedSimpArgs false
open Go.RowKit Go.Lib Go.Sort

/-- What Parse answers. -/
def adV : Option Nat → Value
  | some n => .tuple #[.int .u32 n, .int .i64 0]
  | none => .tuple #[.int .u32 0, .int .i64 3]

/-- The parts that are read so far. -/
def parts : List (List UInt8) → Option Nat
  | [] => some 0
  | p :: ps => match num 255 p, parts ps with | some n, some m => some (n * 256 ^ ps.length + m) | _, _ => none

/-- Parts, from the front on. -/
def fold4 (ps : List (List UInt8)) : Option Nat := ps.foldl (fun o p => match o, num 255 p with | some a, some n => some (a * 256 + n) | _, _ => none) (some 0)
theorem fold4_snoc (ps : List (List UInt8)) (p : List UInt8) : fold4 (ps ++ [p]) = match fold4 ps, num 255 p with | some a, some n => some (a * 256 + n) | _, _ => none := by
  unfold fold4; rw [List.foldl_append]; rfl
theorem fold4_addr (l : List UInt8) : (if (pieces 46 l).length = 4 then fold4 (pieces 46 l) else none) = addrOf l := by
  unfold addrOf
  split
  · rename_i h
    rcases hp : pieces 46 l with _ | ⟨a, _ | ⟨b, _ | ⟨c, _ | ⟨d, _ | ⟨e, r⟩⟩⟩⟩⟩
    all_goals (rw [hp] at h; simp at h)
    rcases ha : num 255 a with _ | na <;> rcases hb : num 255 b with _ | nb <;> rcases hc : num 255 c with _ | nc <;> rcases hd : num 255 d with _ | nd <;> simp [fold4, ha, hb, hc, hd, addr4]
  · rename_i h
    rcases hp : pieces 46 l with _ | ⟨a, _ | ⟨b, _ | ⟨c, _ | ⟨d, _ | ⟨e, r⟩⟩⟩⟩⟩
    all_goals first | (rw [hp] at h; simp at h; done) | rfl
theorem fold4_none (ps : List (List UInt8)) (p : List UInt8) (qs : List (List UInt8)) (h : num 255 p = none) : fold4 (ps ++ p :: qs) = none := by
  unfold fold4
  rw [List.foldl_append, List.foldl_cons, h]
  have : ∀ (qs : List (List UInt8)), qs.foldl (fun o p => match o, num 255 p with | some a, some n => some (a * 256 + n) | _, _ => none) (none : Option Nat) = none := by
    intro qs
    induction qs with
    | nil => rfl
    | cons q qs ih => rw [List.foldl_cons]; exact ih
  generalize List.foldl _ (some 0) ps = o
  cases o <;> exact this qs
theorem fold4_lt : ∀ (k : Nat) (ps : List (List UInt8)) (a : Nat), ps.length = k → fold4 ps = some a → a < 256 ^ k
  | 0, ps, a, hl, h => by
    obtain rfl : ps = [] := List.eq_nil_of_length_eq_zero hl
    simp [fold4] at h; subst h; decide
  | k + 1, ps, a, hl, h => by
    have hne : ps ≠ [] := fun e => by rw [e] at hl; simp at hl
    rw [← List.dropLast_concat_getLast hne, fold4_snoc] at h
    rcases h1 : fold4 ps.dropLast with _ | b
    · simp [h1] at h
    · rcases h2 : num 255 (ps.getLast hne) with _ | n
      · simp [h1, h2] at h
      · simp only [h1, h2, Option.some.injEq] at h
        have h3 := fold4_lt k ps.dropLast b (by simp [hl]) h1
        have h4 := (num_some.1 h2).2
        rw [Nat.pow_succ]
        omega

set_option maxHeartbeats 2000000 in
theorem ad_parse (l : List UInt8) (hl : l.length ≤ 4294967000) (w : World) (ht : TbP w) :
    Calls Tryz.prog 68 #[str l] w (Ret1 (adV (addrOf l)) w) := by
  obtain ⟨mm, hmx⟩ := ht.mx
  have hsz : (⟨l.toArray⟩ : ByteArray).size = l.length := by simp [ByteArray.size]
  have Ht := Lib.hid ht
  have hcnt := count_list 46 l
  have hfa := fold4_addr l
  have Hfa := Lib.hid hfa
  clear ht hfa
  obtain ⟨ps, hps⟩ : ∃ ps, ps = pieces 46 l := ⟨_, rfl⟩
  have hsplit := split_list 46 l
  rw [← hps] at hcnt hsplit
  rw [← hps] at Hfa
  have hlen : ∀ p, p ∈ ps → p.length ≤ 4294967000 := by
    intro p hp
    have hj : (pieces 46 l) = ps := hps.symm
    have : p.length ≤ l.length := by
      rw [hps] at hp
      exact pieces_le hp
    omega
  have Hlen := Lib.hid hlen
  go_enter Tryz.func68, Tryz.ntmps68
  go_wp2_with fail
  refine (Tryz.strings_Split ⟨l.toArray⟩ ⟨#[46]⟩ mm w (by rw [hsz]; omega) hmx (by decide)).mono ?_
  rintro e w1 ⟨rfl, rfl⟩
  rw [hcnt, hsplit]
  have hcell : ∀ k (h : k < ps.length), (w.alloc (.cells ((ps.map (fun p => (⟨p.toArray⟩ : ByteArray))).map Value.string).toArray 9)).cell? ⟨w.heap.size, k, none⟩ = some (str ps[k]) := by
    intro k h
    have hb := heap_alloc_new w (.cells ((ps.map (fun p => (⟨p.toArray⟩ : ByteArray))).map Value.string).toArray 9)
    unfold World.cell?
    rw [hb]
    simp [h]
  have hn1 : NoW w (w.alloc (.cells ((ps.map (fun p => (⟨p.toArray⟩ : ByteArray))).map Value.string).toArray 9)) := (Fp.refl _ _).alloc _
  generalize w.alloc (.cells ((ps.map (fun p => (⟨p.toArray⟩ : ByteArray))).map Value.string).toArray 9) = w1 at *
  have Hn1 := Lib.hid hn1
  have Hcell := Lib.hid hcell
  have hps4 : ps.length ≤ 4294967295 := by
    have := pieces_len 46 l
    have := List.count_le_length (a := (46 : UInt8)) (l := l)
    rw [hps]; omega
  clear hn1 hcell hcnt hsplit hlen hmx hps
  by_cases h4 : ps.length = 4
  · have h4' : ((ps.length : Int) != 4) = false := by simp [h4]
    rw [if_pos h4] at Hfa
    have H4 := Lib.hid h4
    clear h4
    go_wp2_with fail
    go_loopg [5, 17] 5 (fun g a i wx => ∃ (k b : Nat), k ≤ 4 ∧ g = 5 - k ∧ i = .int .i64 k ∧ a = .int .u32 b ∧ fold4 (ps.take k) = some b ∧ NoW w1 wx)
    case atStart => exact ⟨0, 0, by omega, rfl, rfl, rfl, rfl, Fp.refl _ _⟩
    case round =>
      obtain ⟨k, b, hk, hg, rfl, rfl, hb, hf⟩ := hrel
      have Hg := Lib.hid hg
      have Hb := Lib.hid hb
      have Hf := Lib.hid hf
      clear hg hb hf
      by_cases hlt : k < 4
      · have hkl : k < ps.length := by have := H4.out; omega
        have hc0 := Hcell.out k hkl
        have hc1 := (Hf.out.cell (p := ⟨w.heap.size, k, none⟩) (cell_lt hc0) id).trans hc0
        have hpl := Hlen.out ps[k] (List.getElem_mem hkl)
        have htk : ps.take (k + 1) = ps.take k ++ [ps[k]] := List.take_succ_eq_append_getElem hkl
        have hdr : ps = ps.take k ++ ps[k] :: ps.drop (k + 1) := by rw [List.getElem_cons_drop, List.take_append_drop]
        have Htk := Lib.hid htk
        have Hdr := Lib.hid hdr
        generalize ps[k] = p at *
        clear hc0 htk hdr
        have hbl := fold4_lt k (ps.take k) b (by rw [List.length_take]; omega) Hb.out
        have hbl2 : b < 16777216 := Nat.lt_of_lt_of_le hbl (Nat.le_trans (Nat.pow_le_pow_right (by omega) (show k ≤ 3 by omega)) (by decide))
        clear hbl
        go_wp2_with fail
        refine (number8 p (by omega) _ (Ht.out.low (Hn1.out.trans Hf.out (fun _ _ h => h)))).mono ?_
        rintro e w2 ⟨rfl, hp2⟩
        have Hf2 := Lib.hid (Hf.out.trans hp2 (fun _ _ h => h))
        clear hp2 hc1
        rcases hnum : num 255 p with _ | n
        · have hfn := fold4_none (ps.take k) p (ps.drop (k + 1)) hnum
          rw [← Hdr.out] at hfn
          have Hfn := Lib.hid hfn
          clear hnum hfn
          unfold numV
          go_wp2_with fail
          refine bodyPost_ret (v := .tuple #[.int .u32 0, .int .i64 3]) (by simp [results, Tryz.results68, go_sem]) rfl ⟨by rw [← Hfa.out, Hfn.out]; rfl, Hn1.out.trans Hf2.out (fun _ _ h => h)⟩
        · have hn255 := (num_some.1 hnum).2
          have Hnum := Lib.hid hnum
          clear hnum
          unfold numV
          go_wp2_with fail
          have hor : bits .or .u32 ((b : Int) * 256) (n : Int) = ((b * 256 + n : Nat) : Int) := by
            have h1 := u32_or_nat (b * 256) n (by omega) (by omega)
            rw [nat_join 8 (b * 256) n (by omega) (by omega)] at h1
            rw [← h1]; simp
          go_roundg (4 - k)
          case measure => have := Hg.out; omega
          case rel =>
            refine ⟨k + 1, b * 256 + n, by omega, by omega, by go_num, by rw [hor], ?_, Hf2.out⟩
            rw [Htk.out, fold4_snoc, Hb.out, Hnum.out]
      · obtain rfl : k = 4 := by omega
        have hb4 := Hb.out
        rw [List.take_of_length_le (by have := H4.out; omega), Hfa.out] at hb4
        have Hb4 := Lib.hid hb4
        clear hb4
        have h4a : ps.length ≤ 4 := by have := H4.out; omega
        go_wp2_with fail
        refine bodyPost_ret (v := .tuple #[.int .u32 b, .int .i64 0]) (by simp [results, Tryz.results68, go_sem]) rfl ⟨by rw [Hb4.out]; rfl, Hn1.out.trans Hf.out (fun _ _ h => h)⟩
  · have h4' : ((ps.length : Int) != 4) = true := by simp; omega
    rw [if_neg h4] at Hfa
    clear h4
    go_wp2_with fail
    refine bodyPost_ret (v := .tuple #[.int .u32 0, .int .i64 3]) (by simp [results, Tryz.results68, go_sem]) rfl ⟨by rw [← Hfa.out]; rfl, Hn1.out⟩
end Go.Proofs.YtdmbjndhdldggaaGreatDoor
