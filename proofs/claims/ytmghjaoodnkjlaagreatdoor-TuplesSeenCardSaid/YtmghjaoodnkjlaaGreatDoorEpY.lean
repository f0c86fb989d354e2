/- Chapter 18: what reading wants of the variables, beside Tb (written by genep.py). · Chapter 18 (of chapter 03's text, by genep.py): a number of so many bits, as it is written. · Chapter 18 (of chapter 03's text, by genep.py): addrs.Parse. · Chapter 18 (of chapter 03's text, by genep.py): Point, Prefix. -/
import Derived.Test.YtmghjaoodnkjlaaGreatDoorEnD
import Derived.Test.YtmghjaoodnkjlaaGreatDoorAd
import Derived.Laws.BitsAllLaws
namespace Go.Proofs.YtmghjaoodnkjlaaGreatDoor
set_option linter.unusedVariables false
set_option linter.unusedSimpArgs false
open Go.RowKit Go.Lib Go.Sort
structure TbP (w : World) : Prop where
  base : Tb w
  mx : ∃ m, w.cell? ⟨2, 0, none⟩ = some (.int .i64 m)
  es : ∃ ev, w.cell? ⟨5, 0, none⟩ = some ev ∧ (ev = .nilIface ∨ ∃ te pe, ev = .iface te pe)
  er : ∃ ev, w.cell? ⟨6, 0, none⟩ = some ev ∧ (ev = .nilIface ∨ ∃ te pe, ev = .iface te pe)
theorem TbP.low {w w' : World} (h : TbP w) (hf : NoW w w') : TbP w' := by
  obtain ⟨hb, ⟨m, hm⟩, ⟨ev, h1, h2⟩, ⟨ev', h3, h4⟩⟩ := h
  exact ⟨hb.low hf, ⟨m, (hf.cell (cell_lt hm) id).trans hm⟩, ⟨ev, (hf.cell (cell_lt h1) id).trans h1, h2⟩, ⟨ev', (hf.cell (cell_lt h3) id).trans h3, h4⟩⟩
end Go.Proofs.YtmghjaoodnkjlaaGreatDoor
namespace Go.Proofs.YtmghjaoodnkjlaaGreatDoor
set_option linter.unusedVariables false
set_option linter.unusedSimpArgs false
open Go.RowKit Go.Lib Go.Sort

/-- What 'number' answers. -/
def numV (k : IntKind) : Option Nat → Value
  | some n => .tuple #[.int k n, .bool true]
  | none => .tuple #[.int k 0, .bool false]

theorem parse8 (l : List UInt8) (hl : l.length ≤ 281474976710656) (w : World) (ht : TbP w) :
    Calls Tryz.prog 110 #[str l, .int .i64 10, .int .i64 8] w fun e w' => NoW w w' ∧ ((∃ n, parseUintB 8 l = .ok n ∧ e = .returned (.tuple #[.int .u64 n, .nilIface])) ∨ ((∀ n, parseUintB 8 l ≠ .ok n) ∧ ∃ (x : Int) (N : Nat), e = .returned (.tuple #[.int .u64 x, .iface 198 (.pointer (some ⟨N, 0, none⟩))]))) := by
  obtain ⟨ev, h1, h2⟩ := ht.es
  obtain ⟨ev', h3, h4⟩ := ht.er
  have hsz : (⟨l.toArray⟩ : ByteArray).size ≤ 281474976710656 := by simpa [ByteArray.size] using hl
  rcases hp : parseUintB 8 l with n | _ | _
  · refine (Tryz.strconv_ParseUint_10_at8_ok ⟨l.toArray⟩ (by omega) n hp w).mono ?_
    rintro e w' ⟨rfl, hw⟩
    refine ⟨?_, .inl ⟨n, rfl, rfl⟩⟩
    rcases hw with rfl | rfl
    · exact Fp.refl _ _
    · exact noW_bytes _ _ _
  · refine (Tryz.strconv_ParseUint_10_at8_syntax ⟨l.toArray⟩ hsz hp ev w h1 h2).mono ?_
    rintro e w' ⟨N, rfl, _, _, hb⟩
    exact ⟨Fp.of_below hb, .inr ⟨(fun n h => by cases h), 0, N, rfl⟩⟩
  · refine (Tryz.strconv_ParseUint_10_at8_range ⟨l.toArray⟩ hsz hp ev' w h3 h4).mono ?_
    rintro e w' ⟨N, rfl, _, _, hb⟩
    exact ⟨Fp.of_below hb, .inr ⟨(fun n h => by cases h), 255, N, rfl⟩⟩

theorem parse16 (l : List UInt8) (hl : l.length ≤ 281474976710656) (w : World) (ht : TbP w) :
    Calls Tryz.prog 110 #[str l, .int .i64 10, .int .i64 16] w fun e w' => NoW w w' ∧ ((∃ n, parseUintB 16 l = .ok n ∧ e = .returned (.tuple #[.int .u64 n, .nilIface])) ∨ ((∀ n, parseUintB 16 l ≠ .ok n) ∧ ∃ (x : Int) (N : Nat), e = .returned (.tuple #[.int .u64 x, .iface 198 (.pointer (some ⟨N, 0, none⟩))]))) := by
  obtain ⟨ev, h1, h2⟩ := ht.es
  obtain ⟨ev', h3, h4⟩ := ht.er
  have hsz : (⟨l.toArray⟩ : ByteArray).size ≤ 281474976710656 := by simpa [ByteArray.size] using hl
  rcases hp : parseUintB 16 l with n | _ | _
  · refine (Tryz.strconv_ParseUint_10_at16_ok ⟨l.toArray⟩ (by omega) n hp w).mono ?_
    rintro e w' ⟨rfl, hw⟩
    refine ⟨?_, .inl ⟨n, rfl, rfl⟩⟩
    rcases hw with rfl | rfl
    · exact Fp.refl _ _
    · exact noW_bytes _ _ _
  · refine (Tryz.strconv_ParseUint_10_at16_syntax ⟨l.toArray⟩ hsz hp ev w h1 h2).mono ?_
    rintro e w' ⟨N, rfl, _, _, hb⟩
    exact ⟨Fp.of_below hb, .inr ⟨(fun n h => by cases h), 0, N, rfl⟩⟩
  · refine (Tryz.strconv_ParseUint_10_at16_range ⟨l.toArray⟩ hsz hp ev' w h3 h4).mono ?_
    rintro e w' ⟨N, rfl, _, _, hb⟩
    exact ⟨Fp.of_below hb, .inr ⟨(fun n h => by cases h), 65535, N, rfl⟩⟩

set_option maxHeartbeats 1000000 in
theorem number8 (l : List UInt8) (hl : l.length ≤ 281474976710656) (w : World) (ht : TbP w) :
    Calls Tryz.prog 109 #[str l, .int .i64 8] w (Ret1 (numV .u8 (num 255 l)) w) := by
  go_enter Tryz.func109, Tryz.ntmps109
  go_wp2_with fail
  refine (parse8 l hl w ht).mono ?_
  rintro e w1 ⟨hp1, ⟨n, hpn, rfl⟩ | ⟨hpn, x, N, rfl⟩⟩
  · have ht1 := ht.low hp1
    have Ht1 := Lib.hid ht1
    have Hp1 := Lib.hid hp1
    have hn : n ≤ 255 := by
      unfold parseUintB at hpn
      split at hpn
      · cases hpn
      · exact (parse_le _ l 0 n (Nat.zero_le _) hpn).1
    have Hpn := Lib.hid hpn
    clear ht1 hp1 hpn ht
    go_wp2_with fail
    refine (fmt_any n (by omega) _ Ht1.out.base).mono ?_
    rintro e w2 ⟨rfl, hp2⟩
    have Hp2 := Lib.hid (Hp1.out.trans hp2 (fun _ _ h => h))
    clear hp2 Ht1 Hp1
    rcases hnum : num 255 l with _ | m
    · have hne := (parse_no (B := 8) hnum Hpn.out).1
      have hb : (decDigits n == l) = false := beq_eq_false_iff_ne.2 hne
      have Hnum := Lib.hid hnum
      clear hne hnum
      go_wp2_with fail
      refine bodyPost_ret (v := .tuple #[.int .u8 0, .bool false]) (by simp [results, Tryz.results109, go_sem]) rfl ⟨by rw [Hnum.out]; rfl, Hp2.out⟩
    · obtain ⟨rfl, hm⟩ := num_some.1 hnum
      have := parse_num (B := 8) (by decide) hnum
      rw [Hpn.out] at this
      cases this
      have hw8 : IntKind.u8.wrap (n : Int) = n := IntWalk.u8_in _ (by omega)
      have Hnum := Lib.hid hnum
      clear hnum
      go_wp2_with fail
      refine bodyPost_ret (v := .tuple #[.int .u8 n, .bool true]) (by simp [results, Tryz.results109, go_sem]) rfl ⟨by rw [Hnum.out]; rfl, Hp2.out⟩
  · have hnum : num 255 l = none := by
      rcases h : num 255 l with _ | n
      · rfl
      · exact absurd (parse_num (B := 8) (by decide) h) (hpn n)
    have Hnum := Lib.hid hnum
    clear hnum hpn ht
    go_wp2_with fail
    refine bodyPost_ret (v := .tuple #[.int .u8 0, .bool false]) (by simp [results, Tryz.results109, go_sem]) rfl ⟨by rw [Hnum.out]; rfl, hp1⟩

set_option maxHeartbeats 1000000 in
theorem number16 (l : List UInt8) (hl : l.length ≤ 281474976710656) (w : World) (ht : TbP w) :
    Calls Tryz.prog 69 #[str l, .int .i64 16] w (Ret1 (numV .u16 (num 65535 l)) w) := by
  go_enter Tryz.func69, Tryz.ntmps69
  go_wp2_with fail
  refine (parse16 l hl w ht).mono ?_
  rintro e w1 ⟨hp1, ⟨n, hpn, rfl⟩ | ⟨hpn, x, N, rfl⟩⟩
  · have ht1 := ht.low hp1
    have Ht1 := Lib.hid ht1
    have Hp1 := Lib.hid hp1
    have hn : n ≤ 65535 := by
      unfold parseUintB at hpn
      split at hpn
      · cases hpn
      · exact (parse_le _ l 0 n (Nat.zero_le _) hpn).1
    have Hpn := Lib.hid hpn
    clear ht1 hp1 hpn ht
    go_wp2_with fail
    refine (fmt_any n (by omega) _ Ht1.out.base).mono ?_
    rintro e w2 ⟨rfl, hp2⟩
    have Hp2 := Lib.hid (Hp1.out.trans hp2 (fun _ _ h => h))
    clear hp2 Ht1 Hp1
    rcases hnum : num 65535 l with _ | m
    · have hne := (parse_no (B := 16) hnum Hpn.out).1
      have hb : (decDigits n == l) = false := beq_eq_false_iff_ne.2 hne
      have Hnum := Lib.hid hnum
      clear hne hnum
      go_wp2_with fail
      refine bodyPost_ret (v := .tuple #[.int .u16 0, .bool false]) (by simp [results, Tryz.results69, go_sem]) rfl ⟨by rw [Hnum.out]; rfl, Hp2.out⟩
    · obtain ⟨rfl, hm⟩ := num_some.1 hnum
      have := parse_num (B := 16) (by decide) hnum
      rw [Hpn.out] at this
      cases this
      have hw16 : IntKind.u16.wrap (n : Int) = n := IntWalk.u16_in _ (by omega)
      have Hnum := Lib.hid hnum
      clear hnum
      go_wp2_with fail
      refine bodyPost_ret (v := .tuple #[.int .u16 n, .bool true]) (by simp [results, Tryz.results69, go_sem]) rfl ⟨by rw [Hnum.out]; rfl, Hp2.out⟩
  · have hnum : num 65535 l = none := by
      rcases h : num 65535 l with _ | n
      · rfl
      · exact absurd (parse_num (B := 16) (by decide) h) (hpn n)
    have Hnum := Lib.hid hnum
    clear hnum hpn ht
    go_wp2_with fail
    refine bodyPost_ret (v := .tuple #[.int .u16 0, .bool false]) (by simp [results, Tryz.results69, go_sem]) rfl ⟨by rw [Hnum.out]; rfl, hp1⟩
end Go.Proofs.YtmghjaoodnkjlaaGreatDoor
namespace Go.Proofs.YtmghjaoodnkjlaaGreatDoor
set_option linter.unusedVariables false
set_option linter.unusedSimpArgs false
open Go.RowKit Go.Lib Go.Sort

/-- What Parse answers. -/
def adV : Option Nat → Value
  | some n => .tuple #[.int .u32 n, .int .i64 0]
  | none => .tuple #[.int .u32 0, .int .i64 3]

/-- The parts that are read so far. -/
def parts : List (List UInt8) → Option Nat
  | [] => some 0
  | p :: ps => match num 255 p, parts ps with | some n, some m => some (n * 256 ^ ps.length + m) | _, _ => none

/-- Parts, from the front on. -/
def fold4 (ps : List (List UInt8)) : Option Nat := ps.foldl (fun o p => match o, num 255 p with | some a, some n => some (a * 256 + n) | _, _ => none) (some 0)
theorem fold4_snoc (ps : List (List UInt8)) (p : List UInt8) : fold4 (ps ++ [p]) = match fold4 ps, num 255 p with | some a, some n => some (a * 256 + n) | _, _ => none := by
  unfold fold4; rw [List.foldl_append]; rfl
theorem fold4_addr (l : List UInt8) : (if (pieces 46 l).length = 4 then fold4 (pieces 46 l) else none) = addrOf l := by
  unfold addrOf
  split
  · rename_i h
    rcases hp : pieces 46 l with _ | ⟨a, _ | ⟨b, _ | ⟨c, _ | ⟨d, _ | ⟨e, r⟩⟩⟩⟩⟩
    all_goals (rw [hp] at h; simp at h)
    rcases ha : num 255 a with _ | na <;> rcases hb : num 255 b with _ | nb <;> rcases hc : num 255 c with _ | nc <;> rcases hd : num 255 d with _ | nd <;> simp [fold4, ha, hb, hc, hd, addr4]
  · rename_i h
    rcases hp : pieces 46 l with _ | ⟨a, _ | ⟨b, _ | ⟨c, _ | ⟨d, _ | ⟨e, r⟩⟩⟩⟩⟩
    all_goals first | (rw [hp] at h; simp at h; done) | rfl
theorem fold4_none (ps : List (List UInt8)) (p : List UInt8) (qs : List (List UInt8)) (h : num 255 p = none) : fold4 (ps ++ p :: qs) = none := by
  unfold fold4
  rw [List.foldl_append, List.foldl_cons, h]
  have : ∀ (qs : List (List UInt8)), qs.foldl (fun o p => match o, num 255 p with | some a, some n => some (a * 256 + n) | _, _ => none) (none : Option Nat) = none := by
    intro qs
    induction qs with
    | nil => rfl
    | cons q qs ih => rw [List.foldl_cons]; exact ih
  generalize List.foldl _ (some 0) ps = o
  cases o <;> exact this qs
theorem fold4_lt : ∀ (k : Nat) (ps : List (List UInt8)) (a : Nat), ps.length = k → fold4 ps = some a → a < 256 ^ k
  | 0, ps, a, hl, h => by
    obtain rfl : ps = [] := List.eq_nil_of_length_eq_zero hl
    simp [fold4] at h; subst h; decide
  | k + 1, ps, a, hl, h => by
    have hne : ps ≠ [] := fun e => by rw [e] at hl; simp at hl
    rw [← List.dropLast_concat_getLast hne, fold4_snoc] at h
    rcases h1 : fold4 ps.dropLast with _ | b
    · simp [h1] at h
    · rcases h2 : num 255 (ps.getLast hne) with _ | n
      · simp [h1, h2] at h
      · simp only [h1, h2, Option.some.injEq] at h
        have h3 := fold4_lt k ps.dropLast b (by simp [hl]) h1
        have h4 := (num_some.1 h2).2
        rw [Nat.pow_succ]
        omega

set_option maxHeartbeats 2000000 in
theorem ad_parse (l : List UInt8) (hl : l.length ≤ 4294967000) (w : World) (ht : TbP w) :
    Calls Tryz.prog 68 #[str l] w (Ret1 (adV (addrOf l)) w) := by
  obtain ⟨mm, hmx⟩ := ht.mx
  have hsz : (⟨l.toArray⟩ : ByteArray).size = l.length := by simp [ByteArray.size]
  have Ht := Lib.hid ht
  have hcnt := count_list 46 l
  have hfa := fold4_addr l
  have Hfa := Lib.hid hfa
  clear ht hfa
  obtain ⟨ps, hps⟩ : ∃ ps, ps = pieces 46 l := ⟨_, rfl⟩
  have hsplit := split_list 46 l
  rw [← hps] at hcnt hsplit
  rw [← hps] at Hfa
  have hlen : ∀ p, p ∈ ps → p.length ≤ 4294967000 := by
    intro p hp
    have hj : (pieces 46 l) = ps := hps.symm
    have : p.length ≤ l.length := by
      rw [hps] at hp
      exact pieces_le hp
    omega
  have Hlen := Lib.hid hlen
  go_enter Tryz.func68, Tryz.ntmps68
  go_wp2_with fail
  refine (Tryz.strings_Split ⟨l.toArray⟩ ⟨#[46]⟩ mm w (by rw [hsz]; omega) hmx (by decide)).mono ?_
  rintro e w1 ⟨rfl, rfl⟩
  rw [hcnt, hsplit]
  have hcell : ∀ k (h : k < ps.length), (w.alloc (.cells ((ps.map (fun p => (⟨p.toArray⟩ : ByteArray))).map Value.string).toArray 9)).cell? ⟨w.heap.size, k, none⟩ = some (str ps[k]) := by
    intro k h
    have hb := heap_alloc_new w (.cells ((ps.map (fun p => (⟨p.toArray⟩ : ByteArray))).map Value.string).toArray 9)
    unfold World.cell?
    rw [hb]
    simp [h]
  have hn1 : NoW w (w.alloc (.cells ((ps.map (fun p => (⟨p.toArray⟩ : ByteArray))).map Value.string).toArray 9)) := (Fp.refl _ _).alloc _
  generalize w.alloc (.cells ((ps.map (fun p => (⟨p.toArray⟩ : ByteArray))).map Value.string).toArray 9) = w1 at *
  have Hn1 := Lib.hid hn1
  have Hcell := Lib.hid hcell
  have hps4 : ps.length ≤ 4294967295 := by
    have := pieces_len 46 l
    have := List.count_le_length (a := (46 : UInt8)) (l := l)
    rw [hps]; omega
  clear hn1 hcell hcnt hsplit hlen hmx hps
  by_cases h4 : ps.length = 4
  · have h4' : ((ps.length : Int) != 4) = false := by simp [h4]
    rw [if_pos h4] at Hfa
    have H4 := Lib.hid h4
    clear h4
    go_wp2_with fail
    go_loopg [5, 17] 5 (fun g a i wx => ∃ (k b : Nat), k ≤ 4 ∧ g = 5 - k ∧ i = .int .i64 k ∧ a = .int .u32 b ∧ fold4 (ps.take k) = some b ∧ NoW w1 wx)
    case atStart => exact ⟨0, 0, by omega, rfl, rfl, rfl, rfl, Fp.refl _ _⟩
    case round =>
      obtain ⟨k, b, hk, hg, rfl, rfl, hb, hf⟩ := hrel
      have Hg := Lib.hid hg
      have Hb := Lib.hid hb
      have Hf := Lib.hid hf
      clear hg hb hf
      by_cases hlt : k < 4
      · have hkl : k < ps.length := by have := H4.out; omega
        have hc0 := Hcell.out k hkl
        have hc1 := (Hf.out.cell (p := ⟨w.heap.size, k, none⟩) (cell_lt hc0) id).trans hc0
        have hpl := Hlen.out ps[k] (List.getElem_mem hkl)
        have htk : ps.take (k + 1) = ps.take k ++ [ps[k]] := List.take_succ_eq_append_getElem hkl
        have hdr : ps = ps.take k ++ ps[k] :: ps.drop (k + 1) := by rw [List.getElem_cons_drop, List.take_append_drop]
        have Htk := Lib.hid htk
        have Hdr := Lib.hid hdr
        generalize ps[k] = p at *
        clear hc0 htk hdr
        have hbl := fold4_lt k (ps.take k) b (by rw [List.length_take]; omega) Hb.out
        have hbl2 : b < 16777216 := Nat.lt_of_lt_of_le hbl (Nat.le_trans (Nat.pow_le_pow_right (by omega) (show k ≤ 3 by omega)) (by decide))
        clear hbl
        go_wp2_with fail
        refine (number8 p (by omega) _ (Ht.out.low (Hn1.out.trans Hf.out (fun _ _ h => h)))).mono ?_
        rintro e w2 ⟨rfl, hp2⟩
        have Hf2 := Lib.hid (Hf.out.trans hp2 (fun _ _ h => h))
        clear hp2 hc1
        rcases hnum : num 255 p with _ | n
        · have hfn := fold4_none (ps.take k) p (ps.drop (k + 1)) hnum
          rw [← Hdr.out] at hfn
          have Hfn := Lib.hid hfn
          clear hnum hfn
          unfold numV
          go_wp2_with fail
          refine bodyPost_ret (v := .tuple #[.int .u32 0, .int .i64 3]) (by simp [results, Tryz.results68, go_sem]) rfl ⟨by rw [← Hfa.out, Hfn.out]; rfl, Hn1.out.trans Hf2.out (fun _ _ h => h)⟩
        · have hn255 := (num_some.1 hnum).2
          have Hnum := Lib.hid hnum
          clear hnum
          unfold numV
          go_wp2_with fail
          have hor : bits .or .u32 ((b : Int) * 256) (n : Int) = ((b * 256 + n : Nat) : Int) := by
            have h1 := u32_or_nat (b * 256) n (by omega) (by omega)
            rw [nat_join 8 (b * 256) n (by omega) (by omega)] at h1
            rw [← h1]; simp
          go_roundg (4 - k)
          case measure => have := Hg.out; omega
          case rel =>
            refine ⟨k + 1, b * 256 + n, by omega, by omega, by go_num, by rw [hor], ?_, Hf2.out⟩
            rw [Htk.out, fold4_snoc, Hb.out, Hnum.out]
      · obtain rfl : k = 4 := by omega
        have hb4 := Hb.out
        rw [List.take_of_length_le (by have := H4.out; omega), Hfa.out] at hb4
        have Hb4 := Lib.hid hb4
        clear hb4
        have h4a : ps.length ≤ 4 := by have := H4.out; omega
        go_wp2_with fail
        refine bodyPost_ret (v := .tuple #[.int .u32 b, .int .i64 0]) (by simp [results, Tryz.results68, go_sem]) rfl ⟨by rw [Hb4.out]; rfl, Hn1.out.trans Hf.out (fun _ _ h => h)⟩
  · have h4' : ((ps.length : Int) != 4) = true := by simp; omega
    rw [if_neg h4] at Hfa
    clear h4
    go_wp2_with fail
    refine bodyPost_ret (v := .tuple #[.int .u32 0, .int .i64 3]) (by simp [results, Tryz.results68, go_sem]) rfl ⟨by rw [← Hfa.out]; rfl, Hn1.out⟩
end Go.Proofs.YtmghjaoodnkjlaaGreatDoor
namespace Go.Proofs.YtmghjaoodnkjlaaGreatDoor
set_option linter.unusedVariables false
set_option linter.unusedSimpArgs false
open Go.RowKit Go.Lib Go.Sort

def ptV : Option (Nat × Nat) → Value
  | some (a, n) => .tuple #[.agg #[.int .u32 a, .int .u16 n], .int .i64 0]
  | none => .tuple #[.agg #[.int .u32 0, .int .u16 0], .int .i64 3]

theorem num_nil (M : Nat) : num M [] = none := num_none.2 fun n _ e => dec_ne n e.symm
theorem cut_spec (c : UInt8) (M : Nat) (l : List UInt8) : ∃ x y t, Lib.cut l [c] = (x, y, t) ∧ x.length ≤ l.length ∧ y.length ≤ l.length ∧
    withOf c M l = match addrOf x, num M y with | some a, some n => some (a, n) | _, _ => none := by
  rw [lib_cut]
  rcases h : cutFirst c l with _ | ⟨x, y⟩
  · refine ⟨l, [], false, rfl, Nat.le_refl _, by simp, ?_⟩
    unfold withOf
    rw [h, num_nil]
    cases addrOf l <;> rfl
  · have := (cutFirst_some.1 h).1
    refine ⟨x, y, true, rfl, by rw [this]; simp, by rw [this]; simp; omega, ?_⟩
    unfold withOf
    rw [h]
    dsimp only
    rcases addrOf x with _ | a <;> rcases num M y with _ | n <;> rfl

theorem cut_any (c : UInt8) (l : List UInt8) (hl : l.length ≤ 4294967000) (w : World) (ht : TbP w) {x y : List UInt8} {t : Bool} (h : Lib.cut l [c] = (x, y, t)) :
    Calls Tryz.prog 67 #[str l, .string ⟨#[c]⟩] w (Ret1 (.tuple #[str x, str y, .bool t]) w) := by
  obtain ⟨mm, hmx⟩ := ht.mx
  have hsz : (⟨l.toArray⟩ : ByteArray).size = l.length := by simp [ByteArray.size]
  refine (Tryz.strings_Cut ⟨l.toArray⟩ ⟨#[c]⟩ mm w (by rw [hsz]; omega) hmx).mono ?_
  rintro e w' ⟨rfl, n, rfl⟩
  have e1 : Lib.cut (⟨l.toArray⟩ : ByteArray).data.toList (⟨#[c]⟩ : ByteArray).data.toList = (x, y, t) := h
  rw [e1]
  exact ⟨rfl, (Fp.refl _ _).drewN n⟩

set_option maxHeartbeats 2000000 in
theorem ad_point (l : List UInt8) (hl : l.length ≤ 4294967000) (w : World) (ht : TbP w) :
    Calls Tryz.prog 36 #[str l] w (Ret1 (ptV (withOf 58 65535 l)) w) := by
  obtain ⟨x, y, t, hcut, hx, hy, hwith⟩ := cut_spec 58 65535 l
  have hcut2 := fun W hW => cut_any 58 l hl W hW hcut
  have Hcut := Lib.hid hcut2
  have Ht := Lib.hid ht
  have Hwith := Lib.hid hwith
  clear hcut hcut2 ht hwith
  go_enter Tryz.func36, Tryz.ntmps36
  go_wp2_with fail
  have hn0 : NoW w (w.alloc (.cells #[.int .u32 0, .int .u16 0] 27)) := (Fp.refl _ _).alloc _
  have hb0 := heap_alloc_new w (.cells #[.int .u32 0, .int .u16 0] 27)
  refine (Hcut.out _ (Ht.out.low hn0)).mono ?_
  rintro e w1 ⟨rfl, hp1⟩
  have hn1 := hn0.trans hp1 (fun _ _ h => h)
  have hb1 := (hp1.block _ (by simp) id).trans hb0
  have Hn1 := Lib.hid hn1
  have Hb1 := Lib.hid hb1
  clear hp1 hn1 hb1 hn0 hb0
  go_wp2_with fail
  refine (ad_parse x (by omega) _ (Ht.out.low Hn1.out)).mono ?_
  rintro e w2 ⟨rfl, hp2⟩
  have hn2 := Hn1.out.trans hp2 (fun _ _ h => h)
  have hb2 := (hp2.block _ (Array.getElem?_eq_some_iff.1 Hb1.out).1 id).trans Hb1.out
  have Hn2 := Lib.hid hn2
  have Hb2 := Lib.hid hb2
  clear hp2 hn2 hb2 Hn1 Hb1
  obtain ⟨oa, hoa⟩ : ∃ oa, oa = addrOf x := ⟨_, rfl⟩
  rw [← hoa] at Hwith ⊢
  clear hoa
  obtain ⟨on, hon⟩ : ∃ on, on = num 65535 y := ⟨_, rfl⟩
  have hny := fun W hW => number16 y (by omega) W hW
  rw [← hon] at Hwith hny
  have Hny := Lib.hid hny
  have hn65 : ∀ n, on = some n → n ≤ 65535 := fun n e => (num_some.1 (hon.symm.trans e)).2
  clear hon hny
  rcases oa with _ | a
  all_goals
    unfold adV
    go_wp2_with fail
    refine (Hny.out _ (Ht.out.low Hn2.out)).mono ?_
    rintro e w3 ⟨rfl, hp3⟩
    have hn3 := Hn2.out.trans hp3 (fun _ _ h => h)
    have hb3 := (hp3.block _ (Array.getElem?_eq_some_iff.1 Hb2.out).1 id).trans Hb2.out
    have Hn3 := Lib.hid hn3
    have c0 : w3.cell? ⟨w.heap.size, 0, none⟩ = some (.int .u32 0) := by simp [World.cell?, hb3]
    have c1 : w3.cell? ⟨w.heap.size, 1, none⟩ = some (.int .u16 0) := by simp [World.cell?, hb3]
    have z0 : w3.frozen? ⟨w.heap.size, 0, none⟩ = false := by simp [World.frozen?, hb3]
    have z1 : w3.frozen? ⟨w.heap.size, 1, none⟩ = false := by simp [World.frozen?, hb3]
    clear hp3 hn3 hb3
    rcases on with _ | n
    all_goals
      unfold numV
      have Hn65 := Lib.hid hn65
      clear hn65
      go_wp2_with fail
  · refine bodyPost_ret (v := .tuple #[.agg #[.int .u32 0, .int .u16 0], .int .i64 3]) (by simp only [results, Tryz.results36]; go_simp) rfl ⟨by rw [Hwith.out]; rfl, ?_⟩
    have := Hn3.out
    (repeat (first | exact Fp.refl _ _ | refine Fp.drew ?_ | refine Fp.drewN ?_ _ | refine Fp.alloc ?_ _ | (refine Fp.setCell ?_ (Or.inl (by simp)) _) | (refine Fp.setCell ?_ (Or.inl (by simp; omega)) _) | refine Fp.trans ?_ (by assumption) (fun _ _ h => h)))
  · refine bodyPost_ret (v := .tuple #[.agg #[.int .u32 0, .int .u16 0], .int .i64 3]) (by simp only [results, Tryz.results36]; go_simp) rfl ⟨by rw [Hwith.out]; rfl, ?_⟩
    have := Hn3.out
    (repeat (first | exact Fp.refl _ _ | refine Fp.drew ?_ | refine Fp.drewN ?_ _ | refine Fp.alloc ?_ _ | (refine Fp.setCell ?_ (Or.inl (by simp)) _) | (refine Fp.setCell ?_ (Or.inl (by simp; omega)) _) | refine Fp.trans ?_ (by assumption) (fun _ _ h => h)))
  · refine bodyPost_ret (v := .tuple #[.agg #[.int .u32 0, .int .u16 0], .int .i64 3]) (by simp only [results, Tryz.results36]; go_simp) rfl ⟨by rw [Hwith.out]; rfl, ?_⟩
    have := Hn3.out
    (repeat (first | exact Fp.refl _ _ | refine Fp.drew ?_ | refine Fp.drewN ?_ _ | refine Fp.alloc ?_ _ | (refine Fp.setCell ?_ (Or.inl (by simp)) _) | (refine Fp.setCell ?_ (Or.inl (by simp; omega)) _) | refine Fp.trans ?_ (by assumption) (fun _ _ h => h)))
  · refine bodyPost_ret (v := .tuple #[.agg #[.int .u32 a, .int .u16 n], .int .i64 0]) (by simp only [results, Tryz.results36]; go_simp) rfl ⟨by rw [Hwith.out]; rfl, ?_⟩
    have := Hn3.out
    (repeat (first | exact Fp.refl _ _ | refine Fp.drew ?_ | refine Fp.drewN ?_ _ | refine Fp.alloc ?_ _ | (refine Fp.setCell ?_ (Or.inl (by simp)) _) | (refine Fp.setCell ?_ (Or.inl (by simp; omega)) _) | refine Fp.trans ?_ (by assumption) (fun _ _ h => h)))
end Go.Proofs.YtmghjaoodnkjlaaGreatDoor
