/- Chapter 18, EntriesAmong: Docs, and the loop that copies entries (written by genamb.py). -/
import Derived.Test.YtaiimkcmgiceeaaDoorAmA
namespace Go.Proofs.YtaiimkcmgiceeaaDoor
set_option linter.unusedVariables false
set_option linter.unusedSimpArgs false
open Go.RowKit Go.Lib Go.Sort
def entZ : Value := .agg #[.int .u8 0, .int .u32 0, .int .u16 0, .int .u32 0, .int .u16 0, .int .u8 0, .int .u32 0, .int .u16 0, .int .u32 0, .int .u16 0, .int .i64 0, .int .i64 0, .slice none 0 0]
theorem infoEnt : ∃ i, Tryd.prog.info? 32 = some i ∧ i.zero = some entZ ∧ i.size = 13 ∧ i.bytes ≤ 65536 := by
  have h : ((Tryd.prog.info? 32).map fun i => (i.zero, i.size, decide (i.bytes ≤ 65536))) = some (some entZ, 13, true) := by kernel_rfl
  rcases hi : Tryd.prog.info? 32 with _ | i
  · simp [hi] at h
  · simp [hi] at h
    exact ⟨i, rfl, h.1, h.2.1, h.2.2⟩
theorem infoREnt : ∃ i, Tryd.prog.info? 45 = some i ∧ i.zero = some entZ ∧ i.size = 13 ∧ i.bytes ≤ 65536 := by
  have h : ((Tryd.prog.info? 45).map fun i => (i.zero, i.size, decide (i.bytes ≤ 65536))) = some (some entZ, 13, true) := by kernel_rfl
  rcases hi : Tryd.prog.info? 45 with _ | i
  · simp [hi] at h
  · simp [hi] at h
    exact ⟨i, rfl, h.1, h.2.1, h.2.2⟩

abbrev HoldO := (Nat → Nat) × (Nat → Nat) × (Nat → Nat) × (Nat → Nat)
def hv (o : HoldO) (n : Nat) : List Value := holdsV o.1 o.2.1 o.2.2.1 o.2.2.2 n
def flatE (F : Nat → EntD) (n : Nat) : List Value := (List.range n).flatMap fun i => (F i).cs
theorem flatE_succ (F : Nat → EntD) (n : Nat) : flatE F (n + 1) = flatE F n ++ (F n).cs := by simp [flatE, List.range_succ]
theorem flatE_len (F : Nat → EntD) (n : Nat) : (flatE F n).length = n * 13 := by
  induction n with
  | zero => rfl
  | succ n ih => rw [flatE_succ, List.length_append, ih]; simp [EntD.cs]; omega
theorem flatE_congr {F G : Nat → EntD} {n : Nat} (h : ∀ i, i < n → F i = G i) : flatE F n = flatE G n := by
  induction n with
  | zero => rfl
  | succ n ih => rw [flatE_succ, flatE_succ, ih (fun i hi => h i (by omega)), h n (by omega)]
theorem flatE_get (F : Nat → EntD) (n i j : Nat) (v : Value) (hi : i < n) (hj : (F i).cs[j]? = some v) : (flatE F n)[i * 13 + j]? = some v := by
  have hl : j < 13 := (List.getElem?_eq_some_iff.1 hj).1
  induction n with
  | zero => omega
  | succ n ih =>
    rw [flatE_succ]
    by_cases e : i < n
    · rw [List.getElem?_append_left (by rw [flatE_len]; omega)]; exact ih e
    · obtain rfl : i = n := by omega
      rw [List.getElem?_append_right (by rw [flatE_len]; omega), flatE_len, show i * 13 + j - i * 13 = j by omega]; exact hj
theorem cs_one (x : EntD) : ∀ v ∈ x.cs, v.oneCell' = true := by
  intro v hv
  simp only [EntD.cs, List.mem_cons, List.not_mem_nil, or_false] at hv
  rcases hv with rfl | rfl | rfl | rfl | rfl | rfl | rfl | rfl | rfl | rfl | rfl | rfl | rfl <;> rfl
/-- An entry, its holds elsewhere. -/
def EntD.on (x : EntD) (ad : Option Addr) (c : Nat) : EntD := { x with ad := ad, c := c }
def upd {β : Type} (f : Nat → β) (k : Nat) (y : β) : Nat → β := fun i => if i = k then y else f i
theorem upd_lt {β : Type} {f : Nat → β} {k i : Nat} {y : β} (h : i < k) : upd f k y i = f i := if_neg (by omega)
theorem upd_eq {β : Type} {f : Nat → β} {k : Nat} {y : β} : upd f k y k = y := if_pos rfl
/-- A slice of entries of a call's own (made behind B), their holds of its own, too. -/
structure OwnE (B : Nat) (w : World) (T : TypeId) (v : Value) (n : Nat) (E F : Nat → EntD) (H : Nat → Nat) (O : Nat → HoldO) : Prop where
  row : w.ownsRow B T 13 v n (flatE F n)
  same : ∀ i, i < n → ∃ ad c, F i = (E i).on ad c
  hold : ∀ i, i < n → 0 < (E i).n → (F i).ad = some ⟨H i, 0, none⟩ ∧ B ≤ H i ∧ Holds w (H i) 0 (E i).n (hv (O i) (E i).n) ∧ v.ownBlock ≠ some (H i) ∧ (T = 32 → Frz w (H i))
  inj : ∀ i j, i < j → j < n → 0 < (E i).n → 0 < (E j).n → H i ≠ H j
  nil0 : n = 0 → v = .slice none 0 0
theorem OwnE.nil (B : Nat) (w : World) (T : TypeId) (E : Nat → EntD) (H : Nat → Nat) (O : Nat → HoldO) : OwnE B w T (.slice none 0 0) 0 E E H O :=
  ⟨World.ownsRow_nil _ _ _ 13, fun i hi => by omega, fun i hi => by omega, fun i j h1 h2 => by omega, fun _ => rfl⟩
theorem OwnE.size {B : Nat} {w : World} {T : TypeId} {v : Value} {n : Nat} {E F : Nat → EntD} {H : Nat → Nat} {O : Nat → HoldO} (h : OwnE B w T v n E F H O) (i : Nat) (hi : i < n) : (F i).n = (E i).n := by
  obtain ⟨ad, c, e⟩ := h.same i hi
  rw [e]; rfl
theorem OwnE.low {B : Nat} {w w' : World} {T : TypeId} {v : Value} {n : Nat} {E F : Nat → EntD} {H : Nat → Nat} {O : Nat → HoldO} (h : OwnE B w T v n E F H O) (hp : NoW w w') : OwnE B w' T v n E F H O :=
  ⟨ownsRow_of_block h.row fun x e => hp.block x (World.ownsRow.lt h.row x e).2 id, h.same, fun i hi hn => by
    obtain ⟨h1, h2, h3, h4⟩ := h.hold i hi hn
    exact ⟨h1, h2, h3.low hp, h4.1, fun e => (h4.2 e).low h3.lt hp id⟩, h.inj, h.nil0⟩
theorem OwnE.step {B : Nat} {w x w' : World} {T : TypeId} {v v' : Value} {k : Nat} {E F : Nat → EntD} {H : Nat → Nat} {O : Nat → HoldO} (h : OwnE B w T v k E F H O) (hp : NoW w x) (hB : B ≤ w.heap.size) (ad : Option Addr) (c : Nat)
    (hnew : 0 < (E k).n → ∃ hb, ad = some ⟨hb, 0, none⟩ ∧ w.heap.size ≤ hb ∧ Holds x hb 0 (E k).n (hv (O k) (E k).n) ∧ (T = 32 → Frz x hb))
    (hown : w'.ownsRow B T 13 v' (k + 1) (flatE F k ++ ((E k).on ad c).cs)) (hg : x.grownBy w' v.ownBlock) (hv' : v'.ownBlock = v.ownBlock ∨ v'.ownBlock = some x.heap.size) :
    ∃ H', OwnE B w' T v' (k + 1) E (upd F k ((E k).on ad c)) H' O := by
  have hH : ∃ hb, 0 < (E k).n → ad = some ⟨hb, 0, none⟩ ∧ w.heap.size ≤ hb ∧ Holds x hb 0 (E k).n (hv (O k) (E k).n) ∧ (T = 32 → Frz x hb) := by
    by_cases e : 0 < (E k).n
    · obtain ⟨hb, h1⟩ := hnew e; exact ⟨hb, fun _ => h1⟩
    · exact ⟨0, fun e' => absurd e' e⟩
  obtain ⟨hb, hH⟩ := hH
  have keep : ∀ b n ys, b < x.heap.size → v.ownBlock ≠ some b → Holds x b 0 n ys → Holds w' b 0 n ys := fun b n ys h1 h2 h3 =>
    ⟨h3.len, fun j z hj => (World.cell?_of_block (hg.block b h1 (fun e => h2 e.symm))).trans (h3.cell j z hj), h3.one, Nat.lt_of_lt_of_le h1 hg.size⟩
  have keepZ : ∀ b, b < x.heap.size → v.ownBlock ≠ some b → Frz x b → Frz w' b := fun b h1 h2 h3 o => (World.frozen?_of_block (hg.block b h1 (fun e => h2 e.symm))).trans (h3 o)
  refine ⟨upd H k hb, ?_, ?_, ?_, ?_, fun e => by omega⟩
  · rw [flatE_succ, upd_eq, flatE_congr (G := F) (fun i hi => upd_lt hi)]; exact hown
  · intro i hi
    by_cases e : i < k
    · rw [upd_lt e]; exact h.same i e
    · obtain rfl : i = k := by omega
      rw [upd_eq]; exact ⟨ad, c, rfl⟩
  · intro i hi hn
    by_cases e : i < k
    · rw [upd_lt e, upd_lt e]
      obtain ⟨h1, h2, h3, h4⟩ := h.hold i e hn
      have h5 := h3.low hp
      refine ⟨h1, h2, keep _ _ _ h5.lt h4.1 h5, ?_, fun e => keepZ _ h5.lt h4.1 ((h4.2 e).low h3.lt hp id)⟩
      rcases hv' with e1 | e1
      · rw [e1]; exact h4.1
      · rw [e1]; intro e2; have := h5.lt; injection e2; omega
    · obtain rfl : i = k := by omega
      rw [upd_eq, upd_eq]
      obtain ⟨h1, h2, h3, h3z⟩ := hH hn
      have hno : v.ownBlock ≠ some hb := fun e2 => by have := (World.ownsRow.lt h.row _ e2).2; omega
      refine ⟨h1, by omega, keep _ _ _ h3.lt (fun e2 => ?_) h3, ?_, fun e => keepZ _ h3.lt hno (h3z e)⟩
      · have := (World.ownsRow.lt h.row _ e2).2; omega
      · rcases hv' with e1 | e1
        · rw [e1]; intro e2; have := (World.ownsRow.lt h.row _ e2).2; omega
        · rw [e1]; intro e2; have := h3.lt; injection e2; omega
  · intro i j hij hj hi0 hj0
    by_cases e : j < k
    · rw [upd_lt e, upd_lt (show i < k by omega)]; exact h.inj i j hij e hi0 hj0
    · obtain rfl : j = k := by omega
      rw [upd_eq, upd_lt hij]
      have h1 := (h.hold i hij hi0).2.2.1.lt
      have h2 := (hH hj0).2.1
      omega
theorem ent_at {w : World} {a : Option Addr} {n : Nat} {E : Nat → EntD} (h : Ents w a n E) (i : Nat) (hi : i < n) : ∃ b o, a = some ⟨b, o, none⟩ ∧ ∀ j v, (E i).cs[j]? = some v → w.cell? ⟨b, o + i * 13 + j, none⟩ = some v := h.at' i hi
theorem OwnE.ents {B : Nat} {w : World} {T : TypeId} {v : Value} {n : Nat} {E F : Nat → EntD} {H : Nat → Nat} {O : Nat → HoldO} (h : OwnE B w T v n E F H O) (hok : ∀ i, i < n → (E i).Ok) :
    ∃ sl c, v = .slice sl n c ∧ n ≤ c ∧ Ents w sl n F ∧ (0 < n → ∃ g, sl = some ⟨g, 0, none⟩ ∧ v.ownBlock = some g) := by
  have ok : ∀ i, i < n → (F i).Ok := fun i hi => by
    obtain ⟨ad, c, e⟩ := h.same i hi
    have := hok i hi
    rw [e]; exact ⟨this.r, this.a, this.p, this.b, this.q, this.r2, this.a2, this.p2, this.b2, this.q2, this.st, this.dl, this.nm⟩
  have hrow := h.row
  rcases h.row.2 with ⟨rfl, rfl⟩ | ⟨g, cap, cur, rfl, hg, hh, h1, h2, h3, h4⟩
  · exact ⟨none, 0, rfl, Nat.le_refl _, ⟨ok, fun i hi => by omega⟩, fun h => by omega⟩
  · refine ⟨some ⟨g, 0, none⟩, cap, rfl, h1, ⟨ok, fun i hi => ⟨g, 0, rfl, fun j z hj => ?_⟩⟩, fun _ => ⟨g, rfl, rfl⟩⟩
    have e1 := flatE_get F n i j z hi hj
    have e2 := World.ownsRow.cells hrow rfl _ z e1
    rw [add_eq] at e2
    rw [show 0 + i * 13 + j = 0 + (i * 13 + j) by omega]
    exact e2

set_option maxHeartbeats 8000000 in
set_option maxRecDepth 100000 in
theorem docs_ok (sl : Option Addr) (n c : Nat) (E : Nat → EntD) (O : Nat → HoldO) (hn : n ≤ 100) (hh : ∀ i, i < n → (E i).n ≤ 100) (w : World) (hE : Ents w sl n E) (hH : ∀ i, i < n → HoldsIn w (E i).ad (E i).n (hv (O i) (E i).n)) :
    Calls Tryd.prog 6 #[.slice sl n c] w fun e w' => ∃ v F H, e = .returned v ∧ OwnE w.heap.size w' 45 v n E F H O ∧ NoW w w' := by
  have HE := Lib.hid hE
  have HHo := Lib.hid hH
  have KD := Lib.hid (fun (i : Nat) (hi : i < n) (W : World) (hW : NoW w W) => doc_new (E i).r (E i).a (E i).p (E i).b (E i).q (E i).r2 (E i).a2 (E i).p2 (E i).b2 (E i).q2 (E i).st (E i).dl (E i).ad (E i).n (E i).c (O i).1 (O i).2.1 (O i).2.2.1 (O i).2.2.2 (hh i hi) W ((hH i hi).low hW))
  clear hE hH hh
  go_enter Tryd.func6, Tryd.ntmps6
  go_wp2_with fail
  go_loopg [3, 4] (n + 1) (fun gg vv iv wx => ∃ (k : Nat) (F : Nat → EntD) (H : Nat → Nat), k ≤ n ∧ gg = n + 1 - k ∧ iv = .int .i64 (k : Int) ∧ OwnE w.heap.size wx 45 vv k E F H O ∧ NoW w wx)
  case atStart => exact ⟨0, E, fun _ => 0, by omega, by omega, rfl, OwnE.nil _ _ _ _ _ _, Fp.refl _ _⟩
  case round =>
    obtain ⟨k, F, H, hk, hg, rfl, hO, hf⟩ := hrel
    have Hg := Lib.hid hg
    have Hf := Lib.hid hf
    have HO := Lib.hid hO
    clear hg hf hO
    by_cases hlt : k < n
    · obtain ⟨b, o, rfl, hc⟩ := (HE.out.low Hf.out).at' k hlt
      have x0 : wr.cell? ⟨b, o + k * 13, none⟩ = some (.int .u8 (E k).r) := hc 0 _ rfl
      have x1 : wr.cell? ⟨b, o + k * 13 + 1, none⟩ = some (.int .u32 (E k).a) := hc 1 _ rfl
      have x2 : wr.cell? ⟨b, o + k * 13 + 2, none⟩ = some (.int .u16 (E k).p) := hc 2 _ rfl
      have x3 : wr.cell? ⟨b, o + k * 13 + 3, none⟩ = some (.int .u32 (E k).b) := hc 3 _ rfl
      have x4 : wr.cell? ⟨b, o + k * 13 + 4, none⟩ = some (.int .u16 (E k).q) := hc 4 _ rfl
      have x5 : wr.cell? ⟨b, o + k * 13 + 5, none⟩ = some (.int .u8 (E k).r2) := hc 5 _ rfl
      have x6 : wr.cell? ⟨b, o + k * 13 + 6, none⟩ = some (.int .u32 (E k).a2) := hc 6 _ rfl
      have x7 : wr.cell? ⟨b, o + k * 13 + 7, none⟩ = some (.int .u16 (E k).p2) := hc 7 _ rfl
      have x8 : wr.cell? ⟨b, o + k * 13 + 8, none⟩ = some (.int .u32 (E k).b2) := hc 8 _ rfl
      have x9 : wr.cell? ⟨b, o + k * 13 + 9, none⟩ = some (.int .u16 (E k).q2) := hc 9 _ rfl
      have x10 : wr.cell? ⟨b, o + k * 13 + 10, none⟩ = some (.int .i64 (E k).st) := hc 10 _ rfl
      have x11 : wr.cell? ⟨b, o + k * 13 + 11, none⟩ = some (.int .i64 (E k).dl) := hc 11 _ rfl
      have x12 : wr.cell? ⟨b, o + k * 13 + 12, none⟩ = some (.slice (E k).ad (E k).n (E k).c) := hc 12 _ rfl
      clear hc
      have hkk : decide ((k : Int) < (n : Int)) = true := decide_eq_true (by omega)
      go_wp2_with fail
      clear x0 x1 x2 x3 x4 x5 x6 x7 x8 x9 x10 x11 x12
      refine (KD.out k hlt wr Hf.out).mono ?_
      rintro e x1 ⟨o', c', rfl, hnc, hnew, hp⟩
      have Hp := Lib.hid hp
      have Hnew := Lib.hid hnew
      have Hnc := Lib.hid hnc
      clear hp hnew hnc
      go_wp2_with (at_builtin; go_must (refine wp_append1 rfl _ _ 35 rfl w.heap.size 45 entZ 13 Tryd.underlying35 infoREnt rfl (by decide) _ k (flatE F k) rfl ((HO.out.low (Hp.out.alloc _)).row) x1.heap.size (((E k).on o' c').cs) rfl rfl ?_ (cs_one _) (by omega) ?_ ?_))
      · exact heap_alloc_new x1 _
      · exact Nat.le_trans (Fp.size Hf.out) (Fp.size (Hp.out.alloc _))
      intro v' w' hown hgr _ hob
      obtain ⟨H', hst⟩ := HO.out.step (Hp.out.alloc _) (Fp.size Hf.out) o' c' (fun hn0 => by
        obtain ⟨hb, e1, e2, e3⟩ := Hnew.out hn0
        exact ⟨hb, e1, e2, e3.low ((Fp.refl _ _).alloc _), fun e => absurd e (by decide)⟩) hown hgr (by simpa using hob)
      have hf2 : NoW w w' := (Hf.out.trans (Hp.out.alloc _) (fun _ _ h => h)).grown hgr (fun x e => Or.inl (World.ownsRow.lt HO.out.row x e).1)
      have Hst := Lib.hid hst
      have Hf2 := Lib.hid hf2
      clear hst hf2 hown hgr hob HO
      go_wp2_with fail
      go_roundg (n - k)
      case measure => have := Hg.out; omega
      case rel => exact ⟨k + 1, _, H', by omega, by omega, by go_num, Hst.out, Hf2.out⟩
    · obtain rfl : k = n := by omega
      go_wp2_with fail
      go_ret
      exact ⟨_, F, H, rfl, HO.out, Hf.out⟩

set_option maxHeartbeats 8000000 in
set_option maxRecDepth 100000 in
theorem sortE_ok (sl : Option Addr) (n c : Nat) (E : Nat → EntD) (O : Nat → HoldO) (hn : n ≤ 100) (hh : ∀ i, i < n → (E i).n ≤ 100) (R : Value → (Nat → EntD) → (Nat → Nat) → World → World → Prop)
    (w : World) (hE : Ents w sl n E) (hH : ∀ i, i < n → HoldsIn w (E i).ad (E i).n (hv (O i) (E i).n))
    (hS : ∀ W v F H, OwnE w.heap.size W 32 v n E F H O → NoW w W → Calls Tryd.prog 23 #[v, .func (.func 24) #[] #[]] W fun e w' => e = .returned (.tuple #[]) ∧ R v F H W w' ∧ NoW w w') :
    Calls Tryd.prog 7 #[.slice sl n c] w fun e w' => ∃ v F H W, e = .returned v ∧ OwnE w.heap.size W 32 v n E F H O ∧ R v F H W w' ∧ NoW w w' := by
  have HE := Lib.hid hE
  have HHo := Lib.hid hH
  have HS := Lib.hid hS
  have KD := Lib.hid (fun (i : Nat) (hi : i < n) (W : World) (hW : NoW w W) => own_any (E i).r (E i).a (E i).p (E i).b (E i).q (E i).r2 (E i).a2 (E i).p2 (E i).b2 (E i).q2 (E i).st (E i).dl (E i).ad (E i).n (E i).c (hv (O i) (E i).n) (hh i hi) W ((hH i hi).low hW))
  clear hE hH hh hS
  go_enter Tryd.func7, Tryd.ntmps7
  go_wp2_with fail
  go_loopg [3, 8] (n + 1) (fun gg vv iv wx => ∃ (k : Nat) (F : Nat → EntD) (H : Nat → Nat), k ≤ n ∧ gg = n + 1 - k ∧ iv = .int .i64 (k : Int) ∧ OwnE w.heap.size wx 32 vv k E F H O ∧ NoW w wx)
  case atStart => exact ⟨0, E, fun _ => 0, by omega, by omega, rfl, OwnE.nil _ _ _ _ _ _, Fp.refl _ _⟩
  case round =>
    obtain ⟨k, F, H, hk, hg, rfl, hO, hf⟩ := hrel
    have Hg := Lib.hid hg
    have Hf := Lib.hid hf
    have HO := Lib.hid hO
    clear hg hf hO
    by_cases hlt : k < n
    · obtain ⟨b, o, rfl, hc⟩ := (HE.out.low Hf.out).at' k hlt
      have x0 : wr.cell? ⟨b, o + k * 13, none⟩ = some (.int .u8 (E k).r) := hc 0 _ rfl
      have x1 : wr.cell? ⟨b, o + k * 13 + 1, none⟩ = some (.int .u32 (E k).a) := hc 1 _ rfl
      have x2 : wr.cell? ⟨b, o + k * 13 + 2, none⟩ = some (.int .u16 (E k).p) := hc 2 _ rfl
      have x3 : wr.cell? ⟨b, o + k * 13 + 3, none⟩ = some (.int .u32 (E k).b) := hc 3 _ rfl
      have x4 : wr.cell? ⟨b, o + k * 13 + 4, none⟩ = some (.int .u16 (E k).q) := hc 4 _ rfl
      have x5 : wr.cell? ⟨b, o + k * 13 + 5, none⟩ = some (.int .u8 (E k).r2) := hc 5 _ rfl
      have x6 : wr.cell? ⟨b, o + k * 13 + 6, none⟩ = some (.int .u32 (E k).a2) := hc 6 _ rfl
      have x7 : wr.cell? ⟨b, o + k * 13 + 7, none⟩ = some (.int .u16 (E k).p2) := hc 7 _ rfl
      have x8 : wr.cell? ⟨b, o + k * 13 + 8, none⟩ = some (.int .u32 (E k).b2) := hc 8 _ rfl
      have x9 : wr.cell? ⟨b, o + k * 13 + 9, none⟩ = some (.int .u16 (E k).q2) := hc 9 _ rfl
      have x10 : wr.cell? ⟨b, o + k * 13 + 10, none⟩ = some (.int .i64 (E k).st) := hc 10 _ rfl
      have x11 : wr.cell? ⟨b, o + k * 13 + 11, none⟩ = some (.int .i64 (E k).dl) := hc 11 _ rfl
      have x12 : wr.cell? ⟨b, o + k * 13 + 12, none⟩ = some (.slice (E k).ad (E k).n (E k).c) := hc 12 _ rfl
      clear hc
      have hkk : decide ((k : Int) < (n : Int)) = true := decide_eq_true (by omega)
      go_upto_region 5 with fail
      clear x0 x1 x2 x3 x4 x5 x6 x7 x8 x9 x10 x11 x12
      refine wp_gen (fun x0 hW => ?_)
      have hp0 := new_now hW
      have hB := new_blk hW
      clear hW
      have Hp0 := Lib.hid hp0
      obtain ⟨g, hg⟩ : ∃ g, g = wr.heap.size := ⟨_, rfl⟩
      rw [← hg] at hB ⊢
      have B_g := hB
      clear hB hg hp0
      have y0 := cell_at B_g 0 rfl
      have y1 := cell_at B_g 1 rfl
      have y2 := cell_at B_g 2 rfl
      have y3 := cell_at B_g 3 rfl
      have y4 := cell_at B_g 4 rfl
      have y5 := cell_at B_g 5 rfl
      have y6 := cell_at B_g 6 rfl
      have y7 := cell_at B_g 7 rfl
      have y8 := cell_at B_g 8 rfl
      have y9 := cell_at B_g 9 rfl
      have y10 := cell_at B_g 10 rfl
      have y11 := cell_at B_g 11 rfl
      have y12 := cell_at B_g 12 rfl
      go_wp2_with fail
      clear y0 y1 y2 y3 y4 y5 y6 y7 y8 y9 y10 y11 y12 B_g
      refine (KD.out k hlt x0 (Hf.out.trans Hp0.out (fun _ _ h => h))).mono ?_
      rintro e x1 ⟨o', c', rfl, hnew, hp⟩
      have Hp := Lib.hid (Hp0.out.trans hp (fun _ _ h => h))
      have Hs0 := Lib.hid (Fp.size Hp0.out)
      have Hnew := Lib.hid hnew
      clear hp hnew Hp0
      go_wp2_with (at_builtin; go_must (refine wp_append1 rfl _ _ 22 rfl w.heap.size 32 entZ 13 Tryd.underlying22 infoEnt rfl (by decide) _ k (flatE F k) rfl ((HO.out.low (Hp.out.alloc _)).row) x1.heap.size (((E k).on o' c').cs) rfl rfl ?_ (cs_one _) (by omega) ?_ ?_))
      · exact heap_alloc_new x1 _
      · exact Nat.le_trans (Fp.size Hf.out) (Fp.size (Hp.out.alloc _))
      intro v' w' hown hgr _ hob
      obtain ⟨H', hst⟩ := HO.out.step (Hp.out.alloc _) (Fp.size Hf.out) o' c' (fun hn0 => by
        obtain ⟨hb, e1, e2, e3, e4⟩ := Hnew.out hn0
        exact ⟨hb, e1, Nat.le_trans Hs0.out e2, e3.low ((Fp.refl _ _).alloc _), fun _ => e4.low e3.lt ((Fp.refl (fun _ => False) _).alloc _) id⟩) hown hgr (by simpa using hob)
      have hf2 : NoW w w' := (Hf.out.trans (Hp.out.alloc _) (fun _ _ h => h)).grown hgr (fun x e => Or.inl (World.ownsRow.lt HO.out.row x e).1)
      have Hst := Lib.hid hst
      have Hf2 := Lib.hid hf2
      clear hst hf2 hown hgr hob HO
      go_wp2_with fail
      go_roundg (n - k)
      case measure => have := Hg.out; omega
      case rel => exact ⟨k + 1, _, H', by omega, by omega, by go_num, Hst.out, Hf2.out⟩
    · obtain rfl : k = n := by omega
      go_wp2_with fail
      refine (HS.out wr _ F H HO.out Hf.out).mono ?_
      rintro e x1 ⟨rfl, hr, hf1⟩
      have Hr := Lib.hid hr
      have Hf1 := Lib.hid hf1
      clear hr hf1
      go_wp2_with fail
      go_ret
      exact ⟨_, F, H, wr, rfl, HO.out, Hr.out, Hf1.out⟩
end Go.Proofs.YtaiimkcmgiceeaaDoor
