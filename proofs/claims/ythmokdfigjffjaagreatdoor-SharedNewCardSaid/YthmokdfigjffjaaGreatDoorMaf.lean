/- Texts of this proof, merged: Sxk Sxl Sxm Sya. -/
import Derived.Test.YthmokdfigjffjaaGreatDoorMae
import Derived.Deep.AppendSrc
namespace Go.Proofs.YthmokdfigjffjaaGreatDoor
set_option linter.unusedVariables false
set_option linter.unusedSimpArgs false
open Go.RowKit
noncomputable section

/-- Numbers of new blocks: nothing looks at them. -/
abbrev Strm := Nat → Nat
def tl (s : Strm) : Strm := fun n => s (n + 1)
def cns (b : Nat) (s : Strm) : Strm := fun n => Nat.rec b (fun m _ => s m) n
/-- Plans of regions: by function and region. -/
abbrev Plt := Nat → Nat → Option Pl
abbrev KvR := SV → Hp → Strm → Bool
abbrev KcR := Exit → Fr → Hp → Strm → Bool
structure RX where
  call : List Nat → Nat → List SV → Hp → Strm → KvR → Bool
  code : List Nat → Nat → Nat → Code → KcR → Fr → Hp → Strm → Bool
def kvP (ps : List Nat) (j : Nat) : Bool := ps.any (Nat.beq j)
/-- What reads, or reckons, by places that are numbers. -/
def natI : Int → Option Nat
  | .ofNat n => some n
  | .negSucc _ => none
def byteS (s : ByteArray) (j : Nat) : Option UInt8 := s.data.toList[j]?
def boundsR (lo hi : Option Int) (len cap : Nat) : Option (Nat × Nat) :=
  match natI (lo.getD 0), natI (hi.getD len) with
  | some l, some h => bif Nat.ble l h && Nat.ble h cap then some (l, h) else none
  | _, _ => none
/-- What package variables hold. -/
abbrev Gl := Nat → Option (List CV)
def Gd (gl : Gl) (σ : Hs) : Prop := ∀ g cs, gl g = some cs → (∀ (k : Nat) (x : CV), cs[k]? = some x → σ.w0.cell? ⟨g, k, none⟩ = some x.den) ∧ (∀ x ∈ cs, x.ok σ.L) ∧ g < σ.w0.heap.size ∧ ¬ σ.S g ∧ ∀ e ∈ σ.L, e.b ≠ g
theorem Gd.kp {gl : Gl} {kv : Nat → Bool} {σ σ' : Hs} (h : Gd gl σ) (k : KpW (some kv) σ σ') (hx : Ext σ.L σ'.L) : Gd gl σ' := fun g cs hg => by
  obtain ⟨h1, h2, h3, h4, h5⟩ := h g cs hg
  obtain ⟨k1, k2, _, k4⟩ := k
  rw [k1, k2]
  refine ⟨h1, fun x hx' => (h2 x hx').ext hx, h3, h4, fun e he q => ?_⟩
  rcases k4 e he with ⟨f, hf, hb⟩ | hb
  · exact h5 f hf (hb.trans q)
  · omega
def rdR (tb : Tbx) (gl : Gl) (F : Fr) : Op → Option SV
  | .load T x => match tbl tb T, evO F x with
    | some r, some (.e (.c (.v (.pointer (some ⟨g, o, none⟩))))) => (match gl g with
      | some cs => rdS r cs o
      | none => none)
    | _, _ => none
  | .indexAddr T x i => match tbl tb T, evO F x, evO F i with
    | some ⟨.slice e, _, _⟩, some (.e (.c (.s p g o len _))), some (.e (.c (.i _ m))) => (match tbl tb e, natI m with
      | some r, some j => bif Nat.blt j len then some (.e (.c (.p p g (o + j * r.size)))) else none
      | _, _ => none)
    | some ⟨.slice e, _, _⟩, some (.e (.c (.gs p g o _ len _ _))), some (.e (.c (.i _ m))) => (match tbl tb e, natI m with
      | some r, some j => bif Nat.blt j len then some (.e (.c (.p p g (o + j * r.size)))) else none
      | _, _ => none)
    | some ⟨.array n e, _, _⟩, some y, some (.e (.c (.i _ m))) => (match tbl tb e, natI m with
      | some r, some j => bif Nat.blt j n then (match atS y 0 with
        | some _ => atS y (j * r.size)
        | none => none) else none
      | _, _ => none)
    | _, _, _ => none
  | .index T x i => match tbl tb T, evO F x, evO F i with
    | some ⟨.str, _, _⟩, some (.e (.c (.v (.string s)))), some (.e (.c (.i _ m))) => (match natI m with
      | some j => (match byteS s j with
        | some b => some (cI .u8 b.toNat)
        | none => none)
      | none => none)
    | _, _, _ => none
  | .slice T x lo hi none => match tbl tb T, evO F x, optI F lo, optI F hi with
    | some ⟨.str, _, _⟩, some (.e (.c (.v (.string s)))), some l, some h => (match boundsR l h s.size s.size with
      | some (l, h) => some (.e (.c (.v (.string ⟨⟨(s.data.toList.drop l).take (h - l)⟩⟩))))
      | none => none)
    | some ⟨.slice e, _, _⟩, some (.e (.c (.s p g o len cap))), some l, some h => (match tbl tb e, boundsR l h len cap with
      | some r, some (l, h) => bif Nat.blt l cap then some (.e (.c (.s p g (o + l * r.size) (h - l) (cap - l)))) else none
      | _, _ => none)
    | some ⟨.slice e, _, _⟩, some (.e (.c (.gs p g o z len k x))), some l, some h => (match tbl tb e, boundsR l h len k with
      | some r, some (l, h) => bif Nat.beq z r.size && Nat.blt l k then some (.e (.c (.gs p g (o + l * r.size) z (h - l) (k - l) x))) else none
      | _, _ => none)
    | some ⟨.array n e, _, _⟩, some (.e (.c (.p p g o))), some l, some h => (match tbl tb e, boundsR l h n n with
      | some r, some (l, h) => bif Nat.blt l n then some (.e (.c (.s p g (o + l * r.size) (h - l) (n - l)))) else none
      | _, _ => none)
    | _, _, _, _ => none
  | _ => none
theorem extract_eq (s : ByteArray) (l h : Nat) : s.extract l h = ⟨⟨(s.data.toList.drop l).take (h - l)⟩⟩ := by
  apply ByteArray.ext
  apply Array.ext'
  simp
/-- A number laid out. -/
noncomputable def forceN (m : Nat) (k : Nat → Bool) : Bool := Nat.rec (k 0) (fun n _ => k (Nat.succ n)) m
theorem forceN_eq (m : Nat) (k : Nat → Bool) : forceN m k = k m := by cases m <;> rfl
noncomputable def forceI (n : Int) (k : Int → Bool) : Bool := Int.rec (fun m => forceN m fun m => k (Int.ofNat m)) (fun m => forceN m fun m => k (Int.negSucc m)) n
theorem forceI_eq (n : Int) (k : Int → Bool) : forceI n k = k n := by
  cases n with
  | ofNat a => exact forceN_eq a (fun m => k (Int.ofNat m))
  | negSucc a => exact forceN_eq a (fun m => k (Int.negSucc m))
noncomputable def forceL (l : List UInt8) (k : List UInt8 → Bool) : Bool := (List.rec (fun k => k []) (fun b _ ih k => forceN b.toNat fun n => ih fun l => k (UInt8.ofNat n :: l)) l : (List UInt8 → Bool) → Bool) k
theorem forceL_eq : ∀ (l : List UInt8) (k : List UInt8 → Bool), forceL l k = k l
  | [], k => rfl
  | b :: l, k => by
    show forceN b.toNat (fun n => forceL l fun l => k (UInt8.ofNat n :: l)) = _
    rw [forceN_eq, forceL_eq l]
    simp
/-- A value laid out. -/
noncomputable def forceV (v : SV) (k : SV → Bool) : Bool :=
  match v with
  | .e (.c (.i kd n)) => forceI n fun n => k (.e (.c (.i kd n)))
  | .e (.c (.v (.string s))) => forceL s.data.toList fun l => k (.e (.c (.v (.string ⟨⟨l⟩⟩))))
  | v => k v
theorem forceV_eq (v : SV) (k : SV → Bool) : forceV v k = k v := by
  unfold forceV
  split
  · rename_i kd n; exact forceI_eq n fun n => k (.e (.c (.i kd n)))
  · rename_i s; exact forceL_eq s.data.toList fun l => k (.e (.c (.v (.string ⟨⟨l⟩⟩))))
  · rfl
theorem natI_ok {m : Int} {j : Nat} (h : natI m = some j) : m = j := by
  cases m with
  | ofNat n => obtain rfl := Option.some.inj h; rfl
  | negSucc n => cases h
theorem byteS_ok {s : ByteArray} {j : Nat} {b : UInt8} (h : byteS s j = some b) : ∃ hj : j < s.size, s[j] = b := by
  unfold byteS at h
  obtain ⟨h1, h2⟩ := List.getElem?_eq_some_iff.1 h
  have hj : j < s.size := by rw [Array.length_toList] at h1; exact h1
  exact ⟨hj, by rw [← h2]; rfl⟩
theorem boundsR_ok {lo hi : Option Int} {len cap l h : Nat} (hb : boundsR lo hi len cap = some (l, h)) : lo.getD 0 = l ∧ hi.getD len = h ∧ l ≤ h ∧ h ≤ cap := by
  unfold boundsR at hb
  split at hb <;> first | (cases hb; done) | skip
  rename_i l' h' h1 h2
  rcases hc : Nat.ble l' h' && Nat.ble h' cap with _ | _
  · rw [hc] at hb; cases hb
  rw [hc] at hb
  cases hb
  simp only [Bool.and_eq_true, Nat.ble_eq] at hc
  exact ⟨natI_ok h1, natI_ok h2, hc.1, hc.2⟩
theorem rdR_ok {tb : Tbx} {gl : Gl} {F : Fr} {σ : Hs} (hg : Gd gl σ) {K : SV → Prop} {op : Op} {v : SV} (h : rdR tb gl F op = some v) (hk : K v) : ∃ p, rdN tb F σ K op = some p ∧ p := by
  unfold rdR at h
  split at h
  · split at h <;> first | (cases h; done) | skip
    rename_i r g o h1 h2
    split at h <;> first | (cases h; done) | skip
    rename_i cs hcs
    obtain ⟨g1, g2, g3, g4, g5⟩ := hg g cs hcs
    unfold rdS at h
    rcases ha : r.d.agg with _ | _
    · rw [ha] at h
      rcases hsu : r.d.sure with _ | _
      · rw [hsu] at h; cases h
      rw [hsu] at h
      simp only [cond_false, cond_true] at h
      rcases hx : cs[o]? with _ | x
      · rw [hx] at h; cases h
      rw [hx] at h
      obtain rfl := Option.some.inj h
      refine ⟨LdN σ g o 1 fun cs => ∃ x, cs = [x] ∧ K (.e (.c x)), by simp only [rdN, h1, h2, ha, hsu, cond_false, cond_true], ⟨[x], rfl, fun k y hy => ?_, g3, g4, g5, fun y hy => ?_, x, rfl, hk⟩⟩
      · cases k with
        | zero => obtain rfl : x = y := by simpa using hy
                  exact g1 o x hx
        | succ k => simp at hy
      · obtain rfl := List.mem_singleton.1 hy
        exact g2 _ (List.mem_of_getElem? hx)
    · rw [ha] at h
      simp only [cond_true] at h
      rcases hx : takeN r.size (cs.drop o) with _ | l
      · rw [hx] at h; cases h
      rw [hx] at h
      obtain rfl := Option.some.inj h
      obtain ⟨t1, t2⟩ := takeN_ok hx
      refine ⟨LdN σ g o r.size fun cs => K (.e (.a cs)), by simp only [rdN, h1, h2, ha, cond_true], ⟨l, t2, fun k y hy => ?_, g3, g4, g5, fun y hy => ?_, hk⟩⟩
      · have hkl : k < r.size := by rw [← t2]; exact (List.getElem?_eq_some_iff.1 hy).1
        rw [t1, List.getElem?_take_of_lt hkl, List.getElem?_drop] at hy
        exact g1 _ y hy
      · rw [t1] at hy; exact g2 y (List.mem_of_mem_drop (List.mem_of_mem_take hy))
  · split at h
    · rename_i e sz z p g o len cap k m h1 h2 h3
      split at h <;> first | (cases h; done) | skip
      rename_i r j hr hj
      rcases hb : Nat.blt j len with _ | _
      · rw [hb] at h; cases h
      rw [hb] at h
      obtain rfl := Option.some.inj h
      exact ⟨IdxN m len fun j => K (.e (.c (.p p g (o + j * r.size)))), by simp only [rdN, h1, h2, h3, hr], ⟨j, natI_ok hj, by simpa [Nat.blt_eq] using hb, hk⟩⟩
    · rename_i e sz z p g o zz len kk xx k m h1 h2 h3
      split at h <;> first | (cases h; done) | skip
      rename_i r j hr hj
      rcases hb : Nat.blt j len with _ | _
      · rw [hb] at h; cases h
      rw [hb] at h
      obtain rfl := Option.some.inj h
      exact ⟨IdxN m len fun j => K (.e (.c (.p p g (o + j * r.size)))), by simp only [rdN, h1, h2, h3, hr], ⟨j, natI_ok hj, by simpa [Nat.blt_eq] using hb, hk⟩⟩
    · rename_i n e sz z y k m h1 h2 h3
      split at h <;> first | (cases h; done) | skip
      rename_i r j hr hj
      rcases hb : Nat.blt j n with _ | _
      · rw [hb] at h; cases h
      rw [hb] at h
      simp only [cond_true] at h
      split at h <;> first | (cases h; done) | skip
      rename_i v0 h0
      refine ⟨IdxN m n fun j => ∃ v, atS y (j * r.size) = some v ∧ K v, by simp only [rdN, h1, h2, h3, hr, h0], ⟨j, natI_ok hj, by simpa [Nat.blt_eq] using hb, v, h, hk⟩⟩
    · cases h
  · split at h <;> first | (cases h; done) | skip
    rename_i sz z s k m h1 h2 h3
    split at h <;> first | (cases h; done) | skip
    rename_i j hj
    split at h <;> first | (cases h; done) | skip
    rename_i b hb
    obtain rfl := Option.some.inj h
    obtain ⟨q1, q2⟩ := byteS_ok hb
    exact ⟨ByteN s m fun b => K (cI .u8 b.toNat), by simp only [rdN, h1, h2, h3], ⟨j, natI_ok hj, q1, by rw [q2]; exact hk⟩⟩
  · split at h
    · rename_i sz z s l h' h1 h2 h3 h4
      split at h <;> first | (cases h; done) | skip
      rename_i l2 h2' hb
      obtain rfl := Option.some.inj h
      obtain ⟨q1, q2, q3, q4⟩ := boundsR_ok hb
      exact ⟨CutN l h' s.size s.size fun l h => K (.e (.c (.v (.string (s.extract l h))))), by simp only [rdN, h1, h2, h3, h4], ⟨l2, h2', q1, q2, q3, q4, by rw [extract_eq]; exact hk⟩⟩
    · rename_i e sz z p g o len cap l h' h1 h2 h3 h4
      split at h <;> first | (cases h; done) | skip
      rename_i r l2 h2' hr hb
      rcases hc : Nat.blt l2 cap with _ | _
      · rw [hc] at h; cases h
      rw [hc] at h
      obtain rfl := Option.some.inj h
      obtain ⟨q1, q2, q3, q4⟩ := boundsR_ok hb
      exact ⟨CutN l h' len cap fun l h => ∀ o', (l < cap → o' = o + l * r.size) → K (.e (.c (.s p g o' (h - l) (cap - l)))), by simp only [rdN, h1, h2, h3, h4, hr], ⟨l2, h2', q1, q2, q3, q4, fun o' ho => by rw [ho (by simpa [Nat.blt_eq] using hc)]; exact hk⟩⟩
    · rename_i e sz z p g o zz len kk xx l h' h1 h2 h3 h4
      split at h <;> first | (cases h; done) | skip
      rename_i r l2 h2' hr hb
      rcases hc : Nat.beq zz r.size && Nat.blt l2 kk with _ | _
      · rw [hc] at h; cases h
      rw [hc] at h
      obtain rfl := Option.some.inj h
      simp only [Bool.and_eq_true] at hc
      obtain ⟨q1, q2, q3, q4⟩ := boundsR_ok hb
      exact ⟨CutN l h' len kk fun l h => ∀ o', (l < kk → o' = o + l * r.size) → K (.e (.c (.gs p g o' zz (h - l) (kk - l) xx))), by simp only [rdN, h1, h2, h3, h4, hr, hc.1, cond_true], ⟨l2, h2', q1, q2, q3, q4, fun o' ho => by rw [ho (by simpa [Nat.blt_eq] using hc.2)]; exact hk⟩⟩
    · rename_i n e sz z p g o l h' h1 h2 h3 h4
      split at h <;> first | (cases h; done) | skip
      rename_i r l2 h2' hr hb
      rcases hc : Nat.blt l2 n with _ | _
      · rw [hc] at h; cases h
      rw [hc] at h
      obtain rfl := Option.some.inj h
      obtain ⟨q1, q2, q3, q4⟩ := boundsR_ok hb
      exact ⟨CutN l h' n n fun l h => ∀ o', (l < n → o' = o + l * r.size) → K (.e (.c (.s p g o' (h - l) (n - l)))), by simp only [rdN, h1, h2, h3, h4, hr], ⟨l2, h2', q1, q2, q3, q4, fun o' ho => by rw [ho (by simpa [Nat.blt_eq] using hc)]; exact hk⟩⟩
    · cases h
  · cases h
/-- The empty part at the end of a row: where it stands is not told. -/
def rdQ (tb : Tbx) (F : Fr) : Op → Option (Nat → SV)
  | .slice T x lo hi none => match tbl tb T, evO F x, optI F lo, optI F hi with
    | some ⟨.slice e, _, _⟩, some (.e (.c (.gs p g _ z len k x))), some l, some h => (match tbl tb e, boundsR l h len k with
      | some r, some (l, h) => bif Nat.beq z r.size then some fun o' => .e (.c (.gs p g o' z (h - l) (k - l) x)) else none
      | _, _ => none)
    | some ⟨.slice e, _, _⟩, some (.e (.c (.s p g _ len cap))), some l, some h => (match tbl tb e, boundsR l h len cap with
      | some _, some (l, h) => some fun o' => .e (.c (.s p g o' (h - l) (cap - l)))
      | _, _ => none)
    | _, _, _, _ => none
  | _ => none
theorem rdQ_ok {tb : Tbx} {F : Fr} {σ : Hs} {K : SV → Prop} {op : Op} {f : Nat → SV} (h : rdQ tb F op = some f) (hk : ∀ o, K (f o)) : ∃ p, rdN tb F σ K op = some p ∧ p := by
  unfold rdQ at h
  split at h <;> first | (cases h; done) | skip
  split at h <;> first | (cases h; done) | skip
  · rename_i e sz z p g o zz len kk xx l h' h1 h2 h3 h4
    split at h <;> first | (cases h; done) | skip
    rename_i r l2 h2' hr hb
    rcases hc : Nat.beq zz r.size with _ | _
    · rw [hc] at h; cases h
    rw [hc] at h
    obtain rfl := Option.some.inj h
    obtain ⟨q1, q2, q3, q4⟩ := boundsR_ok hb
    exact ⟨CutN l h' len kk fun l h => ∀ o', (l < kk → o' = o + l * r.size) → K (.e (.c (.gs p g o' zz (h - l) (kk - l) xx))), by simp only [rdN, h1, h2, h3, h4, hr, hc, cond_true], ⟨l2, h2', q1, q2, q3, q4, fun o' _ => hk o'⟩⟩
  · rename_i e sz z p g o len cap l h' h1 h2 h3 h4
    split at h <;> first | (cases h; done) | skip
    rename_i r l2 h2' hr hb
    obtain rfl := Option.some.inj h
    obtain ⟨q1, q2, q3, q4⟩ := boundsR_ok hb
    exact ⟨CutN l h' len cap fun l h => ∀ o', (l < cap → o' = o + l * r.size) → K (.e (.c (.s p g o' (h - l) (cap - l)))), by simp only [rdN, h1, h2, h3, h4, hr], ⟨l2, h2', q1, q2, q3, q4, fun o' _ => hk o'⟩⟩
end
end Go.Proofs.YthmokdfigjffjaaGreatDoor

namespace Go.Proofs.YthmokdfigjffjaaGreatDoor
set_option linter.unusedVariables false
set_option linter.unusedSimpArgs false
open Go.RowKit
noncomputable section

def gdR (all : List Oper) (F : Fr) (o : Oper) (yes no : Fr → Bool) : Bool :=
  match o.guard with
  | none => yes F
  | some (j, want) => match all[j]? with
    | some oj => (match oj.dst with
      | some d => (match look F d with
        | some (.e (.c .tt)) => bif want then yes F else no F
        | some (.e (.c .ff)) => bif want then no F else yes F
        | some (.e (.c (.b t))) => bif want then (bif t then yes ((d, .e (.c .tt)) :: F) else no ((d, .e (.c .ff)) :: F)) else (bif t then no ((d, .e (.c .tt)) :: F) else yes ((d, .e (.c .ff)) :: F))
        | some (.t []) => no F
        | _ => false)
      | none => no F)
    | none => no F
theorem br_of {X : Type} {t : Bool} {A B : X → Bool} (h : ∀ s, (bif t then A s else B s) = true) : Br t (∀ s, A s = true) (∀ s, B s = true) :=
  ⟨fun q s => by have := h s; rw [q] at this; exact this, fun q s => by have := h s; rw [q] at this; exact this⟩
theorem gdR_ok {X : Type} {all : List Oper} {F : Fr} {o : Oper} {yes no : X → Fr → Bool} (h : ∀ s, gdR all F o (yes s) (no s) = true) (hx : Nonempty X) : gdS all F o (fun F => ∀ s, yes s F = true) (fun F => ∀ s, no s F = true) := by
  obtain ⟨s0⟩ := hx
  unfold gdR at h
  unfold gdS
  split
  · rename_i hg; simp only [hg] at h; exact h
  · rename_i j want hg
    simp only [hg] at h
    split
    · rename_i oj hj
      simp only [hj] at h
      split
      · rename_i d hd
        simp only [hd] at h
        split
        · rename_i hl; simp only [hl] at h
          cases want <;> exact h
        · rename_i hl; simp only [hl] at h
          cases want <;> exact h
        · rename_i t hl; simp only [hl] at h
          cases want
          · exact br_of h
          · exact br_of h
        · rename_i hl; simp only [hl] at h; exact h
        · rename_i h1 h2 h3 h4
          have := h s0
          split at this <;> first
            | (rename_i q; exact absurd q h1)
            | (rename_i q; exact absurd q h2)
            | (rename_i q; exact absurd q (h3 _))
            | (rename_i q; exact absurd q h4)
            | cases this
      · rename_i hd; simp only [hd] at h; exact h
    · rename_i hj; simp only [hj] at h; exact h
/-- Operations that may be added. -/
def rawK : Op → Bool
  | .call _ => true
  | .lookup .. => true
  | .mapUpdate .. => true
  | .makeMap .. => true
  | .makeSlice .. => true
  | .makeInterface .. => true
  | .binOp .. => true
  | .unOp .. => true
  | .convert .. => true
  | .slice _ _ _ _ (some _) => true
  | _ => false
/-- Those that may be added where an order is drawn. -/
def rawT : Op → Bool
  | .call _ => true
  | .lookup .. => true
  | .makeInterface .. => true
  | .binOp .. => true
  | .unOp .. => true
  | .convert .. => true
  | _ => false
section
variable (tb : Tbx) (fo : Fo) (gl : Gl) (raw : List Nat → Nz → Oper → Fr → Hp → Strm → KvR → Bool) (rt : Nz → Oper → Fr → Hp → Option SV) (call : List Nat → Nat → List SV → Hp → Strm → KvR → Bool) (ps : List Nat) (n : Nz)
noncomputable def opR (o : Oper) (F : Fr) (L : Hp) (s : Strm) (K : KvR) : Bool :=
  match effS tb F L o.op with
  | .val v => forceV v fun v => K v L s
  | .upd j L' => bif kvP ps j then false else K undefV L' s
  | .new cs T => K (.e (.c (.p L.length (s 0) 0))) (L ++ [⟨s 0, 0, cs, .obj T⟩]) (tl s)
  | .newS cs T m => K (.e (.c (.s L.length (s 0) 0 m m))) (L ++ [⟨s 0, 0, cs, .obj T⟩]) (tl s)
  | .no => match rdR tb gl F o.op with
    | some v => forceV v fun v => K v L s
    | none => match rdQ tb F o.op with
    | some f => K (f (s 0)) L (tl s)
    | none => match o.op with
      | .call ⟨.value f, az, _⟩ => (match calleeS F f, evL F az.toList with
        | some (g, first, cap), some l => bif fnS fo g then call ps g (first ++ l ++ cap) L s K else raw ps n o F L s K
        | _, _ => raw ps n o F L s K)
      | .pick c x y => (match evO F c, evO F x, evO F y with
        | some (.e (.c .tt)), some x, _ => K x L s
        | some (.e (.c .ff)), _, some y => K y L s
        | some (.e (.c (.b t))), some x, some y => bif t then K x L s else K y L s
        | _, _, _ => false)
      | op => bif rawK op then raw ps n o F L s K else false
noncomputable def takeR (o : Oper) (F : Fr) (L : Hp) (K : SV → Bool) : Bool :=
  match effS tb F L o.op with
  | .val v => bif ldIn (kvP ps) F o.op then forceV v K else false
  | .no => (match rdR tb gl F o.op with
    | some v => forceV v K
    | none => bif rawT o.op then (match rt n o F L with
      | some v => K v
      | none => false) else false)
  | _ => false
def stepR (all : List Oper) (i : Nat) (F : Fr) (yes no : Oper → Fr → Bool) : Bool :=
  match all[i]? with
  | some o => bif inB n.n o.dst then gdR all F o (yes o) (no o) else false
  | none => false
/-- A frame without a slot. -/
noncomputable def delF (d : Nat) (F : Fr) : Fr := match look F d with
  | none => F
  | some _ => List.rec [] (fun x _ ih => bif Nat.beq x.1 d then ih else x :: ih) F
/-- Makes an operation a new variable that holds nothing yet? Its slot. -/
def zO (tb : Tbx) (n : Nat) (all : List Oper) (i : Nat) : Option Nat :=
  match all[i]? with
  | some ⟨some d, .alloc T, _, _, _, none⟩ => (match tbl tb T with
    | some r => bif Nat.blt d n && Nat.beq r.zero.length r.size then some d else none
    | none => none)
  | _ => none
noncomputable def planR (po : List Nat) (all : List Oper) (Q : Fr → Hp → Strm → Bool) : Pl → Fr → Hp → Strm → Bool
  | .nil, F, L, s => Q F L s
  | .t i r, F, L, s => stepR n all i F (fun o F => takeR tb gl rt ps n o F L (fun v => planR po all Q r (putF F o.dst v) L s)) (fun o F => planR po all Q r (putF F o.dst undefV) L s)
  | .x i r, F, L, s => stepR n all i F (fun o F => opR tb fo gl raw call ps n o F L s fun v L' s' => planR po all Q r (putF F o.dst v) L' s') (fun o F => planR po all Q r (putF F o.dst undefV) L s)
  | .l i, F, L, s => stepR n all i F (fun o F => opR tb fo gl raw call po n o F L s fun v L' s' => Q (putF F o.dst v) L' s') (fun o F => Q (putF F o.dst undefV) L s)
  | .z i r, F, L, s => (match zO tb n.n all i with
    | some d => planR po all Q r (delF d F) L s
    | none => false)
  | .b i r t, F, L, s => stepR n all i F (fun o F => opR tb fo gl raw call ps n o F L s fun v L' s' => planR po all Q r (putF F o.dst v) L' s') (fun o F => planR po all Q r (putF F o.dst undefV) L s) && planR po all Q t F L s
/-- The blocks that a region's readings look at. -/
def preR (all : List Oper) (L : Hp) : Pl → Fr → List Nat → List Nat
  | .t i r, F, acc => (match all[i]? with
    | some o =>
      let acc' := (match o.op with
        | .load _ x => (match evO F x with
          | some (.e (.c (.p j _ _))) => bif Nat.blt j L.length then j :: acc else acc
          | some (.e (.c (.q j _ _ _))) => bif Nat.blt j L.length then j :: acc else acc
          | _ => acc)
        | _ => acc)
      let v := (match effS tb F L o.op with
        | .val v => v
        | .no => (match rdR tb gl F o.op with
          | some v => v
          | none => (rt n o F L).getD undefV)
        | _ => undefV)
      preR all L r (putF F o.dst v) acc'
    | none => acc)
  | .x i r, F, acc => (match all[i]? with
    | some o => preR all L r (putF F o.dst undefV) acc
    | none => acc)
  | .z _ r, F, acc => preR all L r F acc
  | _, _, acc => acc
end
section
variable (P : Program) (tb : Tbx) (fo : Fo) (pt : Plt) (gl : Gl) (hk : Nat → Option (List Nat → List SV → Hp → Strm → KvR → Bool)) (raw : List Nat → Nz → Oper → Fr → Hp → Strm → KvR → Bool) (rt : Nz → Oper → Fr → Hp → Option SV)
/-- A frame without what is behind newer values. -/
def ddF : Fr → Nat → Fr
  | [], _ => []
  | (t, x) :: r, m => bif Nat.testBit m t then ddF r m else (t, x) :: ddF r (Nat.lor m (Nat.shiftLeft 1 t))
/-- The same, all laid out. -/
noncomputable def ddM (F : Fr) : Nat → (Fr → Bool) → Bool :=
  List.rec (fun _ k => k []) (fun x _ ih m k => bif Nat.beq (Nat.land (Nat.shiftRight m x.1) 1) 1 then ih m k else ih (Nat.lor m (Nat.shiftLeft 1 x.1)) (fun l => k (x :: l))) F
theorem bit_eq (m t : Nat) : Nat.beq (Nat.land (Nat.shiftRight m t) 1) 1 = Nat.testBit m t := by
  rw [show Nat.testBit m t = (1 &&& (m >>> t) != 0) from rfl, Nat.and_comm]
  show Nat.beq ((m >>> t) &&& 1) 1 = ((m >>> t) &&& 1 != 0)
  rcases Nat.mod_two_eq_zero_or_one (m >>> t) with h | h <;> rw [Nat.and_one_is_mod, h] <;> rfl
theorem ddM_eq : ∀ (F : Fr) (m : Nat) (k : Fr → Bool), ddM F m k = k (ddF F m)
  | [], m, k => rfl
  | (t, x) :: r, m, k => by
    have h : ddM ((t, x) :: r) m k = bif Nat.beq (Nat.land (Nat.shiftRight m t) 1) 1 then ddM r m k else ddM r (Nat.lor m (Nat.shiftLeft 1 t)) (fun l => k ((t, x) :: l)) := rfl
    rw [h, bit_eq]
    simp only [ddF]
    rcases Nat.testBit m t with _ | _
    · simp only [cond_false]; exact ddM_eq r _ _
    · simp only [cond_true]; exact ddM_eq r _ _
theorem look_ddF : ∀ (F : Fr) (m t : Nat) (x : SV), look (ddF F m) t = some x → Nat.testBit m t = false ∧ look F t = some x
  | [], m, t, x, h => by simp [ddF, look_nil, look_cons] at h
  | (u, y) :: r, m, t, x, h => by
    simp only [ddF] at h
    rcases hb : Nat.testBit m u with _ | _
    · rw [hb] at h
      simp only [cond_false, look_cons] at h ⊢
      rcases hu : Nat.beq u t with _ | _
      · rw [hu] at h
        obtain ⟨h1, h2⟩ := look_ddF r _ t x h
        have h3 : (Nat.testBit m t || Nat.testBit (Nat.shiftLeft 1 u) t) = false := by rw [← Nat.testBit_or]; exact h1
        simp only [Bool.or_eq_false_iff] at h3
        exact ⟨h3.1, h2⟩
      · rw [hu] at h
        obtain rfl : u = t := by simpa using hu
        exact ⟨hb, h⟩
    · rw [hb] at h
      obtain ⟨h1, h2⟩ := look_ddF r m t x h
      refine ⟨h1, ?_⟩
      simp only [look_cons]
      rcases hu : Nat.beq u t with _ | _
      · exact h2
      · obtain rfl : u = t := by simpa using hu
        rw [hb] at h1; cases h1
theorem FrOk.dd {n : Nz} {a : Act} {L : Hp} {F : Fr} (h : FrOk n a L F) : FrOk n a L (ddF F 0) := ⟨h.size, h.defers, fun t x hx => h.at_ t x (look_ddF F 0 t x hx).2⟩
end
end
end Go.Proofs.YthmokdfigjffjaaGreatDoor

namespace Go.Proofs.YthmokdfigjffjaaGreatDoor
set_option linter.unusedVariables false
set_option linter.unusedSimpArgs false
open Go.RowKit
noncomputable section

theorem upd_is {tb : Tbx} {F : Fr} {o : Op} {L L' : Hp} {i : Nat} (hq : effS tb F L o = .upd i L') : ∃ e cs, L[i]? = some e ∧ cs.length = e.cs.length ∧ L' = L.set i { e with cs := cs } := by
  unfold effS at hq
  have hst : ∀ r j o y, stS r L j o y = .upd i L' → ∃ e cs, L[i]? = some e ∧ cs.length = e.cs.length ∧ L' = L.set i { e with cs := cs } := fun r j o y hs => by
    unfold stS at hs
    split at hs
    · rename_i e vs he _
      rcases hb : Nat.beq vs.length r.size && e.T.isC with _ | _
      · rw [hb] at hs; cases hs
      · rw [hb] at hs
        simp only [cond_true] at hs
        split at hs
        · rename_i cs hset
          cases hs; exact ⟨_, _, he, (setN_ok hset).2.1, rfl⟩
        · cases hs
    · cases hs
  have hld : ∀ r j o, ldS r L j o ≠ .upd i L' := fun r j o hs => by
    rcases ldS_cases r L j o with q | ⟨v, q⟩ <;> rw [q] at hs <;> cases hs
  split at hq
  · split at hq <;> first | exact absurd hq (hld _ _ _) | cases hq
  · split at hq <;> first | exact hst _ _ _ _ hq | cases hq
  · split at hq
    · rename_i r _
      rcases hzl : Nat.beq r.zero.length r.size with _ | _ <;> rw [hzl] at hq <;> cases hq
    · cases hq
  · split at hq
    · split at hq <;> cases hq
    · cases hq
  · split at hq <;> cases hq
  · exact absurd hq bsS_ne
  · split at hq <;> cases hq
  · split at hq <;> cases hq
theorem kp_upd {kv : Nat → Bool} {σ : Hs} {i : Nat} {e : Blk} {cs : List CV} (he : σ.L[i]? = some e) (hk : kv i = false) : KpW (some kv) σ ⟨σ.L.set i { e with cs := cs }, σ.S, σ.w0⟩ := by
  refine ⟨rfl, rfl, fun j f hj hf => ?_, fun f hf => ?_⟩
  · have : i ≠ j := fun q => by subst q; rw [hk] at hj; cases hj
    rw [List.getElem?_set_ne this]; exact hf
  · obtain ⟨j, hj⟩ := List.mem_iff_getElem?.1 hf
    by_cases hij : i = j
    · subst hij
      have hlt := (List.getElem?_eq_some_iff.1 he).1
      simp [hlt] at hj
      exact Or.inl ⟨e, List.mem_of_getElem? he, by rw [← hj]⟩
    · rw [List.getElem?_set_ne hij] at hj
      exact Or.inl ⟨f, List.mem_of_getElem? hj, rfl⟩
theorem kp_new {kv : Nat → Bool} {σ : Hs} {e : Blk} (hb : σ.w0.heap.size ≤ e.b) : KpW (some kv) σ ⟨σ.L ++ [e], σ.S, σ.w0⟩ := by
  refine ⟨rfl, rfl, fun j f hj hf => by rw [List.getElem?_append_left (List.getElem?_eq_some_iff.1 hf).1]; exact hf, fun f hf => ?_⟩
  rcases List.mem_append.1 hf with hf | hf
  · exact Or.inl ⟨f, hf, rfl⟩
  · obtain rfl := List.mem_singleton.1 hf
    exact Or.inr hb
theorem kp_sub {kv kv' : Nat → Bool} {σ σ' : Hs} (h : KpW (some kv) σ σ') (hs : ∀ j, kv' j = true → kv j = true) : KpW (some kv') σ σ' :=
  ⟨h.1, h.2.1, fun j e hj => h.2.2.1 j e (hs j hj), h.2.2.2⟩
/-- What holds behind a piece: it kept some blocks, and the rest comes out. -/
def Ks (ps : List Nat) (σ : Hs) (K : KvR) (v : SV) (σ' : Hs) : Prop := KpW (some (kvP ps)) σ σ' ∧ Ext σ.L σ'.L ∧ ∀ s, K v σ'.L s = true
/-- A call is met. -/
def CallOk (P : Program) (gl : Gl) (call : List Nat → Nat → List SV → Hp → Strm → KvR → Bool) : Prop :=
  ∀ ps g az (σ : Hs) (K : KvR), Gd gl σ → (∀ s, call ps g az σ.L s K = true) → CallN P g az (some (kvP ps)) σ (Ks ps σ K)
def RawOk (P : Program) (gl : Gl) (raw : List Nat → Nz → Oper → Fr → Hp → Strm → KvR → Bool) : Prop :=
  ∀ ps n o F (σ : Hs) (K : KvR), Gd gl σ → (∀ s, raw ps n o F σ.L s K = true) → RawN P n o F (some (kvP ps)) σ (Ks ps σ K)
def RtOk (P : Program) (rt : Nz → Oper → Fr → Hp → Option SV) : Prop :=
  ∀ n o F (σ σ0 : Hs) (kv : Nat → Bool) (K : SV → Prop) v, rt n o F σ.L = some v → K v → RawT P n kv σ0 o F σ K
theorem Pst.wk {kv : Nat → Bool} {σ σ' : Hs} {K : SV → Hs → Prop} {v : SV} {w' : World} (h : Pst (some kv) σ K v σ' w') (W : Wk) (hW : W = none ∨ W = some kv) : Pst W σ K v σ' w' := by
  rcases hW with rfl | rfl
  · exact ⟨h.ok, h.ext, h.st, trivial, h.k⟩
  · exact h
theorem Pst.map {W : Wk} {σ σ' : Hs} {K K' : SV → Hs → Prop} {v : SV} {w' : World} (h : Pst W σ K v σ' w') (hK : ∀ v σ', K v σ' → K' v σ') : Pst W σ K' v σ' w' := ⟨h.ok, h.ext, h.st, h.kp, hK _ _ h.k⟩
section
variable {P : Program} {tb : Tbx} {fo : Fo} {gl : Gl} {raw : List Nat → Nz → Oper → Fr → Hp → Strm → KvR → Bool} {rt : Nz → Oper → Fr → Hp → Option SV} {call : List Nat → Nat → List SV → Hp → Strm → KvR → Bool} {ps : List Nat} {n : Nz} {F : Fr} {σ : Hs}
theorem opR_ok (hc : CallOk P gl call) (hr : RawOk P gl raw) (hgd : Gd gl σ) {W : Wk} (hW : W = none ∨ W = some (kvP ps)) {o : Oper} {K : KvR} (h : ∀ s, opR tb fo gl raw call ps n o F σ.L s K = true) {K' : SV → Hs → Prop} (hK : ∀ v σ', Ks ps σ K v σ' → K' v σ') : opS P tb fo n o F W σ K' := by
  unfold opR at h
  unfold opS
  split
  · rename_i v hq; simp only [hq, forceV_eq] at h
    exact hK _ _ ⟨KpW.refl _ _, Ext.refl _, h⟩
  · rename_i j L' hq; simp only [hq] at h
    have hk : kvP ps j = false := by
      rcases hk : kvP ps j with _ | _
      · rfl
      · have := h fun _ => 0
        rw [hk] at this; cases this
    simp only [hk, cond_false] at h
    obtain ⟨e, cs, he, hcl, rfl⟩ := upd_is hq
    have hu : okU W j = true := by rcases hW with rfl | rfl <;> simp [okU, hk]
    rw [hu]
    exact hK _ _ ⟨kp_upd he hk, Ext.set he hcl, h⟩
  · rename_i cs T hq; simp only [hq] at h
    exact fun b hb => hK _ _ ⟨kp_new hb, Ext.push _ _, fun s => h (cns b s)⟩
  · rename_i cs T m hq; simp only [hq] at h
    exact fun b hb => hK _ _ ⟨kp_new hb, Ext.push _ _, fun s => h (cns b s)⟩
  · rename_i hq; simp only [hq] at h
    rcases hrd : rdR tb gl F o.op with _ | v
    · simp only [hrd] at h
      rcases hrq : rdQ tb F o.op with _ | f
      case some =>
        simp only [hrq] at h
        obtain ⟨p, hp, hpp⟩ := rdQ_ok (σ := σ) (K := fun v => K' v σ) hrq (fun o' => hK _ _ ⟨KpW.refl _ _, Ext.refl _, fun s => h (cns o' s)⟩)
        simp only [hp]
        exact hpp
      simp only [hrq] at h
      clear hrq
      obtain ⟨dst, op, ty, pos, after, gu⟩ := o
      simp only at h hq hrd ⊢
      have raws : ∀ (op : Op), rawK op = true → (∀ s, raw ps n ⟨dst, op, ty, pos, after, gu⟩ F σ.L s K = true) → RawN P n ⟨dst, op, ty, pos, after, gu⟩ F W σ K' := fun op _ h => ⟨fun a w hF hS => Oper.wp_up ((hr ps n _ F σ K hgd h).out a w hF hS) fun a' w' ⟨v, σ', h1, h2⟩ => ⟨v, σ', h1, (h2.wk W hW).map hK⟩⟩
      split at h
      · rename_i f az ts
        show callS P fo n ⟨dst, .call ⟨.value f, az, ts⟩, ty, pos, after, gu⟩ F W σ K'
        unfold callS
        simp only
        split
        · rename_i g first cap l hg hl
          simp only [hg, hl] at h
          rcases hf : fnS fo g with _ | _
          · simp only [hf, cond_false] at h ⊢
            exact raws _ rfl h
          · simp only [hf, cond_true] at h ⊢
            exact ⟨fun w hS ho => ((hc ps g _ σ K hgd h).out w hS ho).mono fun e w' ⟨v, σ', h1, h2⟩ => ⟨v, σ', h1, (h2.wk W hW).map hK⟩⟩
        · rename_i hne
          refine raws _ rfl ?_
          split at h
          · rename_i g first cap l hg hl
            exact absurd hl (hne _ _ _ _ hg)
          · exact h
      · rename_i c x y
        show callS P fo n ⟨dst, .pick c x y, ty, pos, after, gu⟩ F W σ K'
        unfold callS
        simp only
        split at h
        · rename_i u h1 h2
          simp only [h1, h2]
          exact hK _ _ ⟨KpW.refl _ _, Ext.refl _, h⟩
        · rename_i u h1 h2
          simp only [h1, h2]
          cases evO F x <;> exact hK _ _ ⟨KpW.refl _ _, Ext.refl _, h⟩
        · rename_i t u v h1 h2 h3
          simp only [h1, h2, h3]
          exact ⟨fun q => hK _ _ ⟨KpW.refl _ _, Ext.refl _, fun s => by have := h s; rw [q] at this; exact this⟩, fun q => hK _ _ ⟨KpW.refl _ _, Ext.refl _, fun s => by have := h s; rw [q] at this; exact this⟩⟩
        · exact absurd (h fun _ => 0) (by simp)
      · rename_i hv hp
        rcases hk : rawK op with _ | _
        · have := h fun _ => 0
          rw [hk] at this; cases this
        simp only [hk, cond_true] at h
        cases op with
        | call c =>
          obtain ⟨cal, az, ts⟩ := c
          cases cal with
          | value f => exact absurd rfl (hv f az ts)
          | _ => exact raws _ rfl h
        | slice x1 x2 x3 x4 mx => cases mx with
          | none => cases hk
          | some m => exact raws _ rfl h
        | _ => first | (cases hk; done) | exact raws _ rfl h
    · simp only [hrd, forceV_eq] at h
      obtain ⟨p, hp, hpp⟩ := rdR_ok hgd (K := fun v => K' v σ) hrd (hK _ _ ⟨KpW.refl _ _, Ext.refl _, h⟩)
      simp only [hp]
      exact hpp
theorem gdS_mono {all : List Oper} {F : Fr} {o : Oper} {yes no yes' no' : Fr → Prop} (h : gdS all F o yes no) (hy : ∀ F, yes F → yes' F) (hn : ∀ F, no F → no' F) : gdS all F o yes' no' := by
  unfold gdS at h ⊢
  split at h
  · exact hy _ h
  · rename_i j want hg
    split at h
    · split at h
      · split at h
        · cases want
          · exact hn _ h
          · exact hy _ h
        · cases want
          · exact hy _ h
          · exact hn _ h
        · cases want
          · exact ⟨fun q => hn _ (h.t q), fun q => hy _ (h.f q)⟩
          · exact ⟨fun q => hy _ (h.t q), fun q => hn _ (h.f q)⟩
        · exact hn _ h
        · exact h.elim
      · exact hn _ h
    · exact hn _ h
theorem rdN_raw {op : Op} (h : rawT op = true) {K : SV → Prop} : rdN tb F σ K op = none := by
  cases op <;> first | (cases h; done) | rfl
theorem takeR_ok (hrt : RtOk P rt) (hgd : Gd gl σ) {o : Oper} {K : Strm → SV → Bool} (h : ∀ s, takeR tb gl rt ps n o F σ.L (K s) = true) {σ0 : Hs} {K' : SV → Prop} (hK : ∀ v, (∀ s, K s v = true) → K' v) : takeS P tb n (kvP ps) σ0 o F σ K' := by
  have h0 := h fun _ => 0
  unfold takeR at h h0
  unfold takeS
  split
  · rename_i v hq; simp only [hq] at h h0
    rcases hl : ldIn (kvP ps) F o.op with _ | _
    · rw [hl] at h0; cases h0
    simp only [hl, cond_true, forceV_eq] at h ⊢
    exact hK _ h
  · rename_i hq; simp only [hq] at h h0
    rcases hrd : rdR tb gl F o.op with _ | v
    · simp only [hrd] at h h0
      rcases hk : rawT o.op with _ | _
      · rw [hk] at h0; cases h0
      rcases hv : rt n o F σ.L with _ | v
      · simp only [hk, hv] at h0; cases h0
      simp only [hk, hv, cond_true] at h
      rw [rdN_raw hk]
      exact hrt n o F σ σ0 _ K' v hv (hK _ h)
    · simp only [hrd, forceV_eq] at h
      obtain ⟨p, hp, hpp⟩ := rdR_ok hgd (K := K') hrd (hK _ h)
      simp only [hp]
      exact hpp
  · rename_i h1 h2
    split at h0
    · rename_i q; exact absurd q (h1 _)
    · rename_i q; exact absurd q h2
    · cases h0
end
end
end Go.Proofs.YthmokdfigjffjaaGreatDoor

namespace Go.Proofs.YthmokdfigjffjaaGreatDoor
set_option linter.unusedVariables false
set_option linter.unusedSimpArgs false
open Go.RowKit
noncomputable section

theorem setCells_eq (b : Nat) : ∀ (vs : List Value) (o : Nat) (w : World), w.setCells b o vs = stW w b o vs
  | [], _, _ => rfl
  | _ :: vs, o, _ => setCells_eq b vs (o + 1) _
theorem cell_is {w : World} {b : Nat} {c : Array Value} {T : TypeId} (h : w.heap[b]? = some (.cells c T (0, 0))) (k : Nat) : w.cell? ⟨b, k, none⟩ = c[k]? ∧ w.frozen? ⟨b, k, none⟩ = false := ⟨by simp [World.cell?, h], by simp [World.frozen?, h]⟩
def voidB (e : Blk) : Blk := match e with
  | ⟨b, u, _, _⟩ => ⟨b, u, [], .row⟩
theorem voidB_b (e : Blk) : (voidB e).b = e.b := by cases e; rfl
theorem voidB_u (e : Blk) : (voidB e).u = e.u := by cases e; rfl
theorem voidB_void (e : Blk) : (voidB e).void := by cases e; exact ⟨rfl, rfl⟩
theorem Ext.void {L : Hp} {j : Nat} {e : Blk} (he : L[j]? = some e) : Ext L (L.set j (voidB e)) := fun i f hf => by
  by_cases h : i = j
  · subst h
    rw [he] at hf
    obtain rfl := Option.some.inj hf
    have hlt := (List.getElem?_eq_some_iff.1 he).1
    exact ⟨voidB e, by simp [hlt], voidB_b e, voidB_u e, Or.inl (voidB_void e)⟩
  · exact ⟨f, by rw [List.getElem?_set_ne (Ne.symm h)]; exact hf, rfl, rfl, Or.inr ⟨rfl, id⟩⟩
theorem mem_set {L : Hp} {j : Nat} {e' f : Blk} (hf : f ∈ L.set j e') : f = e' ∨ ∃ i, i ≠ j ∧ L[i]? = some f := by
  obtain ⟨i, hi⟩ := List.mem_iff_getElem?.1 hf
  by_cases hij : i = j
  · subst hij
    have hlt : i < (L.set i e').length := (List.getElem?_eq_some_iff.1 hi).1
    rw [List.length_set] at hlt
    simp [hlt] at hi
    exact Or.inl hi.symm
  · rw [List.getElem?_set_ne (Ne.symm hij)] at hi
    exact Or.inr ⟨i, hij, hi⟩
theorem set_mem {L : Hp} {j : Nat} {e e' f : Blk} (he : L[j]? = some e) (hb : e'.b = e.b) (hf : f ∈ L) : ∃ g ∈ L.set j e', g.b = f.b := by
  obtain ⟨i, hi⟩ := List.mem_iff_getElem?.1 hf
  have hlt := (List.getElem?_eq_some_iff.1 he).1
  by_cases hij : i = j
  · subst hij
    rw [he] at hi
    obtain rfl := Option.some.inj hi
    exact ⟨e', List.mem_of_getElem? (i := i) (by simp [hlt]), hb⟩
  · exact ⟨f, List.mem_of_getElem? (i := i) (by rw [List.getElem?_set_ne (Ne.symm hij)]; exact hi), rfl⟩
/-- A block is forgotten. -/
theorem St.forget {σ : Hs} {w : World} (h : St σ w) {j : Nat} {e : Blk} (he : σ.L[j]? = some e) : St { σ with L := σ.L.set j (voidB e) } w := by
  have hx := Ext.void he
  refine ⟨fun f hf => ?_, fun f hf x hx' => ?_, h.nd.setV he (voidB_b e) (fun _ => voidB_void e), fun f hf => ?_, h.fp.mono fun i _ hi => ?_⟩
  · rcases mem_set hf with rfl | ⟨i, _, hi⟩
    · exact Blk.void_sat (voidB_void e) w
    · exact h.sat f (List.mem_of_getElem? hi)
  · rcases mem_set hf with rfl | ⟨i, _, hi⟩
    · rw [(voidB_void e).2] at hx'; cases hx'
    · exact (h.ok f (List.mem_of_getElem? hi) x hx').ext hx
  · rcases mem_set hf with rfl | ⟨i, _, hi⟩
    · rw [voidB_b]; exact h.lt e (List.mem_of_getElem? he)
    · exact h.lt f (List.mem_of_getElem? hi)
  · rcases hi with hi | ⟨f, hf, rfl⟩
    · exact Or.inl hi
    · obtain ⟨g, h1, h2⟩ := set_mem he (voidB_b e) hf
      exact Or.inr ⟨g, h1, h2⟩
/-- A new row, of which the first cells are known. -/
theorem St.newG {σ : Hs} {w : World} (h : St σ w) {cs : List CV} (hc : ∀ x ∈ cs, x.ok σ.L) {c : Array Value} (T : TypeId) {N : Nat} (h1 : ∀ (k : Nat) (x : CV), cs[k]? = some x → c[k]? = some x.den) (h2 : cs.length ≤ N) (h3 : N ≤ c.size) :
    St { σ with L := σ.L ++ [⟨w.heap.size, 0, cs, .grow N⟩] } (w.drew.alloc (.cells c T)) := by
  have hx := Ext.push σ.L [⟨w.heap.size, 0, cs, .grow N⟩]
  have hnew : (w.drew.alloc (.cells c T)).heap[w.heap.size]? = some (.cells c T (0, 0)) := heap_new w.drew _ _ rfl
  refine ⟨fun f hf => ?_, fun f hf x hxx => ?_, h.nd.push fun f hf q => absurd (h.lt f hf) (by simp only at q; omega), fun f hf => ?_, ?_⟩
  · rcases List.mem_append.1 hf with hf | hf
    · exact Blk.keep (h.sat f hf) (Below.heap_alloc w.drew _ _ (h.lt f hf))
    · obtain rfl := List.mem_singleton.1 hf
      refine ⟨fun k v hk => ?_, rfl, h2, fun k hk => ?_⟩
      · rw [List.getElem?_map] at hk
        rcases hkk : cs[k]? with _ | x
        · rw [hkk] at hk; cases hk
        rw [hkk] at hk
        obtain rfl : x.den = v := by simpa using hk
        have := h1 k x hkk
        simp only [Nat.zero_add]
        exact ⟨(cell_is hnew k).1.trans this, (cell_is hnew k).2⟩
      · have hk' : k < c.size := by omega
        exact ⟨by rw [(cell_is hnew k).1]; simp [hk'], (cell_is hnew k).2⟩
  · rcases List.mem_append.1 hf with hf | hf
    · exact (h.ok f hf x hxx).ext hx
    · obtain rfl := List.mem_singleton.1 hf
      exact (hc x hxx).ext hx
  · have hsz : (w.drew.alloc (.cells c T)).heap.size = w.heap.size + 1 := by simp [-World.drew_eq]
    rw [hsz]
    rcases List.mem_append.1 hf with hf | hf
    · exact Nat.lt_succ_of_lt (h.lt f hf)
    · obtain rfl := List.mem_singleton.1 hf
      exact Nat.lt_succ_self _
  · refine (h.fp.mono fun i _ hi => ?_).drew.alloc _
    rcases hi with hi | ⟨f, hf, rfl⟩
    · exact Or.inl hi
    · exact Or.inr ⟨f, List.mem_append_left _ hf, rfl⟩
/-- What is known of a row is known under another number. -/
theorem St.move {σ : Hs} {w : World} (h : St σ w) {j : Nat} {e : Blk} (he : σ.L[j]? = some e) {N N' : Nat} (hT : e.T = .grow N) (h1 : e.cs.length ≤ N') (h2 : N' ≤ N) :
    St { σ with L := σ.L.set j (voidB e) ++ [⟨e.b, 0, e.cs, .grow N'⟩] } w := by
  have hm := List.mem_of_getElem? he
  have hf := h.forget he
  have hx := Ext.push (σ.L.set j (voidB e)) [⟨e.b, 0, e.cs, .grow N'⟩]
  have hok : ∀ x ∈ e.cs, x.ok (σ.L.set j (voidB e)) := fun x hx => (h.ok e hm x hx).ext (Ext.void he)
  refine ⟨fun f hf' => ?_, fun f hf' x hxx => ?_, hf.nd.push fun f hf' hb => ?_, fun f hf' => ?_, hf.fp.mono fun i _ hi => ?_⟩
  · rcases List.mem_append.1 hf' with hf' | hf'
    · exact hf.sat f hf'
    · obtain rfl := List.mem_singleton.1 hf'
      have hs := h.sat e hm
      obtain ⟨b, u, cs, T⟩ := e
      simp only at hT
      subst hT
      obtain ⟨g1, g2, g3, g4⟩ := hs
      simp only at g2
      subst g2
      exact ⟨g1, rfl, h1, fun k hk => g4 k (by omega)⟩
  · rcases List.mem_append.1 hf' with hf' | hf'
    · exact (hf.ok f hf' x hxx).ext hx
    · obtain rfl := List.mem_singleton.1 hf'
      exact (hok x hxx).ext hx
  · rcases mem_set hf' with rfl | ⟨i, hij, hi⟩
    · exact voidB_void e
    · rcases h.nd i j f e hi he hij hb with q | q
      · exact q
      · exact absurd q.1 (by rw [hT]; simp)
  · rcases List.mem_append.1 hf' with hf' | hf'
    · exact hf.lt f hf'
    · obtain rfl := List.mem_singleton.1 hf'
      exact h.lt e hm
  · rcases hi with hi | ⟨f, hf', rfl⟩
    · exact Or.inl hi
    · exact Or.inr ⟨f, List.mem_append_left _ hf', rfl⟩
/-- Cells are stored into a row that has room for them. -/
theorem St.into {σ : Hs} {w : World} (h : St σ w) {j : Nat} {e : Blk} (he : σ.L[j]? = some e) {N : Nat} (hT : e.T = .grow N) {o : Nat} {pre vs : List CV} (hp : takeN o e.cs = some pre) (hN : o + vs.length ≤ N) (hv : ∀ x ∈ vs, x.ok σ.L) (post : List CV) (hpost : post = [] ∨ post = e.cs.drop (o + vs.length)) :
    St { σ with L := σ.L.set j { e with cs := pre ++ vs ++ post } } (stW w e.b o (vs.map CV.den)) := by
  have hm := List.mem_of_getElem? he
  have hs := h.sat e hm
  obtain ⟨p1, p2⟩ := takeN_ok hp
  have hvoid : ¬ e.void := fun q => by have := q.1; rw [hT] at this; cases this
  obtain ⟨b, u, es, T⟩ := e
  simp only at hT p1 hp hpost ⊢
  subst hT
  obtain ⟨g1, g2, g3, g4⟩ := hs
  simp only at g1 g2 g3 g4
  subst g2
  have h3 : ∀ k x, (pre ++ vs ++ post)[k]? = some x → (if o ≤ k ∧ k < o + vs.length then vs[k - o]? else es[k]?) = some x := fun k x hk => by
    by_cases hc : o ≤ k ∧ k < o + vs.length
    · rw [if_pos hc]
      rw [List.append_assoc, List.getElem?_append_right (by omega), List.getElem?_append_left (by omega), p2] at hk
      exact hk
    · rw [if_neg hc]
      rcases Nat.lt_or_ge k o with q | q
      · rw [List.append_assoc, List.getElem?_append_left (by omega), p1, List.getElem?_take_of_lt q] at hk
        exact hk
      · rw [List.getElem?_append_right (by rw [List.length_append]; omega)] at hk
        rcases hpost with rfl | rfl
        · simp at hk
        · rw [List.getElem?_drop, List.length_append, p2] at hk
          have : o + vs.length + (k - (o + vs.length)) = k := by omega
          rw [this] at hk
          exact hk
  have key := h.put (σ := σ) he (o := o) (vs := vs) (cs := pre ++ vs ++ post) hv (fun q => absurd q hvoid) ?_ h3 (Ext.setV he fun q => absurd q hvoid) (h.nd.setV he rfl fun q => absurd q hvoid)
  · simpa using key
  refine ⟨?_, rfl, ?_, ?_⟩
  · refine row_store (fun k x hk => g1 k x.den (by simp [hk])) (fun k _ hk => ?_) h3
    have := g4 k (by omega)
    simpa using this
  · have ho : o ≤ es.length := by
      have : (es.take o).length = o := by rw [← p1]; exact p2
      rw [List.length_take] at this; omega
    rcases hpost with rfl | rfl
    · simp [p2]; omega
    · simp [p2]; omega
  · have := there_store (o := o) (vs := vs.map CV.den) g4
    simpa using this
def cellsR (L : Hp) (j o n : Nat) : Option (List CV) :=
  match L[j]? with
  | some e => bif e.T.isC then takeN n (e.cs.drop o) else none
  | none => none
theorem cellsR_ok {σ : Hs} {w : World} (hS : St σ w) {j o n b : Nat} {cs : List CV} (h : cellsR σ.L j o n = some cs) (hj : ∃ e : Blk, σ.L[j]? = some e ∧ e.b = b ∧ e.u = 0) :
    cs.length = n ∧ (∀ x ∈ cs, x.ok σ.L) ∧ ∀ (k : Nat) (x : CV), cs[k]? = some x → w.cell? ⟨b, o + k, none⟩ = some x.den := by
  obtain ⟨e, he, rfl, hu⟩ := hj
  unfold cellsR at h
  rw [he] at h
  simp only at h
  rcases hc : e.T.isC with _ | _
  · rw [hc] at h; cases h
  rw [hc] at h
  simp only [cond_true] at h
  obtain ⟨h1, h2⟩ := takeN_ok h
  have hm := List.mem_of_getElem? he
  refine ⟨h2, fun x hx => hS.ok e hm x ?_, fun k x hk => ?_⟩
  · rw [h1] at hx; exact List.mem_of_mem_drop (List.mem_of_mem_take hx)
  · have hkn : k < n := by rw [← h2]; exact (List.getElem?_eq_some_iff.1 hk).1
    rw [h1, List.getElem?_take_of_lt hkn, List.getElem?_drop] at hk
    have := (Blk.cell (hS.sat e hm) hc hk).1
    rw [hu, Nat.zero_add] at this
    exact this
/-- What is appended, or copied: so many elements, these cells. -/
def srcR (L : Hp) (sz : Nat) : SV → Option (Nat × List CV)
  | .e (.c (.s j _ o l _)) => (match cellsR L j o (l * sz) with
    | some cs => some (l, cs)
    | none => none)
  | .e (.c (.gs j _ o _ l _ _)) => (match cellsR L j o (l * sz) with
    | some cs => some (l, cs)
    | none => none)
  | .e (.c (.v (.slice none 0 _))) => some (0, [])
  | _ => none
theorem srcR_ok {P : Program} {σ : Hs} {w : World} (hS : St σ w) {tx e' : TypeId} (hk : P.underlying tx = some (.slice e')) {sz n : Nat} {x : SV} {news : List CV} (h : srcR σ.L sz x = some (n, news)) (hx : x.ok σ.L) :
    Src P sz tx x.den n (news.map CV.den) w ∧ ∀ y ∈ news, y.ok σ.L := by
  have key : ∀ {j b o l c : Nat}, (∃ e : Blk, σ.L[j]? = some e ∧ e.b = b ∧ e.u = 0) → cellsR σ.L j o (l * sz) = some news → Src P sz tx (.slice (some ⟨b, o, none⟩) l c) l (news.map CV.den) w ∧ ∀ y ∈ news, y.ok σ.L := fun hj hc => by
    obtain ⟨h1, h2, h3⟩ := cellsR_ok hS hc hj
    refine ⟨Src.ofSlice w hk _ _ _ _ (by rw [List.length_map]; exact h1) (fun k u hu => ?_) (fun u hu => ?_), h2⟩
    · rw [List.getElem?_map] at hu
      rcases hkk : news[k]? with _ | y
      · rw [hkk] at hu; cases hu
      rw [hkk] at hu
      obtain rfl : y.den = u := by simpa using hu
      have := h3 k y hkk
      cases k with
      | zero => simpa [Addr.add] using this
      | succ k => simpa [Addr.add] using this
    · obtain ⟨y, hy, rfl⟩ := List.mem_map.1 hu; exact one_den (h2 y hy)
  unfold srcR at h
  split at h <;> first | (cases h; done) | skip
  · split at h <;> first | (cases h; done) | skip
    rename_i hc
    cases h
    exact key hx hc
  · split at h <;> first | (cases h; done) | skip
    rename_i hc
    cases h
    obtain ⟨e, q1, q2, q3, _⟩ := hx
    exact key ⟨e, q1, q2, q3⟩ hc
  · cases h
    exact ⟨Src.ofNil w hk _, fun y hy => by cases hy⟩
end
end Go.Proofs.YthmokdfigjffjaaGreatDoor
