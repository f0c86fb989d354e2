/- Texts of this proof, merged: Sxh Sxi Sxj. -/
import Derived.Test.YthmokdfigjffjaaGreatDoorMad
namespace Go.Proofs.YthmokdfigjffjaaGreatDoor
set_option linter.unusedVariables false
set_option linter.unusedSimpArgs false
open Go.RowKit
noncomputable section

/-- An operation behind its guard; behind a test its outcome is known. -/
def gdS (all : List Oper) (F : Fr) (o : Oper) (yes no : Fr → Prop) : Prop :=
  match o.guard with
  | none => yes F
  | some (j, want) => match all[j]? with
    | some oj => (match oj.dst with
      | some d => (match look F d with
        | some (.e (.c .tt)) => bif want then yes F else no F
        | some (.e (.c .ff)) => bif want then no F else yes F
        | some (.e (.c (.b t))) => bif want then Br t (yes ((d, .e (.c .tt)) :: F)) (no ((d, .e (.c .ff)) :: F)) else Br t (no ((d, .e (.c .tt)) :: F)) (yes ((d, .e (.c .ff)) :: F))
        | some (.t []) => no F
        | _ => False)
      | none => no F)
    | none => no F
section
variable (P : Program) (tb : Tbx) (fo : Fo) (n : Nz)
def opsS (all : List Oper) (Q : Fr → Hs → Prop) : List Oper → Fr → Hs → Prop
  | [], F, σ => Q F σ
  | o :: r, F, σ => bif inB n.n o.dst then gdS all F o (fun F => opS P tb fo n o F none σ fun v σ' => opsS all Q r (putF F o.dst v) σ') (fun F => opsS all Q r (putF F o.dst undefV) σ) else False
/-- What holds in every world of a region that draws its order. -/
def StR (kv : Nat → Bool) (σ : Hs) (w : World) : Prop :=
  (∀ (j : Nat) (e : Blk), kv j = true → σ.L[j]? = some e → e.sat w) ∧ Fp (fun k => σ.S k ∨ ∃ e ∈ σ.L, e.b = k) σ.w0 w
/-- An operation that only reads, but that this text does not know. -/
structure RawT (kv : Nat → Bool) (σ0 : Hs) (o : Oper) (F : Fr) (σ : Hs) (K : SV → Prop) : Prop where
  out : ∃ v, (∀ a, FrOk n a σ.L F → ∀ w, StR kv σ0 w → (execOp a.eval o).run P w = .ok (.value v.den) w) ∧ v.ok σ.L ∧ K v
def ldIn (kv : Nat → Bool) (F : Fr) : Op → Bool
  | .load _ x => match evO F x with
    | some (.e (.c (.p j _ _))) => kv j
    | some (.e (.c (.q j _ _ _))) => kv j
    | _ => false
  | _ => true
def takeS (kv : Nat → Bool) (σ0 : Hs) (o : Oper) (F : Fr) (σ : Hs) (K : SV → Prop) : Prop :=
  match effS tb F σ.L o.op with
  | .val v => bif ldIn kv F o.op then K v else False
  | .no => match rdN tb F σ K o.op with
    | some p => p
    | none => RawT P n kv σ0 o F σ K
  | _ => False
/-- Whatever order is picked, and S holds behind every operation that is carried out, but number z. -/
def wpAnyK (P : Program) (md : Region.Mode) (ops : Array Oper) (Q : Exit → Act → World → Prop) (S : World → Prop) (z : Option Nat) : Nat → Array Bool → Act → World → Prop
  | 0, listed, a, w => Region.ready md ops listed = [] ∧ Q .normal a w
  | fuel + 1, listed, a, w => (Region.ready md ops listed = [] → Q .normal a w) ∧
    ∀ i ∈ Region.ready md ops listed, wpOp P ops Q i (fun a' w' => (z ≠ some i → S w') ∧ wpAnyK P md ops Q S z fuel (listed.setIfInBounds i true) a' w') a w
/-- Is an operation surely behind another one? -/
def ancB (md : Region.Mode) (ops : Array Oper) (i : Nat) : Nat → Nat → Bool
  | 0, _ => false
  | d + 1, z => match ops[z]? with
    | some o => o.after.any fun e => Region.binds md e && (e.on == i || ancB md ops i d e.on)
    | none => false
/-- What is listed is so with what it waits for. -/
def DC (md : Region.Mode) (ops : Array Oper) (ls : Array Bool) : Prop := ∀ j o, ops[j]? = some o → ls.getD j false = true → ∀ e ∈ o.after, Region.binds md e = true → ls.getD e.on false = true
section
variable {P : Program} {ops : Array Oper} {Q : Exit → Act → World → Prop} {md : Region.Mode} {S : World → Prop} {z : Option Nat}
theorem anc_ok {ls : Array Bool} (hd : DC md ops ls) {i : Nat} : ∀ (d z : Nat) (o : Oper), ops[z]? = some o → (∀ e ∈ o.after, Region.binds md e = true → ls.getD e.on false = true) → ancB md ops i d z = true → ls.getD i false = true
  | 0, _, _, _, _, h => by simp [ancB] at h
  | d + 1, z, o, ho, he, h => by
    simp only [ancB, ho] at h
    obtain ⟨e, hm, hb⟩ := Array.any_eq_true'.1 h
    simp only [Bool.and_eq_true, Bool.or_eq_true, beq_iff_eq] at hb
    have h1 := he e hm hb.1
    rcases hb.2 with rfl | h2
    · exact h1
    · rcases hq : ops[e.on]? with _ | o'
      · cases d <;> simp [ancB, hq] at h2
      · exact anc_ok hd d e.on o' hq (hd e.on o' hq h1) h2
theorem DC.set {ls : Array Bool} (hd : DC md ops ls) {i : Nat} (hi : i ∈ Region.ready md ops ls) : DC md ops (ls.setIfInBounds i true) := fun j o ho hj e he hb => by
  obtain ⟨_, oi, hoi, hall⟩ := mem_ready.1 hi
  by_cases hij : i = j
  · subst hij
    rw [hoi] at ho
    obtain rfl := Option.some.inj ho
    exact getD_set_true (hall e he hb)
  · rw [getD_set_ne false hij] at hj
    exact getD_set_true (hd j o ho hj e he hb)
theorem DC.init : DC md ops (Array.replicate ops.size false) := fun j o ho hj => by
  simp only [Array.getD_eq_getD_getElem?, Array.getElem?_replicate] at hj
  split at hj <;> simp at hj
theorem wpAny_of_K : ∀ (fuel : Nat) (listed : Array Bool) (a : Act) (w : World), wpAnyK P md ops Q S z fuel listed a w → wpAny P md ops Q fuel listed a w
  | 0, _, _, _, h => h
  | fuel + 1, _, _, _, h => ⟨h.1, fun i hi => wpOp_mono (fun a' w' h' => wpAny_of_K fuel _ a' w' h'.2) (h.2 i hi)⟩
theorem wpAnyK_first {i : Nat} {oi : Oper} {v : Value} (hi : ops[i]? = some oi) (hsel : ∀ (j : Nat) (o : Oper) cs b, ops[j]? = some o → o.op ≠ .select cs b)
    (hQ : ∀ c a w, Q (.panic c) (a.put oi.dst v) w → Q (.panic c) a w) (hz : ∀ k, z = some k → k ≠ i ∧ ancB md ops i 8 k = true) :
    ∀ (fuel : Nat) (listed : Array Bool) (a : Act) (w : World), DC md ops listed →
      (∀ j oj, ops[j]? = some oj → j ≠ i → listed.getD j true = false → (∀ e ∈ oj.after, Region.binds md e = true → e.on ≠ i) → oi.apart ops oj = true) →
      i ∈ Region.ready md ops listed → YieldsIf P ops S oi v a → S w →
      wpAnyK P md ops Q S z fuel (listed.setIfInBounds i true) (a.put oi.dst v) w → wpAnyK P md ops Q S z (fuel + 1) listed a w := by
  intro fuel
  induction fuel with
  | zero =>
    intro listed a w hdc _ hr hy hS H
    refine ⟨(fun h => by rw [h] at hr; cases hr), fun j hj => ?_⟩
    by_cases hji : j = i
    · subst hji; exact hy.wpOp hi hS ⟨fun _ => hS, H⟩
    · have := ready_mono hj hji
      rw [H.1] at this
      cases this
  | succ fuel ih =>
    intro listed a w hdc hfree hr hy hS H
    refine ⟨(fun h => by rw [h] at hr; cases hr), fun j hj => ?_⟩
    by_cases hji : j = i
    · subst hji; exact hy.wpOp hi hS ⟨fun _ => hS, H⟩
    · have h1 := H.2 j (ready_mono hj hji)
      obtain ⟨hjun, oj, hoj, hall⟩ := mem_ready.1 hj
      have hiun : listed.getD i false = false := by
        have h0 := (mem_ready.1 hr).1
        rcases Nat.lt_or_ge i listed.size with h' | h'
        · simpa [h'] using h0
        · simp [Array.getElem?_eq_none h']
      have hnot : ∀ e ∈ oj.after, Region.binds md e = true → e.on ≠ i := fun e he hb heq => by
        have h1 := hall e he hb
        rw [heq, hiun] at h1
        cases h1
      have hzj : z ≠ some j := fun q => by
        obtain ⟨_, h2⟩ := hz j q
        have := anc_ok hdc _ j oj hoj hall h2
        rw [hiun] at this; cases this
      have h2 := wpOp_putIf hoj (hfree j oj hoj hji hjun hnot) (fun cs b => hsel i oi cs b hi) (fun cs b => hsel j oj cs b hoj) hQ hy h1
      have hfree' : ∀ k ok, ops[k]? = some ok → k ≠ i → (listed.setIfInBounds j true).getD k true = false →
          (∀ e ∈ ok.after, Region.binds md e = true → e.on ≠ i) → oi.apart ops ok = true := fun k ok hk hki hun hno => by
        refine hfree k ok hk hki ?_ hno
        by_cases hjk : j = k
        · subst hjk; exact hjun
        · rw [getD_set_ne true hjk] at hun; exact hun
      refine wpOp_mono (fun a' w' h3 => ?_) h2
      obtain ⟨h4, h5, h6⟩ := h3
      have hSw := h5 hzj
      refine ⟨fun _ => hSw, ih (listed.setIfInBounds j true) a' w' (hdc.set hj) hfree' (ready_mono hr (Ne.symm hji)) h4 hSw ?_⟩
      rw [Array.setIfInBounds_comm _ _ hji]
      exact h6
theorem wpAnyK_take {i : Nat} {oi : Oper} {v : Value} {fuel : Nat} {listed : Array Bool} {a : Act} {w : World} (hi : ops[i]? = some oi) (hd : DC md ops listed)
    (hs : Region.noSelect ops = true) (hf : Region.free md ops listed i = true) (hr : (Region.ready md ops listed).contains i = true)
    (hQ : ∀ c a w, Q (.panic c) (a.put oi.dst v) w → Q (.panic c) a w) (hz : ∀ k, z = some k → k ≠ i ∧ ancB md ops i 8 k = true) (hy : YieldsIf P ops S oi v a) (hS : S w)
    (h : wpAnyK P md ops Q S z fuel (listed.setIfInBounds i true) (a.put oi.dst v) w) : wpAnyK P md ops Q S z (fuel + 1) listed a w :=
  wpAnyK_first hi (Region.noSelect_spec hs) hQ hz fuel listed a w hd (Region.free_spec hi hf) (by simpa using hr) hy hS h
theorem wpAnyK_all {rs : List Nat} {fuel : Nat} {listed : Array Bool} {a : Act} {w : World} (hr : Region.ready md ops listed = rs) (hne : rs ≠ [])
    (h : ∀ i ∈ rs, wpOp P ops Q i (fun a' w' => (z ≠ some i → S w') ∧ wpAnyK P md ops Q S z fuel (listed.setIfInBounds i true) a' w') a w) : wpAnyK P md ops Q S z (fuel + 1) listed a w :=
  ⟨fun h0 => absurd (hr ▸ h0) hne, hr ▸ h⟩
theorem wpAnyK_done {listed : Array Bool} {a : Act} {w : World} (hr : Region.ready md ops listed = []) (h : Q .normal a w) : ∀ fuel, wpAnyK P md ops Q S z fuel listed a w
  | 0 => ⟨hr, h⟩
  | _ + 1 => ⟨fun _ => h, by rw [hr]; simp⟩
end
/-- How a region that draws its order is gone through: an operation that is taken first; the one that may come up; one of some that may come up, and the others. -/
inductive Pl where
  | nil
  | t (i : Nat) (r : Pl)
  | x (i : Nat) (r : Pl)
  | l (i : Nat)
  | b (i : Nat) (r s : Pl)
  | z (i : Nat) (r : Pl)
/-- 2i: number i is taken first; 2i+1: it is the one that may come up. -/
def pl : List Nat → Pl
  | [] => .nil
  | k :: l => match Nat.beq (Nat.mod k 2) 0 with
    | true => .t (Nat.div k 2) (pl l)
    | false => .x (Nat.div k 2) (pl l)
def plc : List Nat → Pl → Pl
  | [], p => p
  | k :: l, p => match Nat.beq (Nat.mod k 2) 0 with
    | true => .t (Nat.div k 2) (plc l p)
    | false => .x (Nat.div k 2) (plc l p)
def Pl.depth : Pl → Nat
  | .nil => 0
  | .t _ r => r.depth + 1
  | .x _ r => r.depth + 1
  | .l _ => 1
  | .b _ r s => max (r.depth + 1) s.depth
  | .z _ r => r.depth
/-- The operation that comes last. -/
def Pl.last : Pl → Option Nat
  | .nil => none
  | .t _ r => r.last
  | .x _ r => r.last
  | .l i => some i
  | .b _ _ _ => none
  | .z _ _ => none
def lastB (ops : Array Oper) (z : Option Nat) (i : Nat) : Bool :=
  match z with
  | some k => !(Nat.beq k i) && ancB .any ops i 8 k
  | none => true
def dstO (ops : Array Oper) (i : Nat) : Option Nat :=
  match ops[i]? with
  | some o => o.dst
  | none => none
def neO : Option Nat → Option Nat → Bool
  | some x, some y => !(Nat.beq x y)
  | _, _ => true
def planOk (ops : Array Oper) (z : Option Nat) : Option Nat → Pl → Array Bool → List Nat → Bool
  | none, .nil, _, rs => rs.isEmpty
  | none, .l i, ls, rs => (rs == [i]) && (z == some i) && (Region.ready .any ops (ls.setIfInBounds i true)).isEmpty
  | none, .t i r, ls, rs => lastB ops z i && rs.contains i && (rs == Region.ready .any ops ls) && Region.free .any ops ls i && planOk ops z none r (ls.setIfInBounds i true) (Region.ready .any ops (ls.setIfInBounds i true))
  | none, .x i r, ls, rs => (rs == [i]) && !(z == some i) && planOk ops z none r (ls.setIfInBounds i true) (Region.ready .any ops (ls.setIfInBounds i true))
  | none, .b i r s, ls, rs => (z == none) && (match rs, s with | j :: k :: q, .x _ _ => Nat.beq i j && planOk ops z none s ls (k :: q) | j :: k :: q, .b _ _ _ => Nat.beq i j && planOk ops z none s ls (k :: q) | _, _ => false) && planOk ops z none r (ls.setIfInBounds i true) (Region.ready .any ops (ls.setIfInBounds i true))
  | none, .z i r, ls, rs => (z == none) && (rs == Region.ready .any ops ls) && rs.contains i && planOk ops z (some i) r ls rs
  | some i, .t j r, ls, rs => !(Nat.beq j i) && rs.contains j && Region.free .any ops ls j && (Region.ready .any ops (ls.setIfInBounds i true)).contains j && Region.free .any ops (ls.setIfInBounds i true) j && neO (dstO ops j) (dstO ops i) && planOk ops z (some i) r (ls.setIfInBounds j true) (Region.ready .any ops (ls.setIfInBounds j true))
  | some i, .x k r, ls, rs => bif Nat.beq k i then (rs == [i]) && planOk ops z none r (ls.setIfInBounds i true) (Region.ready .any ops (ls.setIfInBounds i true))
      else (rs == [i, k] || rs == [k, i]) && (Region.ready .any ops (ls.setIfInBounds i true) == [k]) && neO (dstO ops k) (dstO ops i) && planOk ops z (some i) r (ls.setIfInBounds k true) (Region.ready .any ops (ls.setIfInBounds k true))
  | some _, _, _, _ => false
/-- Where a piece of code may end. -/
def Rz (n : Nz) (Q : Exit → Fr → Hs → Prop) : Exit → Act → World → Prop
  | .panic _, _, _ => False
  | .outgrown, _, _ => False
  | e, a, w => ∃ F σ, FrOk n a σ.L F ∧ St σ w ∧ Q e F σ
/-- A variable that may be made at any time: what follows, in whatever order. -/
structure ZSt (P : Program) (n : Nz) (all : List Oper) (kv : Nat → Bool) (σ0 : Hs) (Q : Fr → Hs → Prop) (i : Nat) (r : Pl) (F : Fr) (σ : Hs) : Prop where
  out : ∀ (Q' : Exit → Fr → Hs → Prop), (∀ F σ, Q F σ → Q' .normal F σ) → Region.noSelect all.toArray = true → (∀ j, kv j = true → j < σ0.L.length) → ∀ (ls : Array Bool) (fuel : Nat) (a : Act) (w : World), DC .any all.toArray ls → i ∈ Region.ready .any all.toArray ls → r.depth ≤ fuel → planOk all.toArray none (some i) r ls (Region.ready .any all.toArray ls) = true → FrOk n a σ.L F → St σ w → KpW (some kv) σ0 σ → Ext σ0.L σ.L →
    wpAnyK P .any all.toArray (Rz n Q') (StR kv σ0) none fuel ls a w
structure AndN (A B : Prop) : Prop where
  l : A
  r : B
def stepS (all : List Oper) (i : Nat) (F : Fr) (yes : Oper → Fr → Prop) (no : Oper → Fr → Prop) : Prop :=
  match all[i]? with
  | some o => bif inB n.n o.dst then gdS all F o (yes o) (no o) else False
  | none => False
def planS (all : List Oper) (kv : Nat → Bool) (σ0 : Hs) (Q : Fr → Hs → Prop) : Pl → Fr → Hs → Prop
  | .nil, F, σ => Q F σ
  | .t i r, F, σ => stepS n all i F (fun o F => takeS P tb n kv σ0 o F σ (fun v => planS all kv σ0 Q r (putF F o.dst v) σ)) (fun o F => planS all kv σ0 Q r (putF F o.dst undefV) σ)
  | .x i r, F, σ => stepS n all i F (fun o F => opS P tb fo n o F (some kv) σ fun v σ' => planS all kv σ0 Q r (putF F o.dst v) σ') (fun o F => planS all kv σ0 Q r (putF F o.dst undefV) σ)
  | .l i, F, σ => stepS n all i F (fun o F => opS P tb fo n o F none σ fun v σ' => Q (putF F o.dst v) σ') (fun o F => Q (putF F o.dst undefV) σ)
  | .z i r, F, σ => ZSt P n all kv σ0 Q i r F σ
  | .b i r s, F, σ => AndN (stepS n all i F (fun o F => opS P tb fo n o F (some kv) σ fun v σ' => planS all kv σ0 Q r (putF F o.dst v) σ') (fun o F => planS all kv σ0 Q r (putF F o.dst undefV) σ)) (planS all kv σ0 Q s F σ)
end
def planAll (ops : Array Oper) (p : Pl) : Bool := Nat.ble p.depth ops.size && Region.noSelect ops && planOk ops p.last none p (Array.replicate ops.size false) (Region.ready .any ops (Array.replicate ops.size false))
section
variable {P : Program} {tb : Tbx} {fo : Fo} {n : Nz} {a : Act} {w : World} {F : Fr} {σ : Hs}
theorem undef_ok (L : Hp) : undefV.ok L := fun x hx => by cases hx
theorem Oper.wp_up {o : Oper} {N N' : Act → World → Prop} {Q' : Exit → Act → World → Prop} (h : o.wp P a w N (fun _ _ _ => False)) (hn : ∀ a w, N a w → N' a w) : o.wp P a w N' Q' := by
  unfold Oper.wp at *
  generalize (execOp a.eval o).run P w = r at *
  cases r with
  | ok x w' =>
    cases x <;> simp only [Oper.upon] at h ⊢ <;> first
      | exact hn _ _ h
      | exact h
      | (refine Calls.mono h (fun e w'' he => ?_)
         cases e with
         | returned v => exact hn _ _ he
         | panicked c => exact he.elim
         | outgrown => exact (he.elim fun _ q => q.elim fun _ q => q.elim))
      | exact Rows.mono h (fun _ _ he => hn _ _ he)
  | halt x w' => cases x <;> simp only [Oper.upon] at h ⊢ <;> first | exact h.elim | exact h
theorem FrOk.know (hF : FrOk n a σ.L F) {d : Nat} {t : Bool} {x y : CV} (hd : look F d = some (.e (.c x))) (hx : x.den = .bool t) (hy : y.den = .bool t) (hk : y.ok σ.L) : FrOk n a σ.L ((d, .e (.c y)) :: F) :=
  ⟨hF.size, hF.defers, fun u z hz => by
    simp only [look_cons] at hz
    rcases hb : Nat.beq d u with _ | _
    · rw [hb] at hz; exact hF.at_ u z hz
    · rw [hb] at hz
      obtain rfl : d = u := by simpa using hb
      obtain rfl : SV.e (.c y) = z := by simpa using hz
      have := (hF.at_ d _ hd).1
      refine ⟨?_, hk⟩
      rw [this]
      show some x.den = some y.den
      rw [hx, hy]⟩
theorem look_know {F : Fr} {d : Nat} {x y : SV} (hd : look F d = some x) (t : Nat) (h : look F t = none) : look ((d, y) :: F) t = none := by
  rw [look_cons]
  rcases hb : Nat.beq d t with _ | _
  · exact h
  · obtain rfl : d = t := by simpa using hb
    rw [hd] at h; cases h
theorem gdS_ok {all : List Oper} (hF : FrOk n a σ.L F) {o : Oper} {yes no : Fr → Prop} (h : gdS all F o yes no) :
    ∃ F', FrOk n a σ.L F' ∧ (∀ t, look F t = none → look F' t = none) ∧ ((Region.wanted o (yielded all.toArray a.tmps) = true ∧ yes F') ∨ (Region.wanted o (yielded all.toArray a.tmps) = false ∧ no F')) := by
  unfold gdS at h
  unfold Region.wanted
  split at h
  · rename_i hg; rw [hg]; exact ⟨F, hF, fun _ q => q, Or.inl ⟨rfl, h⟩⟩
  · rename_i j want hg
    rw [hg]
    simp only
    split at h
    · rename_i oj hj
      split at h
      · rename_i d hd
        have hy : ∀ (x : CV) (t : Bool), look F d = some (.e (.c x)) → x.den = .bool t → yielded all.toArray a.tmps j = some t := fun x t hl hx => by
          have := (hF.at_ d _ hl).1
          simp [yielded, hj, hd, this, SV.den, EV.den, hx]
        split at h
        · rename_i hl
          rw [hy _ true hl rfl]
          cases want
          · exact ⟨F, hF, fun _ q => q, Or.inr ⟨rfl, h⟩⟩
          · exact ⟨F, hF, fun _ q => q, Or.inl ⟨rfl, h⟩⟩
        · rename_i hl
          rw [hy _ false hl rfl]
          cases want
          · exact ⟨F, hF, fun _ q => q, Or.inl ⟨rfl, h⟩⟩
          · exact ⟨F, hF, fun _ q => q, Or.inr ⟨rfl, h⟩⟩
        · rename_i t hl
          rw [hy _ t hl rfl]
          cases want <;> cases t
          · exact ⟨_, hF.know hl (y := .ff) rfl rfl trivial, look_know hl, Or.inl ⟨rfl, h.f rfl⟩⟩
          · exact ⟨_, hF.know hl (y := .tt) rfl rfl trivial, look_know hl, Or.inr ⟨rfl, h.t rfl⟩⟩
          · exact ⟨_, hF.know hl (y := .ff) rfl rfl trivial, look_know hl, Or.inr ⟨rfl, h.f rfl⟩⟩
          · exact ⟨_, hF.know hl (y := .tt) rfl rfl trivial, look_know hl, Or.inl ⟨rfl, h.t rfl⟩⟩
        · rename_i ht
          have hy : yielded all.toArray a.tmps j = none := by
            have := (hF.at_ d _ ht).1
            simp [yielded, hj, hd, this, SV.den]
          rw [hy]
          exact ⟨F, hF, fun _ q => q, Or.inr ⟨by cases want <;> rfl, h⟩⟩
        · exact h.elim
      · rename_i hd
        have hy : yielded all.toArray a.tmps j = none := by simp [yielded, hj, hd]
        rw [hy]; exact ⟨F, hF, fun _ q => q, Or.inr ⟨by cases want <;> rfl, h⟩⟩
    · rename_i hj
      have hy : yielded all.toArray a.tmps j = none := by simp [yielded, hj]
      rw [hy]; exact ⟨F, hF, fun _ q => q, Or.inr ⟨by cases want <;> rfl, h⟩⟩
theorem opsS_ok (hc : CxOk P tb fo) {all : List Oper} {Q : Exit → Fr → Hs → Prop} : ∀ (r : List Oper) (k : Nat), all.drop k = r → ∀ (a : Act) (w : World) (F : Fr) (σ : Hs), FrOk n a σ.L F → St σ w → opsS P tb fo n all (Q .normal) r F σ →
    wpOps P all.toArray (Rz n Q) (List.range' k r.length) a w
  | [], k, _, a, w, F, σ, hF, hS, h => ⟨F, σ, hF, hS, h⟩
  | o :: r, k, hd, a, w, F, σ, hF, hS, h => by
    have hk : all[k]? = some o := by
      have := congrArg (·[0]?) hd
      simpa using this
    have hdr : all.drop (k + 1) = r := by rw [← List.drop_drop, hd]; rfl
    simp only [opsS] at h
    rcases hb : inB n.n o.dst with _ | _
    · rw [hb] at h; exact h.elim
    rw [hb] at h
    simp only [cond_true] at h
    simp only [List.length_cons, List.range'_succ, wpOps, List.getElem?_toArray, hk]
    obtain ⟨F', hF', _, h⟩ := gdS_ok hF h
    replace hF := hF'
    rcases h with ⟨hw, h⟩ | ⟨hw, h⟩
    · rw [if_pos hw]
      refine Or.inl (Oper.wp_up (opS_ok hc hF hS h) fun a' w' hp => ?_)
      obtain ⟨v, σ', rfl, hp⟩ := hp
      exact opsS_ok hc r (k + 1) hdr _ _ _ _ ((hF.ext hp.ext).put hb hp.ok) hp.st hp.k
    · rw [if_neg (by rw [hw]; simp)]
      exact opsS_ok hc r (k + 1) hdr _ _ _ _ (hF.put hb (undef_ok _)) hS h
theorem StR.of {kv : Nat → Bool} {σ0 σ : Hs} (hS : St σ w) (hk : KpW (some kv) σ0 σ) : StR kv σ0 w := by
  obtain ⟨h1, h2, h3, h4⟩ := hk
  refine ⟨fun j e hj he => hS.sat e (List.mem_of_getElem? (h3 j e hj he)), ?_⟩
  have := hS.fp
  rw [h1, h2] at this
  refine this.mono fun i hi q => ?_
  rcases q with q | ⟨e, he, rfl⟩
  · exact Or.inl q
  · rcases h4 e he with ⟨f, hf, hb⟩ | hb
    · exact Or.inr ⟨f, hf, hb⟩
    · omega
theorem rd_ok {L : Hp} {r : TR} {cs : List CV} {o : Nat} {v : SV} (hl : ∀ x ∈ cs, x.ok L) (h : rdS r cs o = some v) : v.ok L := by
  unfold rdS at h
  rcases ha : r.d.agg with _ | _
  · rw [ha] at h
    rcases hs : r.d.sure with _ | _
    · rw [hs] at h; cases h
    · rw [hs] at h
      simp only [cond_false, cond_true] at h
      split at h
      · rename_i hx; obtain rfl := Option.some.inj h; exact ok_getD hl hx
      · cases h
  · rw [ha] at h
    simp only [cond_true] at h
    split at h
    · rename_i hx
      obtain rfl := Option.some.inj h
      obtain ⟨rfl, _⟩ := takeN_ok hx
      exact fun x hx => hl x (List.mem_of_mem_drop (List.mem_of_mem_take hx))
    · cases h
theorem take_ok (hc : CxOk P tb fo) {kv : Nat → Bool} {σ0 : Hs} (hm : ∀ j, kv j = true → j < σ0.L.length) (hF : FrOk n a σ.L F) (hok : ∀ e ∈ σ.L, ∀ x ∈ e.cs, x.ok σ.L) (hk : KpW (some kv) σ0 σ) (hx : Ext σ0.L σ.L) {o : Oper} {K : SV → Prop} (h : takeS P tb n kv σ0 o F σ K) :
    ∃ v, (∀ w, StR kv σ0 w → (execOp a.eval o).run P w = .ok (.value v.den) w) ∧ v.ok σ.L ∧ K v := by
  unfold takeS at h
  rcases hq : effS tb F σ.L o.op with _ | v | ⟨j, L'⟩ | ⟨cs, T⟩ | ⟨cs, T, m⟩
  · rw [hq] at h
    simp only at h
    rcases hr : rdN tb F σ K o.op with _ | p
    · rw [hr] at h
      obtain ⟨v, h1, h2, h3⟩ := h.out
      exact ⟨v, h1 a hF, h2, h3⟩
    · rw [hr] at h
      obtain ⟨v, h1, h2, h3⟩ := rdN_ok (P := P) hc.tb hF hr h
      refine ⟨v, fun w hw => h1 w ?_, h2, h3⟩
      rw [hk.1, hk.2.1]
      refine hw.2.mono fun i _ hi => ?_
      rcases hi with hi | ⟨e, he, rfl⟩
      · exact Or.inl hi
      · obtain ⟨j, hj⟩ := List.mem_iff_getElem?.1 he
        obtain ⟨f, h5, h6, _⟩ := hx j e hj
        exact Or.inr ⟨f, List.mem_of_getElem? h5, h6⟩
  · rw [hq] at h
    simp only at h
    rcases hl : ldIn kv F o.op with _ | _
    · rw [hl] at h; exact h.elim
    rw [hl] at h
    simp only [cond_true] at h
    obtain ⟨dst, op, ty, pos, after, gu⟩ := o
    simp only at hq hl
    have ld : ∀ {T : TypeId} {x : Operand} {r : TR} {y : SV} {j b u o : Nat}, op = .load T x → tbl tb T = some r → evO F x = some y → y.den = .pointer (some ⟨b, u + o, none⟩) → (∃ e : Blk, σ.L[j]? = some e ∧ e.b = b ∧ e.u = u) →
        kv j = true → ldS r σ.L j o = .val v → ∃ v, (∀ w, StR kv σ0 w → (execOp a.eval ⟨dst, op, ty, pos, after, gu⟩).run P w = .ok (.value v.den) w) ∧ v.ok σ.L ∧ K v := by
      intro T x r y j b u o hop hr hy hd hj hlj hv
      subst hop
      obtain ⟨e, he, rfl, rfl⟩ := hj
      unfold ldS at hv
      rw [he] at hv
      simp only at hv
      rcases hu : e.T.isC with _ | _
      · rw [hu] at hv; cases hv
      rw [hu] at hv
      simp only [cond_true] at hv
      rcases hrd : rdS r e.cs o with _ | v'
      · rw [hrd] at hv; cases hv
      rw [hrd] at hv
      cases hv
      have hme := List.mem_of_getElem? he
      have h0 : σ0.L[j]? = some e := by
        obtain ⟨f, hf⟩ : ∃ f, σ0.L[j]? = some f := ⟨_, List.getElem?_eq_getElem (hm j hlj)⟩
        have := hk.2.2.1 j f hlj hf
        rw [he] at this
        rw [hf, this]
      refine ⟨v, fun w hw => ?_, ?_, h⟩
      · have := run_loadVar_cv (P := P) (L := σ.L) (tbl_ok hc.tb hr) (hw.1 j e hlj h0) hu (hok e hme) hrd
        simp only [execOp, (evO_ok hF hy).1, hd, Instr.loadAt, Instr.sureAddr, Sem.run_bind, Sem.run_pure, Result.andThen_ok, this.1]
      · exact rd_ok (hok e hme) hrd
    unfold effS at hq
    split at hq
    · split at hq
      · rename_i r j b o hr hx
        refine ld rfl hr hx (b := b) (u := 0) (by simp [SV.den, EV.den, CV.den]) ((evO_ok hF hx).2) ?_ hq
        simpa only [ldIn, hx] using hl
      · rename_i r j b u o hr hx
        refine ld rfl hr hx rfl ((evO_ok hF hx).2) ?_ hq
        simpa only [ldIn, hx] using hl
      · cases hq
    · split at hq
      · rename_i r j b o v hr hx hz
        rcases stS_cases r σ.L j o v with q | ⟨_, _, q⟩ <;> rw [q] at hq <;> cases hq
      · rename_i r j b u o v hr hx hz
        rcases stS_cases r σ.L j o v with q | ⟨_, _, q⟩ <;> rw [q] at hq <;> cases hq
      · cases hq
    · split at hq
      · rename_i r _
        rcases hzl : Nat.beq r.zero.length r.size with _ | _ <;> rw [hzl] at hq <;> cases hq
      · cases hq
    · split at hq
      · split at hq <;> cases hq
      · cases hq
    · rename_i T ps
      rcases hbd : buildS tb F T ps.toList with _ | v'
      · rw [hbd] at hq; cases hq
      · rw [hbd] at hq
        cases hq
        have hb := fun w => build_case (P := P) (w := w) (dst := dst) (ty := ty) (pos := pos) (after := after) (g := gu) hc.tb hF (T := T) (ps := ps)
        simp only [hbd] at hb
        exact ⟨v, fun w _ => (hb w).1, (hb default).2, h⟩
    · exact absurd hq bsS_nv
    · rename_i fn first cap
      have hb := fun w => mf_case (P := P) (w := w) (σ := σ) (dst := dst) (ty := ty) (pos := pos) (after := after) (g := gu) hF (fn := fn) (first := first) (cap := cap)
      split at hq
      · rename_i x y hx' hy'
        cases hq
        simp only [hx', hy'] at hb
        exact ⟨_, fun w _ => (hb w).1, (hb default).2, h⟩
      · cases hq
    · rcases hp : pureS tb F op with _ | v'
      · rw [hp] at hq; cases hq
      · rw [hp] at hq
        cases hq
        have hb := fun w => pureS_ok (P := P) (w := w) (o := ⟨dst, op, ty, pos, after, gu⟩) hc.tb hF hp
        exact ⟨v, fun w _ => (hb w).1, (hb default).2, h⟩
  · rw [hq] at h; exact h.elim
  · rw [hq] at h; exact h.elim
  · rw [hq] at h; exact h.elim
theorem step_ok {all : List Oper} {i : Nat} {yes no : Oper → Fr → Prop} (hF : FrOk n a σ.L F) (h : stepS n all i F yes no) :
    ∃ o F', all[i]? = some o ∧ inB n.n o.dst = true ∧ FrOk n a σ.L F' ∧ (∀ t, look F t = none → look F' t = none) ∧ ((Region.wanted o (yielded all.toArray a.tmps) = true ∧ yes o F') ∨ (Region.wanted o (yielded all.toArray a.tmps) = false ∧ no o F')) := by
  unfold stepS at h
  rcases ho : all[i]? with _ | o
  · rw [ho] at h; exact h.elim
  rw [ho] at h
  simp only at h
  rcases hb : inB n.n o.dst with _ | _
  · rw [hb] at h; exact h.elim
  rw [hb] at h
  obtain ⟨F', hF', hl, h⟩ := gdS_ok hF h
  exact ⟨o, F', rfl, hb, hF', hl, h⟩
theorem plan_ok (hc : CxOk P tb fo) {all : List Oper} {kv : Nat → Bool} {σ0 : Hs} (hm : ∀ j, kv j = true → j < σ0.L.length) (hs : Region.noSelect all.toArray = true) {z : Option Nat} {Q : Exit → Fr → Hs → Prop} : ∀ (p : Pl) (ls : Array Bool) (rs : List Nat) (fuel : Nat) (a : Act) (w : World) (F : Fr) (σ : Hs), DC .any all.toArray ls → (rs.all fun i => (Region.ready .any all.toArray ls).contains i) = true → p.depth ≤ fuel → planOk all.toArray z none p ls rs = true → FrOk n a σ.L F → St σ w → KpW (some kv) σ0 σ → Ext σ0.L σ.L →
    planS P tb fo n all kv σ0 (Q .normal) p F σ → (rs = Region.ready .any all.toArray ls → wpAnyK P .any all.toArray (Rz n Q) (StR kv σ0) z fuel ls a w) ∧ ((∀ i r, p ≠ .t i r ∧ p ≠ .z i r) → ∀ i ∈ rs, ∃ f, fuel = f + 1 ∧ wpOp P all.toArray (Rz n Q) i (fun a' w' => (z ≠ some i → StR kv σ0 w') ∧ wpAnyK P .any all.toArray (Rz n Q) (StR kv σ0) z f (ls.setIfInBounds i true) a' w') a w) := by
  have rdy : ∀ (ls : Array Bool), ((Region.ready .any all.toArray ls).all fun i => (Region.ready .any all.toArray ls).contains i) = true := fun ls => List.all_eq_true.2 fun i hi => by simpa using hi
  have ofc : ∀ {ls : Array Bool} {i : Nat} {rs : List Nat}, (rs.all fun i => (Region.ready .any all.toArray ls).contains i) = true → i ∈ rs → i ∈ Region.ready .any all.toArray ls := fun h hi => by simpa using List.all_eq_true.1 h _ hi
  intro p
  induction p with
  | nil =>
    intro ls rs fuel a w F σ hd hrs hf hp hF hS hk hx h
    have hrs : rs = [] := by simpa [planOk] using hp
    subst hrs
    exact ⟨fun hr => wpAnyK_done hr.symm ⟨F, σ, hF, hS, h⟩ fuel, fun _ i hi => by cases hi⟩
  | l i =>
    intro ls rs fuel a w F σ hd hrs hf hp hF hS hk hx h
    obtain ⟨fuel, rfl⟩ : ∃ f, fuel = f + 1 := ⟨fuel - 1, by simp only [Pl.depth] at hf; omega⟩
    simp only [planOk, Bool.and_eq_true, beq_iff_eq] at hp
    obtain ⟨⟨rfl, rfl⟩, h3⟩ := hp
    have hdone : Region.ready .any all.toArray (ls.setIfInBounds i true) = [] := by simpa using h3
    have key : ∀ j ∈ [i], wpOp P all.toArray (Rz n Q) j (fun a' w' => (some i ≠ some j → StR kv σ0 w') ∧ wpAnyK P .any all.toArray (Rz n Q) (StR kv σ0) (some i) fuel (ls.setIfInBounds j true) a' w') a w := by
      intro j hj
      obtain rfl := List.mem_singleton.1 hj
      obtain ⟨o, F', ho, hb, hF', _, h⟩ := step_ok hF h
      have hoi : all.toArray[j]? = some o := by simpa using ho
      unfold wpOp
      simp only [hoi]
      rcases h with ⟨hw, h⟩ | ⟨hw, h⟩
      · rw [if_pos hw]
        refine Or.inl (Oper.wp_up (opS_ok hc hF' hS h) fun a' w' hp => ?_)
        obtain ⟨v, σ', rfl, hp⟩ := hp
        exact ⟨fun q => absurd rfl q, wpAnyK_done hdone ⟨_, σ', (hF'.ext hp.ext).put hb hp.ok, hp.st, hp.k⟩ fuel⟩
      · rw [if_neg (by rw [hw]; simp)]
        exact ⟨fun q => absurd rfl q, wpAnyK_done hdone ⟨_, σ, hF'.put hb (undef_ok _), hS, h⟩ fuel⟩
    exact ⟨fun hr => wpAnyK_all hr.symm (by simp) key, fun _ j hj => ⟨fuel, rfl, key j hj⟩⟩
  | t i r ih =>
    intro ls rs fuel a w F σ hd hrs hf hp hF hS hk hx h
    refine ⟨fun hr => ?_, fun q => absurd rfl (q i r).1⟩
    obtain ⟨fuel, rfl⟩ : ∃ f, fuel = f + 1 := ⟨fuel - 1, by simp only [Pl.depth] at hf; omega⟩
    have hf' : r.depth ≤ fuel := by simpa [Pl.depth] using hf
    simp only [planOk, Bool.and_eq_true] at hp
    obtain ⟨⟨⟨⟨h0, h1⟩, _⟩, h2⟩, h3⟩ := hp
    have hR := StR.of hS hk
    obtain ⟨o, F', ho, hb, hF', _, h⟩ := step_ok hF h
    have hoi : all.toArray[i]? = some o := by simpa using ho
    subst hr
    have hz : ∀ k, z = some k → k ≠ i ∧ ancB .any all.toArray i 8 k = true := fun k hk' => by
      subst hk'
      simp only [lastB, Bool.and_eq_true, Bool.not_eq_true'] at h0
      exact ⟨fun q => by subst q; simp at h0, h0.2⟩
    have hd' := hd.set (i := i) (by simpa using h1)
    rcases h with ⟨hw, h⟩ | ⟨hw, h⟩
    · obtain ⟨v, hv, hvo, hK⟩ := take_ok hc hm hF' hS.ok hk hx h
      exact wpAnyK_take hoi hd hs h2 h1 (fun _ _ _ q => q) hz (Or.inl ⟨hw, hv⟩) hR ((ih _ _ fuel _ _ _ _ hd' (rdy _) hf' h3 (hF'.put hb hvo) hS hk hx hK).1 rfl)
    · exact wpAnyK_take hoi hd hs h2 h1 (fun _ _ _ q => q) hz (Or.inr ⟨hw, rfl⟩) hR ((ih _ _ fuel _ _ _ _ hd' (rdy _) hf' h3 (hF'.put hb (undef_ok _)) hS hk hx h).1 rfl)
  | x i r ih =>
    intro ls rs fuel a w F σ hd hrs hf hp hF hS hk hx h
    obtain ⟨fuel, rfl⟩ : ∃ f, fuel = f + 1 := ⟨fuel - 1, by simp only [Pl.depth] at hf; omega⟩
    have hf' : r.depth ≤ fuel := by simpa [Pl.depth] using hf
    simp only [planOk, Bool.and_eq_true, beq_iff_eq] at hp
    obtain ⟨⟨rfl, _⟩, h3⟩ := hp
    have hR := StR.of hS hk
    have key : ∀ j ∈ [i], wpOp P all.toArray (Rz n Q) j (fun a' w' => (z ≠ some j → StR kv σ0 w') ∧ wpAnyK P .any all.toArray (Rz n Q) (StR kv σ0) z fuel (ls.setIfInBounds j true) a' w') a w := by
      intro j hj
      have hd' := hd.set (ofc hrs hj)
      obtain rfl := List.mem_singleton.1 hj
      obtain ⟨o, F', ho, hb, hF', _, h⟩ := step_ok hF h
      have hoi : all.toArray[j]? = some o := by simpa using ho
      unfold wpOp
      simp only [hoi]
      rcases h with ⟨hw, h⟩ | ⟨hw, h⟩
      · rw [if_pos hw]
        refine Or.inl (Oper.wp_up (opS_ok hc hF' hS h) fun a' w' hp => ?_)
        obtain ⟨v, σ', rfl, hp⟩ := hp
        have hk' := hk.trans hp.kp
        exact ⟨fun _ => StR.of hp.st hk', (ih _ _ fuel _ _ _ _ hd' (rdy _) hf' h3 ((hF'.ext hp.ext).put hb hp.ok) hp.st hk' (hx.trans hp.ext) hp.k).1 rfl⟩
      · rw [if_neg (by rw [hw]; simp)]
        exact ⟨fun _ => hR, (ih _ _ fuel _ _ _ _ hd' (rdy _) hf' h3 (hF'.put hb (undef_ok _)) hS hk hx h).1 rfl⟩
    exact ⟨fun hr => wpAnyK_all hr.symm (by simp) key, fun _ j hj => ⟨fuel, rfl, key j hj⟩⟩
  | b i r s ih ih2 =>
    intro ls rs fuel a w F σ hd hrs hf hp hF hS hk hx h
    have hfr : r.depth + 1 ≤ fuel := Nat.le_trans (Nat.le_max_left _ _) hf
    have hfs : s.depth ≤ fuel := Nat.le_trans (Nat.le_max_right _ _) hf
    obtain ⟨fuel, rfl⟩ : ∃ f, fuel = f + 1 := ⟨fuel - 1, by omega⟩
    have hf' : r.depth ≤ fuel := by omega
    simp only [planOk, Bool.and_eq_true] at hp
    obtain ⟨⟨_, hp1⟩, h3⟩ := hp
    have hR := StR.of hS hk
    have hp4 : ∃ k q, rs = i :: k :: q ∧ planOk all.toArray z none s ls (k :: q) = true ∧ ∀ i' r', s ≠ .t i' r' ∧ s ≠ .z i' r' := by
      split at hp1 <;> first | (cases hp1; done) | skip
      · simp only [Bool.and_eq_true] at hp1
        obtain ⟨hij, hp2⟩ := hp1
        obtain rfl := Nat.eq_of_beq_eq_true hij
        exact ⟨_, _, rfl, hp2, fun _ _ => ⟨(fun q => by cases q), (fun q => by cases q)⟩⟩
      · simp only [Bool.and_eq_true] at hp1
        obtain ⟨hij, hp2⟩ := hp1
        obtain rfl := Nat.eq_of_beq_eq_true hij
        exact ⟨_, _, rfl, hp2, fun _ _ => ⟨(fun q => by cases q), (fun q => by cases q)⟩⟩
    obtain ⟨k, q, rfl, hp2, hnt⟩ := hp4
    have hrs2 : ((k :: q).all fun i => (Region.ready .any all.toArray ls).contains i) = true := by
      simp only [List.all_cons, Bool.and_eq_true] at hrs ⊢
      exact hrs.2
    have hrest := (ih2 ls (k :: q) (fuel + 1) a w F σ hd hrs2 hfs hp2 hF hS hk hx h.r).2 hnt
    have key : ∀ j ∈ i :: k :: q, wpOp P all.toArray (Rz n Q) j (fun a' w' => (z ≠ some j → StR kv σ0 w') ∧ wpAnyK P .any all.toArray (Rz n Q) (StR kv σ0) z fuel (ls.setIfInBounds j true) a' w') a w := by
      intro j hj
      have hd' := hd.set (ofc hrs hj)
      rcases List.mem_cons.1 hj with rfl | hj
      · obtain ⟨o, F', ho, hb, hF', _, h⟩ := step_ok hF h.l
        have hoi : all.toArray[j]? = some o := by simpa using ho
        unfold wpOp
        simp only [hoi]
        rcases h with ⟨hw, h⟩ | ⟨hw, h⟩
        · rw [if_pos hw]
          refine Or.inl (Oper.wp_up (opS_ok hc hF' hS h) fun a' w' hp => ?_)
          obtain ⟨v, σ', rfl, hp⟩ := hp
          have hk' := hk.trans hp.kp
          exact ⟨fun _ => StR.of hp.st hk', (ih _ _ fuel _ _ _ _ hd' (rdy _) hf' h3 ((hF'.ext hp.ext).put hb hp.ok) hp.st hk' (hx.trans hp.ext) hp.k).1 rfl⟩
        · rw [if_neg (by rw [hw]; simp)]
          exact ⟨fun _ => hR, (ih _ _ fuel _ _ _ _ hd' (rdy _) hf' h3 (hF'.put hb (undef_ok _)) hS hk hx h).1 rfl⟩
      · obtain ⟨f, hfe, hq⟩ := hrest j hj
        obtain rfl : fuel = f := by omega
        exact hq
    exact ⟨fun hr => wpAnyK_all hr.symm (by simp) key, fun _ j hj => ⟨fuel, rfl, key j hj⟩⟩
  | z i r ih =>
    intro ls rs fuel a w F σ hd hrs hf hp hF hS hk hx h
    refine ⟨fun hr => ?_, fun q => absurd rfl (q i r).2⟩
    simp only [planOk, Bool.and_eq_true, beq_iff_eq] at hp
    obtain ⟨⟨⟨rfl, rfl⟩, h1⟩, h2⟩ := hp
    exact h.out Q (fun F σ q => q) hs hm ls fuel a w hd (by simpa using h1) hf h2 hF hS hk hx
/-- The first blocks, but some. -/
def kvL (m : Nat) (l : List Nat) (j : Nat) : Bool := Nat.blt j m && !(l.any (Nat.beq j))
theorem kvL_lt {m : Nat} {l : List Nat} (j : Nat) (h : kvL m l j = true) : j < m := by
  simp only [kvL, Bool.and_eq_true, Nat.blt_eq] at h
  exact h.1
/-- A piece of code that this text does not know: a loop, a region that draws its order. -/
structure CodeN (P : Program) (n : Nz) (c : Code) (Q : Exit → Fr → Hs → Prop) (F : Fr) (σ : Hs) : Prop where
  out : ∀ a w, FrOk n a σ.L F → St σ w → c.wp P (Rz n Q) a w
theorem St.drew (hS : St σ w) : St σ w.drew := ⟨hS.sat, hS.ok, hS.nd, hS.lt, hS.fp.drew⟩
/-- A region that draws its order; some known blocks are kept. -/
theorem reg_any (hc : CxOk P tb fo) {ops : Array Oper} {Q : Exit → Fr → Hs → Prop} (p : Pl) (kv : Nat → Bool) (hm : ∀ j, kv j = true → j < σ.L.length) (hp : planAll ops p = true) (h : planS P tb fo n ops.toList kv σ (Q .normal) p F σ) {a : Act} {w : World} (hF : FrOk n a σ.L F) (hS : St σ w) : wpAny P .any ops (Rz n Q) ops.size (Array.replicate ops.size false) a w.drew := by
  simp only [planAll, Bool.and_eq_true, Nat.ble_eq] at hp
  obtain ⟨⟨h1, h2⟩, h3⟩ := hp
  refine wpAny_of_K (S := StR kv σ) (z := p.last) _ _ _ _ ?_
  have := (plan_ok (n := n) (kv := kv) hc (σ0 := σ) hm (all := ops.toList) (by simpa using h2) (z := p.last) p (Array.replicate ops.size false) _ ops.size a w.drew F σ (by simpa using DC.init (md := .any) (ops := ops)) (List.all_eq_true.2 fun i hi => by simpa using hi) h1 (by simpa using h3) hF hS.drew (KpW.refl _ _) (Ext.refl _) h).1 rfl
  simpa using this
theorem reg_kv (hc : CxOk P tb fo) {ops : Array Oper} {id : Nat} {Q : Exit → Fr → Hs → Prop} (p : Pl) (kv : Nat → Bool) (hm : ∀ j, kv j = true → j < σ.L.length) (hp : planAll ops p = true) (h : planS P tb fo n ops.toList kv σ (Q .normal) p F σ) : CodeN P n (.region id ops true) Q F σ :=
  ⟨fun a w hF hS => wp_region_any hc.mx (reg_any hc p kv hm hp h hF hS)⟩
theorem reg_go (hc : CxOk P tb fo) {ops : Array Oper} {id : Nat} {Q : Exit → Fr → Hs → Prop} (p : Pl) (l : List Nat) (hp : planAll ops p = true) (h : planS P tb fo n ops.toList (kvL σ.L.length l) σ (Q .normal) p F σ) : CodeN P n (.region id ops true) Q F σ :=
  reg_kv hc p _ kvL_lt hp h
end
end
end Go.Proofs.YthmokdfigjffjaaGreatDoor

namespace Go.Proofs.YthmokdfigjffjaaGreatDoor
set_option linter.unusedVariables false
set_option linter.unusedSimpArgs false
open Go.RowKit
noncomputable section

def thenS (N : Fr → Hs → Prop) (Q : Exit → Fr → Hs → Prop) : Exit → Fr → Hs → Prop
  | .normal => N
  | e => Q e
def blkS (id : Nat) (Q : Exit → Fr → Hs → Prop) : Exit → Fr → Hs → Prop
  | .exit i => bif Nat.beq i id then Q .normal else Q (.exit i)
  | e => Q e
section
variable (P : Program) (tb : Tbx) (fo : Fo) (n : Nz)
def wpS : Code → (Exit → Fr → Hs → Prop) → Fr → Hs → Prop
  | .skip, Q, F, σ => Q .normal F σ
  | .label _, Q, F, σ => Q .normal F σ
  | .seq x y, Q, F, σ => wpS x (thenS (wpS y Q) Q) F σ
  | .cond c x y, Q, F, σ => match evO F c with
    | some (.e (.c .tt)) => wpS x Q F σ
    | some (.e (.c .ff)) => wpS y Q F σ
    | some (.e (.c (.b t))) => Br t (wpS x Q F σ) (wpS y Q F σ)
    | _ => False
  | .block id c, Q, F, σ => wpS c (blkS id Q) F σ
  | .exit id, Q, F, σ => Q (.exit id) F σ
  | .ret, Q, F, σ => Q .ret F σ
  | .region id ops draw, Q, F, σ => bif draw then CodeN P n (.region id ops true) Q F σ else opsS P tb fo n ops.toList (Q .normal) ops.toList F σ
  | c, Q, F, σ => CodeN P n c Q F σ
/-- What a function returns. -/
structure FinN (σ : Hs) (v : SV) (R : Ending → World → Prop) : Prop where
  out : ∀ w, St σ w → R (.returned v.den) w
def resS (F : Fr) (L : Hp) : List ResultVar → Option (List EV)
  | [] => some []
  | .tmp t :: r => match look F t, resS F L r with
    | some (.e x), some l => some (x :: l)
    | _, _ => none
  | .cell t T :: r => match look F t, tbl tb T, resS F L r with
    | some (.e (.c (.p j _ o))), some ty, some l => match ldS ty L j o with
      | .val (.e x) => some (x :: l)
      | _ => none
    | _, _, _ => none
def finS (rs : List ResultVar) (R : Ending → World → Prop) : Exit → Fr → Hs → Prop
  | .normal, F, σ => match resS tb F σ.L rs with
    | some [x] => FinN σ (.e x) R
    | some l => FinN σ (.t l) R
    | none => False
  | .ret, F, σ => match resS tb F σ.L rs with
    | some [x] => FinN σ (.e x) R
    | some l => FinN σ (.t l) R
    | none => False
  | _, _, _ => False
end
def argF : Nat → List SV → Fr
  | _, [] => []
  | k, x :: l => (k, x) :: argF (k + 1) l
section
variable {P : Program} {tb : Tbx} {fo : Fo} {n : Nz} {a : Act} {w : World} {F : Fr} {σ : Hs}
theorem wpS_ok (hc : CxOk P tb fo) : ∀ (c : Code) (Q : Exit → Fr → Hs → Prop) (a : Act) (w : World) (F : Fr) (σ : Hs), FrOk n a σ.L F → St σ w → wpS P tb fo n c Q F σ → c.wp P (Rz n Q) a w := by
  intro c
  induction c with
  | skip => exact fun Q a w F σ hF hS h => wp_skip ⟨F, σ, hF, hS, h⟩
  | label l => exact fun Q a w F σ hF hS h => wp_label ⟨F, σ, hF, hS, h⟩
  | exit id => exact fun Q a w F σ hF hS h => wp_exit ⟨F, σ, hF, hS, h⟩
  | ret => exact fun Q a w F σ hF hS h => wp_ret ⟨F, σ, hF, hS, h⟩
  | seq x y hx hy =>
    intro Q a w F σ hF hS h
    refine wp_seq (wp_mono (hx _ a w F σ hF hS h) fun e a' w' he => ?_)
    cases e with
    | normal => obtain ⟨F', σ', h1, h2, h3⟩ := he; exact hy Q _ _ F' σ' h1 h2 h3
    | panic ch => exact he.elim
    | outgrown => exact he.elim
    | _ => exact he
  | cond t x y hx hy =>
    intro Q a w F σ hF hS h
    simp only [wpS] at h
    split at h
    · rename_i hb; exact wp_cond_true ((evO_ok hF hb).1) (hx Q a w F σ hF hS h)
    · rename_i hb; exact wp_cond_false ((evO_ok hF hb).1) (hy Q a w F σ hF hS h)
    · rename_i b hb
      exact wp_cond_split (t := b) ((evO_ok hF hb).1) (fun q => hx Q a w F σ hF hS (h.t q)) (fun q => hy Q a w F σ hF hS (h.f q))
    · exact h.elim
  | block id c hx =>
    intro Q a w F σ hF hS h
    refine wp_block (wp_mono (hx _ a w F σ hF hS h) fun e a' w' he => ?_)
    cases e with
    | exit i =>
      obtain ⟨F', σ', h1, h2, h3⟩ := he
      simp only [blkS] at h3
      simp only [Exit.inBlock]
      rcases hb : Nat.beq i id with _ | _
      · rw [hb] at h3
        have : i ≠ id := fun q => by subst q; simp at hb
        rw [if_neg this]
        exact ⟨F', σ', h1, h2, h3⟩
      · rw [hb] at h3
        have : i = id := by simpa using hb
        rw [if_pos this]
        exact ⟨F', σ', h1, h2, h3⟩
    | panic ch => exact he.elim
    | outgrown => exact he.elim
    | _ => exact he
  | region id ops draw =>
    intro Q a w F σ hF hS h
    simp only [wpS] at h
    cases draw with
    | true => exact h.out a w hF hS
    | false =>
      refine wp_region ?_
      have := opsS_ok (n := n) hc (all := ops.toList) (Q := Q) ops.toList 0 rfl a w F σ hF hS h
      rw [List.range_eq_range']
      simpa using this
  | _ => exact fun Q a w F σ hF hS h => h.out a w hF hS
theorem argF_ok : ∀ (az : List SV) (k t : Nat) (x : SV), look (argF k az) t = some x → ∃ i, t = k + i ∧ az[i]? = some x
  | [], _, _, _, h => by simp [argF, look_nil, look_cons] at h
  | y :: az, k, t, x, h => by
    simp only [argF, look_cons] at h
    rcases hb : Nat.beq k t with _ | _
    · rw [hb] at h
      obtain ⟨i, rfl, hi⟩ := argF_ok az (k + 1) t x h
      exact ⟨i + 1, by omega, by simpa using hi⟩
    · rw [hb] at h
      obtain rfl : k = t := by simpa using hb
      exact ⟨0, rfl, by simpa using h⟩
def resV (tmps : Array Value) : ResultVar → Sem Value
  | .tmp t => pure (tmps.getD t undef)
  | .cell x t => do loadVar t (← asAddr (tmps.getD x undef))
theorem resS_ok (hT : TbOk P tb) (hF : FrOk n a σ.L F) (hS : St σ w) : ∀ {rs : List ResultVar} {l : List EV}, resS tb F σ.L rs = some l → (rs.mapM (resV a.tmps)).run P w = .ok (l.map EV.den) w
  | [], l, h => by obtain rfl := Option.some.inj h; rfl
  | .tmp t :: r, l, h => by
    simp only [resS] at h
    split at h <;> first | (cases h; done) | skip
    rename_i x l' hx hl
    obtain rfl := Option.some.inj h
    have := (hF.at_ t _ hx).1
    have h1 : (resV a.tmps (.tmp t)).run P w = .ok x.den w := by simp [resV, this, SV.den]
    have ih := resS_ok hT hF hS hl
    rw [List.mapM_cons]
    simp only [Sem.run_bind, h1, Sem.run_pure, Result.andThen_ok, ih]
    rfl
  | .cell t T :: r, l, h => by
    simp only [resS] at h
    split at h <;> first | (cases h; done) | skip
    rename_i j b o ty l' hx ht hl
    split at h <;> first | (cases h; done) | skip
    rename_i x hld
    obtain rfl := Option.some.inj h
    obtain ⟨h1, h2⟩ := hF.at_ t _ hx
    have hrun := (ldS_ok hT hS ht (b := b) (u := 0) h2 hld).1
    rw [Nat.zero_add] at hrun
    have e : (SV.e (.c (.p j b o))).den = .pointer (some ⟨b, o, none⟩) := rfl
    rw [e] at h1
    have h3 : (resV a.tmps (.cell t T)).run P w = .ok x.den w := by simpa [resV, h1, asAddr, SV.den] using hrun
    have ih := resS_ok hT hF hS hl
    rw [List.mapM_cons]
    simp only [Sem.run_bind, h3, Sem.run_pure, Result.andThen_ok, ih]
    rfl
theorem fin_ok (hT : TbOk P tb) (hF : FrOk n a σ.L F) (hS : St σ w) {fn : Func} {R : Ending → World → Prop}
    (h : match resS tb F σ.L fn.results.toList with | some [x] => FinN σ (.e x) R | some l => FinN σ (.t l) R | none => False) : a.defers = n.ds ∧ ∃ v, (results fn a.tmps).run P w = .ok v w ∧ R (.returned v) w := by
  refine ⟨hF.defers, ?_⟩
  have key : ∀ l, resS tb F σ.L fn.results.toList = some l → (results fn a.tmps).run P w = .ok (if h : (l.map EV.den).toArray.size = 1 then (l.map EV.den).toArray[0] else .tuple (l.map EV.den).toArray) w := fun l hl => by
    have := resS_ok (a := a) hT hF hS hl
    have e : results fn a.tmps = (do
      let vs ← fn.results.mapM (resV a.tmps)
      pure (if h : vs.size = 1 then vs[0] else .tuple vs)) := by
      unfold results
      congr 2
    rw [e, Sem.run_bind, Array.mapM_eq_mapM_toList]
    simp only [Sem.run_map, Sem.run_pure, Result.andThen_ok, this]
  split at h
  · rename_i x hx
    exact ⟨_, key _ hx, by simpa [SV.den] using h.out w hS⟩
  · rename_i l hl hx
    refine ⟨_, key _ hx, ?_⟩
    have hne : ¬ (l.map EV.den).toArray.size = 1 := by
      simp only [List.size_toArray, List.length_map]
      intro q
      obtain ⟨x, rfl⟩ := List.length_eq_one_iff.1 q
      exact hl x rfl
    rw [dif_neg hne]
    exact h.out w hS
  · exact h.elim
theorem fr0 {m : Nat} (az : List SV) (hl : az.length ≤ m) {L : Hp} (ho : ∀ x ∈ az, x.ok L) : FrOk ⟨m, []⟩ { tmps := (az.map SV.den).toArray ++ Array.replicate (m - (az.map SV.den).toArray.size) undef, defers := [] } L (argF 0 az) := by
  refine ⟨by simp; omega, rfl, fun t x hx => ?_⟩
  obtain ⟨i, rfl, hi⟩ := argF_ok az 0 t x hx
  have hlt := (List.getElem?_eq_some_iff.1 hi).1
  refine ⟨?_, ho x (List.mem_of_getElem? hi)⟩
  rw [Nat.zero_add, Array.getElem?_append_left (by simpa using hlt)]
  simp [hi]
theorem bodyPost_of (hT : TbOk P tb) {m : Nat} {fn : Func} {R : Ending → World → Prop} {e : Exit} {a : Act} {w : World} (he : Rz ⟨m, []⟩ (finS tb fn.results.toList R) e a w) : bodyPost P fn R e a w := by
  cases e with
  | normal => obtain ⟨F', σ', h1, h2, h3⟩ := he; exact fin_ok hT h1 h2 h3
  | ret => obtain ⟨F', σ', h1, h2, h3⟩ := he; exact fin_ok hT h1 h2 h3
  | panic ch => exact he.elim
  | outgrown => exact he.elim
  | exit i => obtain ⟨F', σ', h1, h2, h3⟩ := he; exact h3.elim
  | goto i => obtain ⟨F', σ', h1, h2, h3⟩ := he; exact h3.elim
/-- A function's contract. -/
theorem enterS (hc : CxOk P tb fo) {m : Nat} {f : FuncId} {fn : Func} {c : Code} {R : Ending → World → Prop} (hf : P.funcs[f]? = some fn) (hb : fn.body = some c) (hn : fn.ntmps = m) {rs : List ResultVar} (hr : fn.results.toList = rs) (az : List SV) (σ : Hs) (hS : St σ w) (ho : ∀ x ∈ az, x.ok σ.L) (hlb : Nat.ble az.length m = true)
    (h : wpS P tb fo ⟨m, []⟩ c (finS tb rs R) (argF 0 az) σ) : Calls P f (az.map SV.den).toArray w R := by
  subst hr hn
  exact calls_of_wp hf hb (wp_mono (wpS_ok hc c _ _ w (argF 0 az) σ (fr0 az (Nat.le_of_ble_eq_true hlb) ho) hS h) fun e a' w' he => bodyPost_of hc.tb he)
end
end
end Go.Proofs.YthmokdfigjffjaaGreatDoor

namespace Go.Proofs.YthmokdfigjffjaaGreatDoor
set_option linter.unusedVariables false
set_option linter.unusedSimpArgs false
open Go.RowKit
noncomputable section

theorem St.fpp {σ : Hs} {w w' : World} (h : St σ w) (hp : Fp (fun _ => False) w w') : St σ w' :=
  ⟨fun e he => Blk.keep (h.sat e he) (hp.block _ (h.lt e he) id), h.ok, h.nd, fun e he => Nat.lt_of_lt_of_le (h.lt e he) hp.size, h.fp.trans hp (fun _ _ q => q.elim)⟩
/-- From here on the world at hand is the first one. -/
theorem St.base {σ : Hs} {w : World} (h : St σ w) (S : Nat → Prop) : St ⟨σ.L, S, w⟩ w := ⟨h.sat, h.ok, h.nd, h.lt, Fp.refl _ _⟩
theorem St.start {L : Hp} {S : Nat → Prop} {w : World} (hs : ∀ e ∈ L, e.sat w ∧ e.b < w.heap.size ∧ ∀ x ∈ e.cs, x.ok L) (hn : (L.map Blk.b).Nodup) : St ⟨L, S, w⟩ w :=
  ⟨fun e he => (hs e he).1, fun e he => (hs e he).2.2, Apart.of hn, fun e he => (hs e he).2.1, Fp.refl _ _⟩
theorem St.nil {S : Nat → Prop} {w : World} : St ⟨[], S, w⟩ w := ⟨(fun e he => by cases he), (fun e he => by cases he), Apart.nil, (fun e he => by cases he), Fp.refl _ _⟩
section
variable {P : Program} {tb : Tbx} {fo : Fo} {n : Nz} {σ : Hs} {W : Wk} {K : SV → Hs → Prop} {f : FuncId} {az : List SV}
/-- A call that tells a value, and writes nothing that there was. -/
theorem call1 {v : Value} (h : ∀ w, St σ w → Calls P f (az.map SV.den).toArray w (Ret1 v w)) (sv : SV) (hv : sv.den = v) (ho : sv.ok σ.L) (k : K sv σ) : CallN P f az W σ K :=
  ⟨fun w hS _ => (h w hS).mono fun e w' he => ⟨sv, σ, by rw [he.1, hv], ho, Ext.refl _, hS.fpp he.2, KpW.refl _ _, k⟩⟩
theorem call1v {v : Value} (h : ∀ w, St σ w → Calls P f (az.map SV.den).toArray w (Ret1 v w)) (ho : wfV v = true) (k : K (ofSV v) σ) : CallN P f az W σ K := call1 h (ofSV v) (den_ofSV v) (ok_ofSV _ ho) k
/-- Likewise, and something is known of the value. -/
theorem callX {C : SV → Prop} (h : ∀ w, St σ w → Calls P f (az.map SV.den).toArray w fun e w' => ∃ v, e = .returned v.den ∧ v.ok σ.L ∧ C v ∧ Fp (fun _ => False) w w') (k : ∀ v, C v → K v σ) : CallN P f az W σ K :=
  ⟨fun w hS _ => (h w hS).mono fun _ _ ⟨v, he, ho, hc, hp⟩ => ⟨v, σ, he, ho, Ext.refl _, hS.fpp hp, KpW.refl _ _, k v hc⟩⟩
end
/-- A state is one of another description. -/
def Sub (n : Nz) (F : Fr) (σ : Hs) (F2 : Fr) (σ2 : Hs) : Prop := ∀ a w, FrOk n a σ.L F → St σ w → FrOk n a σ2.L F2 ∧ St σ2 w
def frSub (F : Fr) (L2 : Hp) : Fr → Prop
  | [] => True
  | (t, x) :: r => (∃ y, look F t = some y ∧ y.den = x.den ∧ x.ok L2) ∧ frSub F L2 r
theorem frSub_ok {n : Nz} {a : Act} {L L2 : Hp} {F : Fr} (hF : FrOk n a L F) : ∀ {F2 : Fr}, frSub F L2 F2 → FrOk n a L2 F2
  | [], _ => ⟨hF.size, hF.defers, fun t x h => by simp [look_nil, look_cons] at h⟩
  | (t, x) :: r, ⟨⟨y, h1, h2, h3⟩, hr⟩ => by
    have ih := frSub_ok hF hr
    refine ⟨hF.size, hF.defers, fun u z hz => ?_⟩
    simp only [look_cons] at hz
    rcases hb : Nat.beq t u with _ | _
    · rw [hb] at hz; exact ih.at_ u z hz
    · rw [hb] at hz
      obtain rfl : t = u := by simpa using hb
      obtain rfl : x = z := by simpa using hz
      exact ⟨by rw [(hF.at_ t y h1).1, h2], h3⟩
/-- Which of the first blocks are az they were ('true'), and that all others are new. -/
def eqM (w : World) : List Bool → Hp → Hp → Prop
  | true :: ms, e :: L, e' :: L' => (e = e' ∧ e.T.isO = true) ∧ eqM w ms L L'
  | false :: ms, e :: L, e' :: L' => e.b = e'.b ∧ eqM w ms L L'
  | _, [], L' => ∀ e ∈ L', w.heap.size ≤ e.b
  | _, _, _ => False
def chB : List Bool → Hp → List Nat
  | false :: ms, e :: L => e.b :: chB ms L
  | true :: ms, _ :: L => chB ms L
  | _, _ => []
theorem eqM_ok {w0 w w1 : World} : ∀ {ms : List Bool} {L L' : Hp}, eqM w0 ms L L' → (∀ e ∈ L, e.sat w) → (∀ e ∈ L', e.sat w1) → ∀ e' ∈ L', w0.heap.size ≤ e'.b ∨ e'.b ∈ chB ms L ∨ w1.heap[e'.b]? = w.heap[e'.b]?
  | true :: ms, e :: L, e' :: L', h, hs, hs', f, hf => by
    obtain ⟨⟨rfl, hT⟩, hr⟩ := h
    rcases List.mem_cons.1 hf with rfl | hf
    · refine Or.inr (Or.inr ?_)
      have h1 := hs f (List.mem_cons_self ..)
      have h2 := hs' f (List.mem_cons_self ..)
      obtain ⟨b, u, cs, T⟩ := f
      cases T with
      | obj T => exact h2.1.trans h1.1.symm
      | _ => cases hT
    · exact eqM_ok hr (fun e he => hs e (List.mem_cons_of_mem _ he)) (fun e he => hs' e (List.mem_cons_of_mem _ he)) f hf
  | false :: ms, e :: L, e' :: L', h, hs, hs', f, hf => by
    obtain ⟨hb, hr⟩ := h
    rcases List.mem_cons.1 hf with rfl | hf
    · exact Or.inr (Or.inl (by rw [← hb]; exact List.mem_cons_self ..))
    · rcases eqM_ok hr (fun e he => hs e (List.mem_cons_of_mem _ he)) (fun e he => hs' e (List.mem_cons_of_mem _ he)) f hf with q | q | q
      · exact Or.inl q
      · exact Or.inr (Or.inl (List.mem_cons_of_mem _ q))
      · exact Or.inr (Or.inr q)
  | true :: _, [], _, h, _, _, f, hf => Or.inl (h f hf)
  | false :: _, [], _, h, _, _, f, hf => Or.inl (h f hf)
  | [], [], _, h, _, _, f, hf => Or.inl (h f hf)
  | [], _ :: _, _, h, _, _, _, _ => h.elim
  | true :: _, _ :: _, [], h, _, _, _, _ => h.elim
  | false :: _, _ :: _, [], h, _, _, _, _ => h.elim
/-- What was written between two worlds. -/
theorem St.out {L L' : Hp} {S : Nat → Prop} {w w1 : World} (h0 : St ⟨L, S, w⟩ w) (h1 : St ⟨L', S, w⟩ w1) (ms : List Bool) (hm : eqM w ms L L') : Fp (fun k => S k ∨ k ∈ chB ms L) w w1 :=
  ⟨h1.fp.os, h1.fp.tape, h1.fp.output, h1.fp.size, fun k hk hn => by
    by_cases hq : ∃ e ∈ L', e.b = k
    · obtain ⟨e, he, rfl⟩ := hq
      rcases eqM_ok hm h0.sat h1.sat e he with q | q | q
      · omega
      · exact absurd (Or.inr q) hn
      · exact q
    · exact h1.fp.block k hk (fun q => q.elim (fun q => hn (Or.inl q)) hq)⟩
theorem St.low {L L' : Hp} {w w1 : World} (h0 : St ⟨L, fun _ => False, w⟩ w) (h1 : St ⟨L', fun _ => False, w⟩ w1) (ms : List Bool) (hm : eqM w ms L L') (hc : chB ms L = []) : Fp (fun _ => False) w w1 :=
  (St.out h0 h1 ms hm).mono fun k _ q => q.elim id (fun q => by rw [hc] at q; cases q)
/-- Nothing is known here, nothing else is written. -/
abbrev s0 (w : World) : Hs := ⟨[], fun _ => False, w⟩
theorem st0 (w : World) : St (s0 w) w := St.nil
theorem St.now {w w1 : World} (h : St (s0 w) w1) : NoW w w1 := h.fp.mono fun k _ q => q.elim id fun ⟨e, he, _⟩ => by cases he
section
variable {P : Program} {σ : Hs} {W : Wk} {K : SV → Hs → Prop} {f : FuncId} {az : List SV}
end
theorem okA {b o : Nat} {L : Hp} : (SV.e (.c (.v (.pointer (some ⟨b, o, none⟩))))).ok L := rfl
theorem okc {L : Hp} {x : SV} {l : List SV} (h : x.ok L) (k : ∀ y ∈ l, y.ok L) : ∀ y ∈ x :: l, y.ok L := fun y hy => (List.mem_cons.1 hy).elim (fun e => e ▸ h) (k y)
theorem okn {L : Hp} : ∀ y ∈ ([] : List SV), y.ok L := fun y hy => by cases hy
/-- All known blocks are new. -/
def New (w : World) (L : Hp) : Prop := ∀ e ∈ L, w.heap.size ≤ e.b
theorem New.nil {w : World} : New w [] := fun e he => by cases he
theorem New.cons {w : World} {e : Blk} {L : Hp} (h : w.heap.size ≤ e.b) (k : New w L) : New w (e :: L) := fun f hf => (List.mem_cons.1 hf).elim (fun q => q ▸ h) (k f)
theorem newb {w : World} {b u : Nat} {cs : List CV} {T : BK} {L : Hp} (h : w.heap.size ≤ b) (k : New w L) : New w (⟨b, u, cs, T⟩ :: L) := New.cons h k
theorem St.nw {L : Hp} {w w1 : World} (h : St ⟨L, fun _ => False, w⟩ w1) (hn : New w L) : NoW w w1 :=
  ⟨h.fp.os, h.fp.tape, h.fp.output, h.fp.size, fun k hk _ => h.fp.block k hk fun q => q.elim id fun ⟨e, h1, h2⟩ => by have := hn e h1; omega⟩
theorem finw {w : World} {L : Hp} (hn : New w L) {v : SV} {u : Value} (h : v.den = u) : FinN ⟨L, fun _ => False, w⟩ v (Ret1 u w) := ⟨fun _ hS => ⟨by rw [h], hS.nw hn⟩⟩
/-- New blocks are forgotten. -/
theorem St.drop {L M : Hp} {S : Nat → Prop} {w0 w : World} (h : St ⟨L ++ M, S, w0⟩ w) (hn : New w0 M) (hok : ∀ e ∈ L, ∀ x ∈ e.cs, x.ok L) : St ⟨L, S, w0⟩ w :=
  ⟨fun e he => h.sat e (List.mem_append_left _ he), hok, (fun i j e f hi hj => h.nd i j e f (by rw [List.getElem?_append_left (List.getElem?_eq_some_iff.1 hi).1]; exact hi) (by rw [List.getElem?_append_left (List.getElem?_eq_some_iff.1 hj).1]; exact hj)), fun e he => h.lt e (List.mem_append_left _ he),
   ⟨h.fp.os, h.fp.tape, h.fp.output, h.fp.size, fun k hk hq => h.fp.block k hk fun q => by
    rcases q with q | ⟨e, he, rfl⟩
    · exact hq (Or.inl q)
    · rcases List.mem_append.1 he with he | he
      · exact hq (Or.inr ⟨e, he, rfl⟩)
      · have h1 : w0.heap.size ≤ e.b := hn e he
        have h2 : e.b < w0.heap.size := hk
        omega⟩⟩
theorem Sub.mk {n : Nz} {F F2 : Fr} {σ σ2 : Hs} (h1 : ∀ w, St σ w → St σ2 w) (h2 : frSub F σ2.L F2) : Sub n F σ F2 σ2 := fun _ w hF hS => ⟨frSub_ok hF h2, h1 w hS⟩
theorem St.blk {L : Hp} {w2 w3 : World} (h : St ⟨L, fun _ => False, w2⟩ w3) {b : Nat} {o : Obj} (hb : w2.heap[b]? = some o) (hL : ∀ e ∈ L, e.b ≠ b) : w3.heap[b]? = some o :=
  (h.fp.block b (Array.getElem?_eq_some_iff.1 hb).1 fun q => q.elim id fun ⟨e, h1, h2⟩ => hL e h1 h2).trans hb
theorem New.ne {w : World} {L : Hp} (hn : New w L) {b : Nat} {o : Obj} (hb : w.heap[b]? = some o) : ∀ e ∈ L, e.b ≠ b := fun e he q => by
  have h1 := hn e he
  have h2 := (Array.getElem?_eq_some_iff.1 hb).1
  omega
theorem New.low {w w' : World} {L : Hp} (hn : New w L) (h : w'.heap.size ≤ w.heap.size) : New w' L := fun e he => Nat.le_trans h (hn e he)
end
end Go.Proofs.YthmokdfigjffjaaGreatDoor
