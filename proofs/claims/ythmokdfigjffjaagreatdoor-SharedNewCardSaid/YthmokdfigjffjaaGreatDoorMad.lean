/- Texts of this proof, merged: Sxg. -/
import Derived.Test.YthmokdfigjffjaaGreatDoorMac
namespace Go.Proofs.YthmokdfigjffjaaGreatDoor
set_option linter.unusedVariables false
set_option linter.unusedSimpArgs false
open Go.RowKit
noncomputable section

def enterOk (P : Program) (f : Nat) : Bool :=
  match P.funcs[f]? with
  | some fn => fn.body.isSome && !(fn.name == "runtime.NumGoroutine")
  | none => false
/-- Functions that have a text: those below the first number, but some. -/
abbrev Fo := Nat × List Nat
def fnS (fo : Fo) (f : Nat) : Bool := Nat.blt f fo.1 && !(fo.2.any (Nat.beq f))
structure CxOk (P : Program) (tb : Tbx) (fo : Fo) : Prop where
  tb : TbOk P tb
  fn : (List.range fo.1).all (fun f => fo.2.any (Nat.beq f) || enterOk P f) = true
  mx : P.follows .mixedOrders = true
theorem CxOk.enter {P : Program} {tb : Tbx} {fo : Fo} (h : CxOk P tb fo) {f : Nat} (hf : fnS fo f = true) : ∃ fn, P.funcs[f]? = some fn ∧ fn.body.isSome = true ∧ (fn.name == "runtime.NumGoroutine") = false := by
  simp only [fnS, Bool.and_eq_true, Nat.blt_eq, Bool.not_eq_true'] at hf
  have h1 := List.all_eq_true.1 h.fn f (List.mem_range.2 hf.1)
  simp only [hf.2, Bool.false_or] at h1
  unfold enterOk at h1
  split at h1
  · rename_i fn hfn
    simp only [Bool.and_eq_true, Bool.not_eq_true'] at h1
    exact ⟨fn, hfn, h1.1, h1.2⟩
  · cases h1
/-- What stays in a region that draws its order: some of its blocks. -/
abbrev Wk := Option (Nat → Bool)
def KpW : Wk → Hs → Hs → Prop
  | none, _, _ => True
  | some kv, σ, σ' => σ'.w0 = σ.w0 ∧ σ'.S = σ.S ∧ (∀ (j : Nat) (e : Blk), kv j = true → σ.L[j]? = some e → σ'.L[j]? = some e) ∧ ∀ e ∈ σ'.L, (∃ f ∈ σ.L, f.b = e.b) ∨ σ.w0.heap.size ≤ e.b
theorem KpW.refl (W : Wk) (σ : Hs) : KpW W σ σ := by
  cases W with
  | none => trivial
  | some p => exact ⟨rfl, rfl, fun _ _ _ h => h, fun e he => Or.inl ⟨e, he, rfl⟩⟩
theorem KpW.trans {W : Wk} {a b c : Hs} (h : KpW W a b) (k : KpW W b c) : KpW W a c := by
  cases W with
  | none => trivial
  | some p =>
    obtain ⟨h1, h2, h3, h4⟩ := h
    obtain ⟨k1, k2, k3, k4⟩ := k
    refine ⟨k1.trans h1, k2.trans h2, fun j e hj he => k3 j e hj (h3 j e hj he), fun e he => ?_⟩
    rcases k4 e he with ⟨f, hf, hb⟩ | hb
    · rcases h4 f hf with ⟨g, hg, hgb⟩ | hg
      · exact Or.inl ⟨g, hg, hgb.trans hb⟩
      · exact Or.inr (hb ▸ hg)
    · exact Or.inr (h1 ▸ hb)
structure Pst (W : Wk) (σ : Hs) (K : SV → Hs → Prop) (v : SV) (σ' : Hs) (w' : World) : Prop where
  ok : v.ok σ'.L
  ext : Ext σ.L σ'.L
  st : St σ' w'
  kp : KpW W σ σ'
  k : K v σ'
/-- A call: to be met by a contract. -/
structure CallN (P : Program) (f : FuncId) (az : List SV) (W : Wk) (σ : Hs) (K : SV → Hs → Prop) : Prop where
  out : ∀ w, St σ w → (∀ x ∈ az, x.ok σ.L) → Calls P f (az.map SV.den).toArray w fun e w' => ∃ v σ', e = .returned v.den ∧ Pst W σ K v σ' w'
/-- An operation that this text does not know. -/
structure RawN (P : Program) (n : Nz) (o : Oper) (F : Fr) (W : Wk) (σ : Hs) (K : SV → Hs → Prop) : Prop where
  out : ∀ a w, FrOk n a σ.L F → St σ w → o.wp P a w (fun a' w' => ∃ v σ', a' = a.put o.dst v.den ∧ Pst W σ K v σ' w') (fun _ _ _ => False)
/-- A test. -/
structure Br (b : Bool) (T E : Prop) : Prop where
  t : b = true → T
  f : b = false → E
theorem Br.yes {b : Bool} {T E : Prop} (h : b = true) (k : T) : Br b T E := ⟨fun _ => k, (fun q => by rw [h] at q; cases q)⟩
theorem Br.no {b : Bool} {T E : Prop} (h : b = false) (k : E) : Br b T E := ⟨(fun q => by rw [h] at q; cases q), fun _ => k⟩
def undefV : SV := .t []
def okU : Wk → Nat → Bool
  | none, _ => true
  | some kv, j => !(kv j)
def evL (F : Fr) : List Operand → Option (List SV)
  | [] => some []
  | x :: l => match evO F x, evL F l with
    | some y, some r => some (y :: r)
    | _, _ => none
def calleeS (F : Fr) : Operand → Option (Nat × List SV × List SV)
  | .func g => some (g, [], [])
  | x => match evO F x with
    | some (.e (.c (.v (.func (.func g) first cap)))) => bif first.toList.all wfV && cap.toList.all wfV then some (g, first.toList.map ofSV, cap.toList.map ofSV) else none
    | some (.e (.c (.f g fs cs))) => some (g, fs.map fun x => .e (.c (.p x.1 x.2.1 x.2.2)), cs.map fun x => .e (.c (.p x.1 x.2.1 x.2.2)))
    | _ => none
/-- A place in a row: a number of a list of so many. -/
structure IdxN (i : Int) (len : Nat) (K : Nat → Prop) : Prop where
  out : ∃ j : Nat, i = j ∧ j < len ∧ K j
/-- A byte of a text. -/
structure ByteN (s : ByteArray) (i : Int) (K : UInt8 → Prop) : Prop where
  out : ∃ j : Nat, i = j ∧ ∃ h : j < s.size, K s[j]
/-- Where a part begins, and ends. -/
structure CutN (lo hi : Option Int) (len cap : Nat) (K : Nat → Nat → Prop) : Prop where
  out : ∃ l h : Nat, lo.getD 0 = l ∧ hi.getD len = h ∧ l ≤ h ∧ h ≤ cap ∧ K l h
/-- A variable in a block that is not known here: what it held in the first world. -/
structure LdN (σ : Hs) (b o n : Nat) (K : List CV → Prop) : Prop where
  out : ∃ cs : List CV, cs.length = n ∧ (∀ (k : Nat) (x : CV), cs[k]? = some x → σ.w0.cell? ⟨b, o + k, none⟩ = some x.den) ∧ b < σ.w0.heap.size ∧ ¬ σ.S b ∧ (∀ e ∈ σ.L, e.b ≠ b) ∧ (∀ x ∈ cs, x.ok σ.L) ∧ K cs
/-- A store into a block that is not known here. -/
structure StN (W : Wk) (σ : Hs) (b o : Nat) (vs : List CV) (K : Hs → Prop) : Prop where
  out : ∀ w, St σ w → (∀ k, k < vs.length → (w.cell? ⟨b, o + k, none⟩).isSome = true ∧ w.frozen? ⟨b, o + k, none⟩ = false) ∧ ∃ σ', St σ' (stW w b o (vs.map CV.den)) ∧ Ext σ.L σ'.L ∧ KpW W σ σ' ∧ K σ'
def stN (tb : Tbx) (F : Fr) (W : Wk) (σ : Hs) (K : Hs → Prop) : Op → Option Prop
  | .store T x y => match tbl tb T, evO F x, evO F y with
    | some r, some (.e (.c (.v (.pointer (some ⟨g, o, none⟩))))), some y => (match valsE y with
      | some vs => bif Nat.beq vs.length r.size then some (StN W σ g o vs K) else none
      | none => none)
    | _, _, _ => none
  | _ => none
def optI (F : Fr) : Option Operand → Option (Option Int)
  | none => some none
  | some x => match evO F x with
    | some (.e (.c (.i _ m))) => some (some m)
    | _ => none
/-- Operations that read, or reckon, by what must be shown. -/
def rdN (tb : Tbx) (F : Fr) (σ : Hs) (K : SV → Prop) : Op → Option Prop
  | .indexAddr T x i => match tbl tb T, evO F x, evO F i with
    | some ⟨.slice e, _, _⟩, some (.e (.c (.v (.slice (some ⟨g, o, none⟩) len _)))), some (.e (.c (.i _ m))) => (match tbl tb e with
      | some r => some (IdxN m len fun j => K (.e (.c (.v (.pointer (some ⟨g, o + j * r.size, none⟩))))))
      | none => none)
    | some ⟨.slice e, _, _⟩, some (.e (.c (.s p g o len _))), some (.e (.c (.i _ m))) => (match tbl tb e with
      | some r => some (IdxN m len fun j => K (.e (.c (.p p g (o + j * r.size)))))
      | none => none)
    | some ⟨.slice e, _, _⟩, some (.e (.c (.gs p g o _ len _ _))), some (.e (.c (.i _ m))) => (match tbl tb e with
      | some r => some (IdxN m len fun j => K (.e (.c (.p p g (o + j * r.size)))))
      | none => none)
    | some ⟨.array n e, _, _⟩, some y, some (.e (.c (.i _ m))) => (match tbl tb e, atS y 0 with
      | some r, some _ => some (IdxN m n fun j => ∃ v, atS y (j * r.size) = some v ∧ K v)
      | _, _ => none)
    | _, _, _ => none
  | .load T x => match tbl tb T, evO F x with
    | some r, some (.e (.c (.v (.pointer (some ⟨g, o, none⟩))))) => bif r.d.agg then some (LdN σ g o r.size fun cs => K (.e (.a cs))) else bif r.d.sure then some (LdN σ g o 1 fun cs => ∃ x, cs = [x] ∧ K (.e (.c x))) else none
    | _, _ => none
  | .index T x i => match tbl tb T, evO F x, evO F i with
    | some ⟨.str, _, _⟩, some (.e (.c (.v (.string s)))), some (.e (.c (.i _ m))) => some (ByteN s m fun b => K (cI .u8 b.toNat))
    | _, _, _ => none
  | .slice T x lo hi none => match tbl tb T, evO F x, optI F lo, optI F hi with
    | some ⟨.str, _, _⟩, some (.e (.c (.v (.string s)))), some l, some h => some (CutN l h s.size s.size fun l h => K (.e (.c (.v (.string (s.extract l h))))))
    | some ⟨.slice e, _, _⟩, some (.e (.c (.v (.slice (some ⟨g, o, none⟩) len cap)))), some l, some h => (match tbl tb e with
      | some r => some (CutN l h len cap fun l h => ∀ o', (l < cap → o' = o + l * r.size) → K (.e (.c (.v (.slice (some ⟨g, o', none⟩) (h - l) (cap - l))))))
      | none => none)
    | some ⟨.slice e, _, _⟩, some (.e (.c (.s p g o len cap))), some l, some h => (match tbl tb e with
      | some r => some (CutN l h len cap fun l h => ∀ o', (l < cap → o' = o + l * r.size) → K (.e (.c (.s p g o' (h - l) (cap - l)))))
      | none => none)
    | some ⟨.slice e, _, _⟩, some (.e (.c (.gs p g o z len k x))), some l, some h => (match tbl tb e with
      | some r => bif Nat.beq z r.size then some (CutN l h len k fun l h => ∀ o', (l < k → o' = o + l * r.size) → K (.e (.c (.gs p g o' z (h - l) (k - l) x)))) else none
      | none => none)
    | some ⟨.array n e, _, _⟩, some (.e (.c (.v (.pointer (some ⟨g, o, none⟩))))), some l, some h => (match tbl tb e with
      | some r => some (CutN l h n n fun l h => ∀ o', (l < n → o' = o + l * r.size) → K (.e (.c (.v (.slice (some ⟨g, o', none⟩) (h - l) (n - l))))))
      | none => none)
    | some ⟨.array n e, _, _⟩, some (.e (.c (.p p g o))), some l, some h => (match tbl tb e with
      | some r => some (CutN l h n n fun l h => ∀ o', (l < n → o' = o + l * r.size) → K (.e (.c (.s p g o' (h - l) (n - l)))))
      | none => none)
    | _, _, _, _ => none
  | _ => none
section
variable (P : Program) (tb : Tbx) (fo : Fo) (n : Nz)
def callS (o : Oper) (F : Fr) (W : Wk) (σ : Hs) (K : SV → Hs → Prop) : Prop :=
  match o.op with
  | .call ⟨.value f, az, _⟩ => match calleeS F f, evL F az.toList with
    | some (g, first, cap), some l => bif fnS fo g then CallN P g (first ++ l ++ cap) W σ K else RawN P n o F W σ K
    | _, _ => RawN P n o F W σ K
  | .pick c x y => match evO F c, evO F x, evO F y with
    | some (.e (.c .tt)), some x, _ => K x σ
    | some (.e (.c .ff)), _, some y => K y σ
    | some (.e (.c (.b t))), some x, some y => Br t (K x σ) (K y σ)
    | _, _, _ => RawN P n o F W σ K
  | _ => RawN P n o F W σ K
def opS (o : Oper) (F : Fr) (W : Wk) (σ : Hs) (K : SV → Hs → Prop) : Prop :=
  match effS tb F σ.L o.op with
  | .val v => K v σ
  | .upd j L' => bif okU W j then K undefV ⟨L', σ.S, σ.w0⟩ else False
  | .new cs T => ∀ b, σ.w0.heap.size ≤ b → K (.e (.c (.p σ.L.length b 0))) ⟨σ.L ++ [⟨b, 0, cs, .obj T⟩], σ.S, σ.w0⟩
  | .newS cs T m => ∀ b, σ.w0.heap.size ≤ b → K (.e (.c (.s σ.L.length b 0 m m))) ⟨σ.L ++ [⟨b, 0, cs, .obj T⟩], σ.S, σ.w0⟩
  | .no => match rdN tb F σ (fun v => K v σ) o.op with
    | some p => p
    | none => match stN tb F W σ (fun σ' => K undefV σ') o.op with
      | some p => p
      | none => callS P fo n o F W σ K
end
section
variable {P : Program} {tb : Tbx} {fo : Fo} {n : Nz} {a : Act} {w : World} {F : Fr} {σ : Hs} {W : Wk} {K : SV → Hs → Prop}
theorem evL_ok (hF : FrOk n a σ.L F) : ∀ {l : List Operand} {r : List SV}, evL F l = some r → l.map a.eval = r.map SV.den
  | [], r, h => by obtain rfl := Option.some.inj h; rfl
  | x :: l, r, h => by
    simp only [evL] at h
    split at h <;> first | (cases h; done) | skip
    rename_i y r' hy hr
    obtain rfl := Option.some.inj h
    simp [(evO_ok hF hy).1, evL_ok hF hr]
theorem map_ofSV (l : List Value) : (l.map ofSV).map SV.den = l := by rw [List.map_map, map_same (f := SV.den ∘ ofSV) den_ofSV]
theorem calleeS_ok (hF : FrOk n a σ.L F) {x : Operand} {g : Nat} {first cap : List SV} (h : calleeS F x = some (g, first, cap)) : a.eval x = .func (.func g) (first.map SV.den).toArray (cap.map SV.den).toArray := by
  unfold calleeS at h
  split at h
  · cases h; rfl
  · split at h <;> first | (cases h; done) | skip
    · rename_i g' fs cs hx
      rcases hb : fs.toList.all wfV && cs.toList.all wfV with _ | _
      · rw [hb] at h; cases h
      rw [hb] at h
      cases h
      rw [(evO_ok hF hx).1, map_ofSV, map_ofSV]; rfl
    · rename_i hx
      cases h
      rw [(evO_ok hF hx).1, List.map_map, List.map_map]; rfl
theorem evL_all (hF : FrOk n a σ.L F) : ∀ {l : List Operand} {r : List SV}, evL F l = some r → ∀ x ∈ r, x.ok σ.L
  | [], r, h => by obtain rfl := Option.some.inj h; exact fun x hx => by cases hx
  | x :: l, r, h => by
    simp only [evL] at h
    split at h <;> first | (cases h; done) | skip
    rename_i y r' hy hr
    obtain rfl := Option.some.inj h
    exact fun z hz => (List.mem_cons.1 hz).elim (fun q => q ▸ (evO_ok hF hy).2) (evL_all hF hr z)
theorem calleeS_all (hF : FrOk n a σ.L F) {x : Operand} {g : Nat} {first cap : List SV} (h : calleeS F x = some (g, first, cap)) : (∀ y ∈ first, y.ok σ.L) ∧ ∀ y ∈ cap, y.ok σ.L := by
  unfold calleeS at h
  split at h
  · cases h; exact ⟨(fun y hy => by cases hy), (fun y hy => by cases hy)⟩
  · split at h <;> first | (cases h; done) | skip
    · rename_i g' fs cs hx
      rcases hb : fs.toList.all wfV && cs.toList.all wfV with _ | _
      · rw [hb] at h; cases h
      rw [hb] at h
      cases h
      simp only [Bool.and_eq_true, List.all_eq_true] at hb
      refine ⟨fun y hy => ?_, fun y hy => ?_⟩
      · obtain ⟨z, hz, rfl⟩ := List.mem_map.1 hy; exact ok_ofSV _ (hb.1 z hz)
      · obtain ⟨z, hz, rfl⟩ := List.mem_map.1 hy; exact ok_ofSV _ (hb.2 z hz)
    · rename_i hx
      cases h
      refine ⟨fun y hy => ?_, fun y hy => ?_⟩
      · obtain ⟨z, hz, rfl⟩ := List.mem_map.1 hy
        exact (evO_ok hF hx).2 z (List.mem_append_left _ hz)
      · obtain ⟨z, hz, rfl⟩ := List.mem_map.1 hy
        exact (evO_ok hF hx).2 z (List.mem_append_right _ hz)
theorem callS_ok (hc : CxOk P tb fo) (hF : FrOk n a σ.L F) (hS : St σ w) {o : Oper} (h : callS P fo n o F W σ K) :
    o.wp P a w (fun a' w' => ∃ v σ', a' = a.put o.dst v.den ∧ Pst W σ K v σ' w') (fun _ _ _ => False) := by
  obtain ⟨dst, op, ty, pos, after, gu⟩ := o
  unfold callS at h
  simp only at h
  split at h
  · rename_i f az ts
    split at h
    · rename_i g first cap l hg hl
      rcases hf : fnS fo g with _ | _
      · rw [hf] at h; exact h.out a w hF hS
      rw [hf] at h
      obtain ⟨fn, h1, h2, h3⟩ := hc.enter hf
      have hn : fn.body.isNone = false := by rw [Option.isNone_eq_false_iff]; exact h2
      have hargs : az.toList.map a.eval = l.map SV.den := evL_ok hF hl
      have hrun : (execOp a.eval ⟨dst, .call ⟨.value f, az, ts⟩, ty, pos, after, gu⟩).run P w = .ok (.enter g ((first ++ l ++ cap).map SV.den).toArray) w := by
        simp only [execOp, resolve, calleeS_ok hF hg, Deferred.ofValue, Sem.run_bind, Sem.run_pure, Result.andThen_ok, invoke, callFunc, run_program, h1, h3, hn, Bool.false_eq_true, if_false]
        congr 2
        apply Array.ext'
        simp [hargs]
      rw [Oper.wp, hrun]
      refine (h.out w hS fun y hy => by
        rcases List.mem_append.1 hy with hy | hy
        · rcases List.mem_append.1 hy with hy | hy
          · exact (calleeS_all hF hg).1 y hy
          · exact evL_all hF hl y hy
        · exact (calleeS_all hF hg).2 y hy).mono fun e w' hp => ?_
      obtain ⟨v, σ', rfl, hp⟩ := hp
      exact ⟨v, σ', rfl, hp⟩
    · exact h.out a w hF hS
  · rename_i c x y
    have run : ∀ t, a.eval c = .bool t → (Oper.wp P ⟨dst, .pick c x y, ty, pos, after, gu⟩ a w (fun a' w' => ∃ v σ', a' = a.put dst v.den ∧ Pst W σ K v σ' w') (fun _ _ _ => False) ↔ ∃ v σ', a.put dst (if t then a.eval x else a.eval y) = a.put dst v.den ∧ Pst W σ K v σ' w) := by
      intro t ht
      rw [Oper.wp]
      simp only [execOp, ht, asBool, Sem.run_bind, Sem.run_pure, Result.andThen_ok, Oper.upon]
    split at h
    · rename_i u ht hx
      have e2 := evO_ok hF hx
      exact (run true (evO_ok hF ht).1).2 ⟨u, σ, by simp [e2.1], e2.2, Ext.refl _, hS, KpW.refl _ _, h⟩
    · rename_i u ht hx
      have e2 := evO_ok hF hx
      exact (run false (evO_ok hF ht).1).2 ⟨u, σ, by simp [e2.1], e2.2, Ext.refl _, hS, KpW.refl _ _, h⟩
    · rename_i t u v ht hx hy
      have e2 := evO_ok hF hx
      have e3 := evO_ok hF hy
      cases t
      · exact (run false (evO_ok hF ht).1).2 ⟨v, σ, by simp [e3.1], e3.2, Ext.refl _, hS, KpW.refl _ _, h.f rfl⟩
      · exact (run true (evO_ok hF ht).1).2 ⟨u, σ, by simp [e2.1], e2.2, Ext.refl _, hS, KpW.refl _ _, h.t rfl⟩
    · exact h.out a w hF hS
  · exact h.out a w hF hS
theorem run_bounds {b : Bool} {len cap : Nat} {lo hi : Option Value} {l h : Nat} {x y : Option Int} (hlo : ∀ v, lo = some v → ∃ k m, v = .int k m ∧ x = some m) (hln : lo = none → x = none) (hhi : ∀ v, hi = some v → ∃ k m, v = .int k m ∧ y = some m) (hhn : hi = none → y = none)
    (h1 : x.getD 0 = l) (h2 : y.getD len = h) (h3 : l ≤ h) (h4 : h ≤ cap) : (Instr.sliceBounds b len cap lo hi none).run P w = .ok (l, h, cap) w := by
  unfold Instr.sliceBounds
  rcases lo with _ | v <;> rcases hi with _ | u
  · have e1 := hln rfl; have e2 := hhn rfl; subst e1; subst e2
    obtain rfl : l = 0 := by simp at h1; omega
    obtain rfl : h = len := by simp at h2; omega
    simp
  · have e1 := hln rfl; subst e1
    obtain ⟨k, m, rfl, rfl⟩ := hhi u rfl
    obtain rfl : l = 0 := by simp at h1; omega
    obtain rfl : m = (h : Int) := h2
    simp [Instr.sliceBound, asIntOf, h4]
  · have e2 := hhn rfl; subst e2
    obtain ⟨k, m, rfl, rfl⟩ := hlo v rfl
    obtain rfl : h = len := by simp at h2; omega
    obtain rfl : m = (l : Int) := h1
    simp [Instr.sliceBound, asIntOf, h3]
  · obtain ⟨k, m, rfl, rfl⟩ := hlo v rfl
    obtain ⟨k', m', rfl, rfl⟩ := hhi u rfl
    obtain rfl : m = (l : Int) := h1
    obtain rfl : m' = (h : Int) := h2
    simp [Instr.sliceBound, asIntOf, h3, h4]
theorem run_strCut {T : TypeId} {s : ByteArray} {lo hi : Option Value} {l h : Nat} {x y : Option Int} (hu : P.underlying T = some .string) (hlo : ∀ v, lo = some v → ∃ k m, v = .int k m ∧ x = some m) (hln : lo = none → x = none) (hhi : ∀ v, hi = some v → ∃ k m, v = .int k m ∧ y = some m) (hhn : hi = none → y = none)
    (h1 : x.getD 0 = l) (h2 : y.getD s.size = h) (h3 : l ≤ h) (h4 : h ≤ s.size) : (Instr.sliceAt T (.string s) lo hi none).run P w = .ok (.string (s.extract l h)) w := by
  have hb := run_bounds (P := P) (w := w) (b := false) hlo hln hhi hhn h1 h2 h3 h4
  simp only [Instr.sliceAt, Sem.run_bind, run_underlying hu, Result.andThen_ok, Instr.slice, Option.isSome_none, Bool.false_eq_true, if_false, hb, Sem.run_pure]
theorem run_slCut {T e : TypeId} {r : TR} {a : Addr} {len cap : Nat} {lo hi : Option Value} {l h : Nat} {x y : Option Int} (hu : P.underlying T = some (.slice e)) (he : vr P e = some r) (hlo : ∀ v, lo = some v → ∃ k m, v = .int k m ∧ x = some m) (hln : lo = none → x = none) (hhi : ∀ v, hi = some v → ∃ k m, v = .int k m ∧ y = some m) (hhn : hi = none → y = none)
    (h1 : x.getD 0 = l) (h2 : y.getD len = h) (h3 : l ≤ h) (h4 : h ≤ cap) : (Instr.sliceAt T (.slice (some a) len cap) lo hi none).run P w = .ok (.slice (some (if cap = l then a else a.add (l * r.size))) (h - l) (cap - l)) w := by
  have hb := run_bounds (P := P) (w := w) (b := true) hlo hln hhi hhn h1 h2 h3 h4
  simp only [Instr.sliceAt, Sem.run_bind, run_underlying hu, Result.andThen_ok, Instr.slice, hb, run_sizeOf he, Sem.run_pure]
  split <;> rfl
theorem run_arCut {T e : TypeId} {r : TR} {a : Addr} {n : Nat} {lo hi : Option Value} {l h : Nat} {x y : Option Int} (hu : P.underlying T = some (.array n e)) (he : vr P e = some r) (hlo : ∀ v, lo = some v → ∃ k m, v = .int k m ∧ x = some m) (hln : lo = none → x = none) (hhi : ∀ v, hi = some v → ∃ k m, v = .int k m ∧ y = some m) (hhn : hi = none → y = none)
    (h1 : x.getD 0 = l) (h2 : y.getD n = h) (h3 : l ≤ h) (h4 : h ≤ n) : (Instr.sliceAt T (.pointer (some a)) lo hi none).run P w = .ok (.slice (some (if n = l then a else a.add (l * r.size))) (h - l) (n - l)) w := by
  have hb := run_bounds (P := P) (w := w) (b := false) hlo hln hhi hhn h1 h2 h3 h4
  simp only [Instr.sliceAt, Sem.run_bind, run_underlying hu, Result.andThen_ok, Instr.sureAddr, hb, run_sizeOf he, Sem.run_pure]
/-- Where the part begins. -/
def offA (cap l o s : Nat) : Nat := if cap = l then o else o + l * s
theorem offA_lt {cap l o s : Nat} (h : l < cap) : offA cap l o s = o + l * s := by unfold offA; rw [if_neg (by omega)]
theorem offA_eq {cap l g o s : Nat} : (if cap = l then (⟨g, o, none⟩ : Addr) else Addr.add ⟨g, o, none⟩ (l * s)) = ⟨g, offA cap l o s, none⟩ := by
  unfold offA Addr.add
  split
  · rfl
  · split <;> simp_all
theorem optI_ok (hF : FrOk n a σ.L F) {x : Option Operand} {y : Option Int} (h : optI F x = some y) : (∀ v, x.map a.eval = some v → ∃ k m, v = .int k m ∧ y = some m) ∧ (x.map a.eval = none → y = none) := by
  cases x with
  | none => obtain rfl := Option.some.inj h; simp
  | some x =>
    simp only [optI] at h
    split at h <;> first | (cases h; done) | skip
    rename_i k m hx
    obtain rfl := Option.some.inj h
    refine ⟨fun v hv => ?_, fun q => by simp at q⟩
    obtain rfl : a.eval x = v := by simpa using hv
    exact ⟨k, m, (evO_ok hF hx).1, rfl⟩
/-- Such an operation yields its value in every world that is az the first one was, but for what is known here. -/
theorem rdN_ok (hT : TbOk P tb) (hF : FrOk n a σ.L F) {o : Oper} {K : SV → Prop} {p : Prop} (h : rdN tb F σ K o.op = some p) (hp : p) :
    ∃ v, (∀ w, Fp (fun k => σ.S k ∨ ∃ e ∈ σ.L, e.b = k) σ.w0 w → (execOp a.eval o).run P w = .ok (.value v.den) w) ∧ v.ok σ.L ∧ K v := by
  obtain ⟨dst, op, ty, pos, after, gu⟩ := o
  simp only at h
  unfold rdN at h
  split at h
  · rename_i T x i
    split at h <;> first | (cases h; done) | skip
    · rename_i e s z g o len cap k m ht hx hi
      split at h <;> first | (cases h; done) | skip
      rename_i r hr
      obtain rfl := Option.some.inj h
      obtain ⟨j, rfl, hj, hK⟩ := hp.out
      refine ⟨.e (.c (.v (.pointer (some ⟨g, o + j * r.size, none⟩)))), fun w _ => ?_, rfl, hK⟩
      have e1 := (evO_ok hF hx).1
      have e2 := (evO_ok hF hi).1
      simp only [SV.den, EV.den, CV.den] at e1 e2
      simp only [execOp, e1, e2, Instr.indexAt, asIntOf, Sem.run_bind, Sem.run_pure, run_underlying (und_slice (tbl_d hT ht)), Result.andThen_ok]
      have : (0 : Int) ≤ j ∧ (j : Int) < len := by omega
      have ha : Addr.add ⟨g, o, none⟩ (j * r.size) = ⟨g, o + j * r.size, none⟩ := by unfold Addr.add; split <;> simp_all
      simp [this, run_sizeOf (tbl_ok hT hr), SV.den, EV.den, CV.den, ha]
    · rename_i e s z p g o len cap k m ht hx hi
      split at h <;> first | (cases h; done) | skip
      rename_i r hr
      obtain rfl := Option.some.inj h
      obtain ⟨j, rfl, hj, hK⟩ := hp.out
      refine ⟨.e (.c (.p p g (o + j * r.size))), fun w _ => ?_, (evO_ok hF hx).2, hK⟩
      have e1 := (evO_ok hF hx).1
      have e2 := (evO_ok hF hi).1
      simp only [SV.den, EV.den, CV.den] at e1 e2
      simp only [execOp, e1, e2, Instr.indexAt, asIntOf, Sem.run_bind, Sem.run_pure, run_underlying (und_slice (tbl_d hT ht)), Result.andThen_ok]
      have : (0 : Int) ≤ j ∧ (j : Int) < len := by omega
      have ha : Addr.add ⟨g, o, none⟩ (j * r.size) = ⟨g, o + j * r.size, none⟩ := by unfold Addr.add; split <;> simp_all
      simp [this, run_sizeOf (tbl_ok hT hr), SV.den, EV.den, CV.den, ha]
    · rename_i e s z p g o zz len kk xx k m ht hx hi
      split at h <;> first | (cases h; done) | skip
      rename_i r hr
      obtain rfl := Option.some.inj h
      obtain ⟨j, rfl, hj, hK⟩ := hp.out
      refine ⟨.e (.c (.p p g (o + j * r.size))), fun w _ => ?_, (by obtain ⟨e0, q1, q2, q3, _⟩ := (evO_ok hF hx).2; exact ⟨e0, q1, q2, q3⟩), hK⟩
      have e1 := (evO_ok hF hx).1
      have e2 := (evO_ok hF hi).1
      simp only [SV.den, EV.den, CV.den] at e1 e2
      simp only [execOp, e1, e2, Instr.indexAt, asIntOf, Sem.run_bind, Sem.run_pure, run_underlying (und_slice (tbl_d hT ht)), Result.andThen_ok]
      have : (0 : Int) ≤ j ∧ (j : Int) < len := by omega
      have ha : Addr.add ⟨g, o, none⟩ (j * r.size) = ⟨g, o + j * r.size, none⟩ := by unfold Addr.add; split <;> simp_all
      simp [this, run_sizeOf (tbl_ok hT hr), SV.den, EV.den, CV.den, ha]
    · rename_i len e s z y k m ht hx hi
      split at h <;> first | (cases h; done) | skip
      rename_i r v0 hr h0
      obtain rfl := Option.some.inj h
      obtain ⟨j, rfl, hj, v, hv, hK⟩ := hp.out
      obtain ⟨ad, h3, h4, h5⟩ := atS_ok hv (evO_ok hF hx).2
      refine ⟨v, fun w _ => ?_, h5, hK⟩
      have e1 := (evO_ok hF hx).1
      have e2 := (evO_ok hF hi).1
      simp only [SV.den, EV.den, CV.den] at e2
      simp only [execOp, e1, h3, e2, Instr.indexAt, asIntOf, Sem.run_bind, Sem.run_pure, run_underlying (und_array (tbl_d hT ht)), Result.andThen_ok, Instr.sureAddr]
      have : (0 : Int) ≤ j ∧ (j : Int) < len := by omega
      simp [this, run_sizeOf (tbl_ok hT hr), h4]
  · rename_i T x
    split at h <;> first | (cases h; done) | skip
    rename_i r g o hr hx
    have e1 := (evO_ok hF hx).1
    simp only [SV.den, EV.den, CV.den] at e1
    obtain ⟨i0, _, _, hd, _⟩ := vr_info (tbl_ok hT hr)
    have cells : ∀ {cs : List CV}, (∀ (k : Nat) (x : CV), cs[k]? = some x → σ.w0.cell? ⟨g, o + k, none⟩ = some x.den) → g < σ.w0.heap.size → ¬ σ.S g → (∀ e ∈ σ.L, e.b ≠ g) → ∀ w, Fp (fun k => σ.S k ∨ ∃ e ∈ σ.L, e.b = k) σ.w0 w → ∀ (k : Nat) (x : CV), cs[k]? = some x → w.cell? ⟨g, o + k, none⟩ = some x.den :=
      fun hc hg hs he w hw k x hk => (hw.cell (p := ⟨g, o + k, none⟩) hg (fun q => q.elim hs fun ⟨e, h1, h2⟩ => he e h1 h2)).trans (hc k x hk)
    rcases ha : r.d.agg with _ | _
    · rw [ha] at h
      rcases hsu : r.d.sure with _ | _
      · rw [hsu] at h; cases h
      rw [hsu] at h
      obtain rfl := Option.some.inj h
      obtain ⟨cs, h1, h2, h3, h4, h5, h6, x, rfl, hK⟩ := hp.out
      have hg := agg_of hd hsu
      rw [ha] at hg
      refine ⟨.e (.c x), fun w hw => ?_, h6 x (List.mem_singleton.2 rfl), hK⟩
      have := cells h2 h3 h4 h5 w hw 0 x rfl
      simp only [execOp, e1, Instr.loadAt, Instr.sureAddr, Sem.run_bind, Sem.run_pure, Result.andThen_ok, loadVar, (run_isAgg w).1 (by simpa using hg), Bool.false_eq_true, if_false]
      simp only [Nat.add_zero] at this
      simp [this, SV.den, EV.den]
    · rw [ha] at h
      obtain rfl := Option.some.inj h
      obtain ⟨cs, h1, h2, h3, h4, h5, h6, hK⟩ := hp.out
      have hsu : r.d.sure = true := by revert ha; cases r.d <;> simp [TD.agg, TD.sure]
      have hg := agg_of hd hsu
      rw [ha] at hg
      refine ⟨.e (.a cs), fun w hw => ?_, h6, hK⟩
      have hcc := cells h2 h3 h4 h5 w hw
      have hrun := run_loadCells_list (P := P) (w := w) ⟨g, o, none⟩ (cs.map CV.den) (fun j v hv => by
        rw [List.getElem?_map] at hv
        rcases hlj : cs[j]? with _ | x
        · rw [hlj] at hv; simp at hv
        · rw [hlj] at hv
          obtain rfl : x.den = v := by simpa using hv
          have := hcc j x hlj
          cases j with
          | zero => simpa [Addr.add] using this
          | succ j => simpa [Addr.add] using this)
      rw [List.length_map, h1] at hrun
      simp only [execOp, e1, Instr.loadAt, Instr.sureAddr, Sem.run_bind, Sem.run_pure, Result.andThen_ok, loadVar, (run_isAgg w).2 (by simpa using hg), if_true, run_sizeOf (tbl_ok hT hr), hrun]
      rfl
  · rename_i T x i
    split at h <;> first | (cases h; done) | skip
    rename_i sz z s k m ht hx hi
    obtain rfl := Option.some.inj h
    obtain ⟨j, rfl, hj, hK⟩ := hp.out
    refine ⟨cI .u8 (s[j]).toNat, fun w _ => ?_, trivial, hK⟩
    have e1 := (evO_ok hF hx).1
    have e2 := (evO_ok hF hi).1
    simp only [SV.den, EV.den, CV.den] at e1 e2
    simp only [execOp, e1, e2, Instr.index, asIntOf, Sem.run_bind, Sem.run_pure, run_underlying (und_str (tbl_d hT ht)), Result.andThen_ok]
    have : (0 : Int) ≤ j := by omega
    simp [hj, SV.den, EV.den, CV.den]
  · rename_i T x lo hi
    split at h <;> first | (cases h; done) | skip
    · rename_i sz z s l h' ht hx hl hh
      obtain rfl := Option.some.inj h
      obtain ⟨l', h'', q1, q2, q3, q4, hK⟩ := hp.out
      refine ⟨.e (.c (.v (.string (s.extract l' h'')))), fun w _ => ?_, rfl, hK⟩
      have e1 := (evO_ok hF hx).1
      simp only [SV.den, EV.den, CV.den] at e1
      have a1 := optI_ok hF hl
      have a2 := optI_ok hF hh
      simp only [execOp, e1, Option.map_none, Sem.run_bind, run_strCut (w := w) (und_str (tbl_d hT ht)) a1.1 a1.2 a2.1 a2.2 q1 q2 q3 q4, Result.andThen_ok, Sem.run_pure]
      rfl
    · rename_i e sz z g o len cap l h' ht hx hl hh
      split at h <;> first | (cases h; done) | skip
      rename_i r hr
      obtain rfl := Option.some.inj h
      obtain ⟨l', h'', q1, q2, q3, q4, hK⟩ := hp.out
      refine ⟨.e (.c (.v (.slice (some ⟨g, offA cap l' o r.size, none⟩) (h'' - l') (cap - l')))), fun w _ => ?_, rfl, hK _ offA_lt⟩
      have e1 := (evO_ok hF hx).1
      simp only [SV.den, EV.den, CV.den] at e1
      have a1 := optI_ok hF hl
      have a2 := optI_ok hF hh
      simp only [execOp, e1, Option.map_none, Sem.run_bind, run_slCut (w := w) (und_slice (tbl_d hT ht)) (tbl_ok hT hr) a1.1 a1.2 a2.1 a2.2 q1 q2 q3 q4, Result.andThen_ok, Sem.run_pure, offA_eq]
      rfl
    · rename_i e sz z p' g o len cap l h' ht hx hl hh
      split at h <;> first | (cases h; done) | skip
      rename_i r hr
      obtain rfl := Option.some.inj h
      obtain ⟨l', h'', q1, q2, q3, q4, hK⟩ := hp.out
      refine ⟨.e (.c (.s p' g (offA cap l' o r.size) (h'' - l') (cap - l'))), fun w _ => ?_, (evO_ok hF hx).2, hK _ offA_lt⟩
      have e1 := (evO_ok hF hx).1
      simp only [SV.den, EV.den, CV.den] at e1
      have a1 := optI_ok hF hl
      have a2 := optI_ok hF hh
      simp only [execOp, e1, Option.map_none, Sem.run_bind, run_slCut (w := w) (und_slice (tbl_d hT ht)) (tbl_ok hT hr) a1.1 a1.2 a2.1 a2.2 q1 q2 q3 q4, Result.andThen_ok, Sem.run_pure, offA_eq]
      rfl
    · rename_i e sz z p' g o zz len kk xx l h' ht hx hl hh
      split at h <;> first | (cases h; done) | skip
      rename_i r hr
      rcases hz : Nat.beq zz r.size with _ | _
      · rw [hz] at h; cases h
      rw [hz] at h
      obtain rfl : zz = r.size := Nat.eq_of_beq_eq_true hz
      obtain rfl := Option.some.inj h
      obtain ⟨l', h'', q1, q2, q3, q4, hK⟩ := hp.out
      have hoff : l' < kk → offA (kk + xx) l' o r.size = o + l' * r.size := fun q => offA_lt (by omega)
      obtain ⟨e0, g1, g2, g3, g4, g5⟩ := (evO_ok hF hx).2
      have ec : kk - l' + xx = kk + xx - l' := by omega
      refine ⟨.e (.c (.gs p' g (offA (kk + xx) l' o r.size) r.size (h'' - l') (kk - l') xx)), fun w _ => ?_, ⟨e0, g1, g2, g3, ?_, by omega⟩, hK _ hoff⟩
      · have e1 := (evO_ok hF hx).1
        simp only [SV.den, EV.den, CV.den] at e1
        have a1 := optI_ok hF hl
        have a2 := optI_ok hF hh
        simp only [execOp, e1, Option.map_none, Sem.run_bind, run_slCut (w := w) (und_slice (tbl_d hT ht)) (tbl_ok hT hr) a1.1 a1.2 a2.1 a2.2 q1 q2 q3 (show h'' ≤ kk + xx by omega), Result.andThen_ok, Sem.run_pure, offA_eq]
        simp only [SV.den, EV.den, CV.den, ec]
      · rcases g4 with g4 | ⟨N, g4, g6⟩
        · exact Or.inl g4
        · refine Or.inr ⟨N, g4, ?_⟩
          rw [ec]
          unfold offA
          split
          · rename_i q; rw [q, Nat.sub_self, Nat.zero_mul]; omega
          · have : l' * r.size + (kk + xx - l') * r.size = (kk + xx) * r.size := by rw [← Nat.add_mul]; congr 1; omega
            omega
    · rename_i m e sz z g o l h' ht hx hl hh
      split at h <;> first | (cases h; done) | skip
      rename_i r hr
      obtain rfl := Option.some.inj h
      obtain ⟨l', h'', q1, q2, q3, q4, hK⟩ := hp.out
      refine ⟨.e (.c (.v (.slice (some ⟨g, offA m l' o r.size, none⟩) (h'' - l') (m - l')))), fun w _ => ?_, rfl, hK _ offA_lt⟩
      have e1 := (evO_ok hF hx).1
      simp only [SV.den, EV.den, CV.den] at e1
      have a1 := optI_ok hF hl
      have a2 := optI_ok hF hh
      simp only [execOp, e1, Option.map_none, Sem.run_bind, run_arCut (w := w) (und_array (tbl_d hT ht)) (tbl_ok hT hr) a1.1 a1.2 a2.1 a2.2 q1 q2 q3 q4, Result.andThen_ok, Sem.run_pure, offA_eq]
      rfl
    · rename_i m e sz z p' g o l h' ht hx hl hh
      split at h <;> first | (cases h; done) | skip
      rename_i r hr
      obtain rfl := Option.some.inj h
      obtain ⟨l', h'', q1, q2, q3, q4, hK⟩ := hp.out
      refine ⟨.e (.c (.s p' g (offA m l' o r.size) (h'' - l') (m - l'))), fun w _ => ?_, (evO_ok hF hx).2, hK _ offA_lt⟩
      have e1 := (evO_ok hF hx).1
      simp only [SV.den, EV.den, CV.den] at e1
      have a1 := optI_ok hF hl
      have a2 := optI_ok hF hh
      simp only [execOp, e1, Option.map_none, Sem.run_bind, run_arCut (w := w) (und_array (tbl_d hT ht)) (tbl_ok hT hr) a1.1 a1.2 a2.1 a2.2 q1 q2 q3 q4, Result.andThen_ok, Sem.run_pure, offA_eq]
      rfl
  · cases h
theorem opS_ok (hc : CxOk P tb fo) (hF : FrOk n a σ.L F) (hS : St σ w) {o : Oper} (h : opS P tb fo n o F W σ K) :
    o.wp P a w (fun a' w' => ∃ v σ', a' = a.put o.dst v.den ∧ Pst W σ K v σ' w') (fun _ _ _ => False) := by
  have he := effS_ok hc.tb hF hS (o := o)
  unfold opS at h
  rcases hq : effS tb F σ.L o.op with _ | v | ⟨j, L'⟩ | ⟨cs, T⟩ | ⟨cs, T, m⟩
  · rw [hq] at h
    simp only at h
    rcases hr : rdN tb F σ (fun v => K v σ) o.op with _ | p
    · rw [hr] at h
      simp only at h
      rcases hs : stN tb F W σ (fun σ' => K undefV σ') o.op with _ | p
      · rw [hs] at h; exact callS_ok hc hF hS h
      · rw [hs] at h
        obtain ⟨dst, op, ty, pos, after, gu⟩ := o
        simp only at hs h
        unfold stN at hs
        split at hs <;> first | (cases hs; done) | skip
        rename_i T x y
        split at hs <;> first | (cases hs; done) | skip
        rename_i r g o y' hr hx hy
        split at hs <;> first | (cases hs; done) | skip
        rename_i vs hv
        rcases hn : Nat.beq vs.length r.size with _ | _
        · rw [hn] at hs; cases hs
        rw [hn] at hs
        obtain rfl := Option.some.inj hs
        obtain ⟨h1, σ', h2, h3, h4, h5⟩ := h.out w hS
        have e1 := (evO_ok hF hx).1
        simp only [SV.den, EV.den, CV.den] at e1
        obtain ⟨v1, v2⟩ := valsE_ok hv (evO_ok hF hy).2
        have hsz : y'.den.cells.size = r.size := by rw [← Array.length_toList, v1, List.length_map]; simpa using hn
        have hrun := run_storeCells_cv (P := P) (b := g) (u := o) (vs.map CV.den) 0 w (fun v hv => by obtain ⟨x, hx, rfl⟩ := List.mem_map.1 hv; exact one_den (v2 x hx)) (fun k hk => by
          have := h1 k (by simpa using hk)
          simpa using this)
        rw [Oper.wp]
        simp only [execOp, e1, (evO_ok hF hy).1, Instr.storeAt, Instr.sureAddr, Sem.run_bind, Sem.run_pure, Result.andThen_ok, storeVar, run_sizeOf (tbl_ok hc.tb hr), hsz, ne_eq, not_true_eq_false, if_false, v1]
        rw [hrun]
        exact ⟨undefV, σ', rfl, (fun x hx => by cases hx), h3, h2, h4, h5⟩
    · rw [hr] at h
      obtain ⟨v, h1, h2, h3⟩ := rdN_ok (P := P) hc.tb hF hr h
      rw [Oper.wp, h1 w hS.fp]
      exact ⟨v, σ, rfl, h2, Ext.refl _, hS, KpW.refl _ _, h3⟩
  · rw [hq] at h he
    rw [Oper.wp, he.1]
    exact ⟨v, σ, rfl, he.2, Ext.refl _, hS, KpW.refl _ _, h⟩
  · rw [hq] at h he
    simp only at h
    obtain ⟨w', h1, h2, h3, h4⟩ := he
    rcases hu : okU W j with _ | _
    · rw [hu] at h; cases h
    rw [hu] at h
    rw [Oper.wp, h1]
    refine ⟨undefV, _, rfl, fun x hx => (by cases hx), h3, h2, ?_, h⟩
    cases W with
    | none => trivial
    | some p =>
      refine ⟨rfl, rfl, fun i e hi he => ?_, fun e he => ?_⟩
      · have hij : i ≠ j := fun q => by
          subst q
          simp [okU, hi] at hu
        rw [h4 i hij]; exact he
      · obtain ⟨i, hi⟩ := List.mem_iff_getElem?.1 he
        by_cases hij : i = j
        · subst hij
          rcases hL : σ.L[i]? with _ | f
          · exact Or.inr (by
              have hl1 : σ.L.length ≤ i := by simpa using hL
              have hl2 : i < L'.length := (List.getElem?_eq_some_iff.1 hi).1
              exfalso
              have := upd_len hq
              omega)
          · obtain ⟨f', k1, k2, _⟩ := h3 i f hL
            rw [hi] at k1
            obtain rfl := Option.some.inj k1
            exact Or.inl ⟨f, List.mem_of_getElem? hL, k2.symm⟩
        · rw [h4 i hij] at hi
          exact Or.inl ⟨e, List.mem_of_getElem? hi, rfl⟩
  · rw [hq] at h he
    rw [Oper.wp, he.1]
    have hb := hS.fp.size
    refine ⟨.e (.c (.p σ.L.length w.heap.size 0)), _, rfl, ⟨⟨w.heap.size, 0, cs, .obj T⟩, by simp, rfl, rfl⟩, Ext.push _ _, hS.new he.2 T, ?_, h _ hb⟩
    cases W with
    | none => trivial
    | some p =>
      refine ⟨rfl, rfl, fun i e hi he => ?_, fun e he => ?_⟩
      · rw [List.getElem?_append_left (List.getElem?_eq_some_iff.1 he).1]; exact he
      · rcases List.mem_append.1 he with he | he
        · exact Or.inl ⟨e, he, rfl⟩
        · obtain rfl := List.mem_singleton.1 he
          exact Or.inr hb
  · rw [hq] at h he
    rw [Oper.wp, he.1]
    have hb := hS.fp.size
    refine ⟨.e (.c (.s σ.L.length w.heap.size 0 m m)), _, rfl, ⟨⟨w.heap.size, 0, cs, .obj T⟩, by simp, rfl, rfl⟩, Ext.push _ _, hS.new he.2 T, ?_, h _ hb⟩
    cases W with
    | none => trivial
    | some p =>
      refine ⟨rfl, rfl, fun i e hi he => ?_, fun e he => ?_⟩
      · rw [List.getElem?_append_left (List.getElem?_eq_some_iff.1 he).1]; exact he
      · rcases List.mem_append.1 he with he | he
        · exact Or.inl ⟨e, he, rfl⟩
        · obtain rfl := List.mem_singleton.1 he
          exact Or.inr hb
end
end
end Go.Proofs.YthmokdfigjffjaaGreatDoor
